/- The ground and the walks of this claim, part 2: XFork XSpan2 XSpan3 XRuns XRuns2 XRuns3 XRuns4 XRuns5 XPool XPool2 XPool3 XPool4 XVault XVault2 XVault3 XRef11 XRef11b XInts XTrees XTrees2 XTrees3 XRows XWalk XPo XPo2 XPo3 XPo3b XPo4 XVa XVa2 XVa3 XVa4 XVa5 XVa6 XVa7 XNode. -/
import Derived.Test.YteifbglognfgdaaGreatDoorY1
namespace Go.Proofs.YteifbglognfgdaaGreatDoor.X
open _root_.Go.Proofs.Tryz _root_.Go.Proofs.YteifbglognfgdaaGreatDoor.Tryz
set_option linter.unusedVariables false
set_option linter.unusedSimpArgs false
set_option maxRecDepth 20000
set_option maxHeartbeats 8000000
section
variable {P : Program} {ops : Array Oper}
def nm (pre : List Nat) (listed : Array Bool) : Array Bool := pre.foldl (fun l i => l.setIfInBounds i true) listed
def PE (P : Program) (ops : Array Oper) : List Nat -> Array Bool -> Bool
 | [], _ => true
 | i :: r, listed => (Region.ready .any ops listed).contains i && WX P ops listed i && PE P ops r (listed.setIfInBounds i true)
theorem A6 {n : Nat} (gJ : Co P .any ops n) {Q : Act -> World -> Prop} (fuel : Nat) (Kc : Act -> World -> Prop) : ∀ (pre : List Nat) (listed : Array Bool) (done : List Nat) (a : Act) (w : World), a.tmps.size = n -> kS .any ops listed →
  (∀ q ∈ done, listed.getD q false = true) -> PE P ops pre listed = true →
  (∀ a w, Kc a w -> a.tmps.size = n -> kS .any ops (nm pre listed) -> (∀ q ∈ pre.reverse ++ done, (nm pre listed).getD q false = true) -> Ck P .any ops Q fuel (nm pre listed) (pre.reverse ++ done) a w) →
  SL P ops Kc done pre a w -> Ck P .any ops Q (pre.length + fuel) listed done a w
 | [], listed, done, a, w, dm, hc, hd, _, hk, h => by
  have := hk a w h dm hc (by simpa [nm] using hd)
  simpa [nm] using this
 | i :: r, listed, done, a, w, dm, hc, hd, hB, hk, h => by
  simp only [PE, qD] at hB;obtain ⟨⟨hr, hf⟩, hB'⟩ := hB;have JK : i ∈ Region.ready .any ops listed := by simpa using hr
  obtain ⟨_, oi, S6, _⟩ := mem_ready.1 JK;simp only [SL, S6] at h;have WT : (i :: r).length + fuel = (r.length + fuel) + 1 := by simp only [jO]; omega
  rw [WT];refine GH gJ S6 (r.length + fuel) listed done a w dm hc hd (fun j oj hj Fm OU GQ => ?_) JK ?_
  ·have iD : j < ops.size := (sO.1 hj).1;have h1 := yR.1 hf j (sL.2 iD);have hb : (j == i) = false := by simpa using Fm
   have Be : (si .any ops i).contains j = false := by
    cases hx : (si .any ops i).contains j with
    | false => rfl
    | true => exact absurd (By.1 hx) GQ
   simp only [hb, OU, Be, Bool.false_or, S6, hj, qD] at h1;exact h1
  refine hG (fun v w' h' => A6 gJ fuel Kc r _ _ _ _ (sP dm _ _) (hc.set JK) (fun q hq => ?_) hB' (fun a w hK hs YJ yk => ?_) h') h
  ·rcases bB.1 hq with rfl | hq
   ·have iD : q < listed.size := by rw [hc.size]; exact (sO.1 S6).1
    simp [iD]
   exact getD_set_true (hd q hq)
  have aau : (i :: r).reverse ++ done = r.reverse ++ i :: done := by simp
  have lG : nm (i :: r) listed = nm r (listed.setIfInBounds i true) := rfl;have := hk a w hK hs (by rw [lG]; exact YJ) (by rw [aau, lG]; exact yk);rw [aau, lG] at this;exact this
def Xs (P : Program) (ops : Array Oper) (n : Nat) (pre : List Nat) (i : Nat) (r1 : List Nat) (j : Nat) (r2 : List Nat) : Bool :=
 Region.noSelect ops && VK n ops && Jh P ops && (pre.length + (r1.length + 1) == ops.size) && (r2.length == r1.length) && PE P ops pre (Array.replicate ops.size false) &&
  (Region.ready .any ops (nm pre (Array.replicate ops.size false))).all (fun k => k == i || k == j) && !(Region.ready .any ops (nm pre (Array.replicate ops.size false))).isEmpty &&
  G4 P ops r1 ((nm pre (Array.replicate ops.size false)).setIfInBounds i true) && G4 P ops r2 ((nm pre (Array.replicate ops.size false)).setIfInBounds j true)
theorem IV {n : Nat} (gJ : Co P .any ops n) {Q : Act -> World -> Prop} {i : Nat} {r : List Nat} {listed : Array Bool} {done : List Nat} {a : Act} {w : World} (dm : a.tmps.size = n) (hc : kS .any ops listed) (hd : ∀ q ∈ done, listed.getD q false = true)
  (hr : i ∈ Region.ready .any ops listed) (hB : G4 P ops r (listed.setIfInBounds i true) = true) (h : SL P ops Q done (i :: r) a w) : ∀ o, ops[i]? = some o -> me P .any ops done i o (Ck P .any ops Q r.length (listed.setIfInBounds i true) (i :: done)) a w := by
 intro o ho;simp only [SL, ho] at h;refine hG (fun v w' h' => A7 gJ r _ _ _ _ (sP dm _ _) (hc.set hr) (fun q hq => ?_) hB h') h;rcases bB.1 hq with rfl | hq
 ·have iD : q < listed.size := by rw [hc.size]; exact (sO.1 ho).1
  simp [iD]
 exact getD_set_true (hd q hq)
theorem Ej {ro : Option Nat} {n : Nat} (pre : List Nat) (i : Nat) (r1 : List Nat) (j : Nat) (r2 : List Nat) {id : Nat} {Q : Exit -> Act -> World -> Prop} {a : Act} {w : World} (hm : P.follows .mixedOrders = true) (hB : Xs P ops n pre i r1 j r2 = true) (dm : a.tmps.size = n)
  (h : SL P ops (fun a' w' => SL P ops (Q .normal) pre.reverse (i :: r1) a' w' /\ SL P ops (Q .normal) pre.reverse (j :: r2) a' w') [] pre a { w with drawn := w.drawn + 1 }) : (Code.region id ops true).wpIn (Fw ro) 0 P Q a w := by
 simp only [Xs, qD, beq_iff_eq] at hB;obtain ⟨⟨⟨⟨⟨⟨⟨⟨⟨h1, h2⟩, h3⟩, h4⟩, h5⟩, h6⟩, h7⟩, h8⟩, h9⟩, oG⟩ := hB;refine wpIn_region_any hm (oz (Q := Q .normal) (fun _ _ h => h) _ _ [] _ _ ?_);have gJ := Ge (n := n) h1 h2 h3;have bQ := A6 gJ (Q := Q .normal) (r1.length + 1) (fun a' w' => SL P ops (Q .normal) pre.reverse (i :: r1) a' w' /\ SL P ops (Q .normal) pre.reverse (j :: r2) a' w') pre (Array.replicate ops.size false) [] a _ dm ⟨by simp, fun j o ho hl => ?_⟩ (fun q hq => by cases hq) h6
  (fun a' w' hK hs hc hd => ⟨fun h0 => ?_, fun k hk o ho => ?_⟩) h
 ·rw [h4] at bQ;exact bQ
 ·exfalso;rcases K2 j ops.size with h' | h'
  ·simp [h'] at hl
  simp [R9 (show (Array.replicate ops.size false).size <= j by simpa using h')] at hl
 ·rw [h0] at h8; simp at h8
 have yk : ∀ q ∈ pre.reverse, (nm pre (Array.replicate ops.size false)).getD q false = true := fun q hq => hd q (by simpa using hq)
 have h7' := yR.1 h7 k hk;simp only [Bool.or_eq_true, beq_iff_eq] at h7';rw [show pre.reverse ++ ([] : List Nat) = pre.reverse from my _];rcases h7' with rfl | rfl
 ·exact IV gJ hs hc yk hk h9 hK.1 o ho
 rw [<-h5]; exact IV gJ hs hc yk hk oG hK.2 o ho
end
section
variable {P : Program} {n : Nat} {ro : Option Nat} {ops : Array Oper} {K : mK} {E : List (Nat × mK)} {F : mK} {e : gj} {w : World}
theorem IZ {id : Nat} (pre : List Nat) (i : Nat) (r1 : List Nat) (j : Nat) (r2 : List Nat) (hm : P.follows .mixedOrders = true) (hB : Xs P ops n pre i r1 j r2 = true)
  (h : XL P n ops true [] pre (fun e' w' => XL P n ops true pre.reverse (i :: r1) K e' w' /\ XL P n ops true pre.reverse (j :: r2) K e' w') e { w with drawn := w.drawn + 1 }) : X P n ro (.region id ops true) K E F e w := fun a ha => by
 refine Ej pre i r1 j r2 hm hB ha.size ?_;refine rV (fun a' w' ⟨e', Hh, h1, h2⟩ => ⟨h1 a' Hh, h2 a' Hh⟩) _ _ _ _ (h a ha)
end
section
variable {G : Gh} {L R : List az} {w : World}
theorem AI {a b : yE} (hw : ar G L w) (ha : a.Ok L) (hb : b.Ok L) :
  Calls prog 103 #[gQ a.cells, gQ b.cells] w (dv fun u w' => ∃ r : yE, u = gQ r.cells /\ r.rg = gL a.rg b.rg /\ jN r.cells /\ ar G (tR r ++ L) w') := by
 have CT := ha.lo;have hah := ha.hi;have WV := hb.lo;have hbh := hb.hi;obtain ⟨qa, dqa, Pa, ha2⟩ := Cf a.rg.eR;obtain ⟨qb, dqb, ue, Be⟩ := Cf b.rg.eR;have hca : a.cells = [a.lv, a.hv, .bool (decide qa)] := by rw [<-Pa]; rfl
 have hcb : b.cells = [b.lv, b.hv, .bool (decide qb)] := by rw [<-ue]; rfl
 rw [hca, hcb];have ho : (gL a.rg b.rg).eR = decide (qa /\ qb) := by show (a.rg.eR && b.rg.eR) = _; rw [Pa, ue, Bool.decide_and]
 have hh : (gL a.rg b.rg).hi = if a.rg.eR = true then (if b.rg.eR = true then [] else b.rg.hi) else if b.rg.eR = true then a.rg.hi else xM a.rg.hi b.rg.hi := rfl
 refine al (args := [_, _]) func103 rfl ntmps103 rfl rfl ?_;refine z2 ?_;refine bE rfl rfl rfl hw rfl fun w b2 hw => ?_;refine bE rfl rfl rfl hw rfl fun w b3 hw => ?_;refine aN rfl mN hw rfl fun w b4 hw => ?_;refine aH ?_;refine mZ (fun e w => ∃ (sC : Option Addr) (tE b5 : Nat), e = [(2, pQ b2), (3, pQ b3), (4, pQ b4), (5, pQ b5)] /\ ar G (ag b2 [a.lv, a.hv, .bool (decide qa)] 64 :: ag b3 [b.lv, b.hv, .bool (decide qb)] 64 :: ag b4 [nQ, nQ, .bool false] 64 :: ag b5 [.slice sC (ju a.rg.lo b.rg.lo).length tE, nQ, .bool (decide (qa /\ qb))] 64 :: row 5 1 (.slice sC (ju a.rg.lo b.rg.lo).length tE) (ju a.rg.lo b.rg.lo).length (dV (ju a.rg.lo b.rg.lo)) :: L) w) ?_ ?_
 ·
  refine IZ [0, 1, 2, 3, 5, 6] 4 [7, 8, 9, 10, 11, 12, 13] 12 [4, 7, 8, 9, 10, 11, 13] bK kR ?_;replace hw := hw.drawn (w.drawn + 1);refine z1 ?_;refine lD ay hw ?_;refine z1 ?_;refine lD ay hw ?_;refine z1 ?_;refine lD cr hw ?_;refine aH ?_;refine ⟨?_, ?_⟩
  ·
   refine dL rfl yx rfl (AH hw (CT.of sF) (WV.of sF) ha.sl hb.sl) (fun w v10 hv q' hq => ?_) fun w v10 hv => ?_
   ·
    have hw : ar G (row 5 1 v10 _ _ :: _) w := hv;have hq := a9 (l := [6]) kR hq;simp only [bB, cW, or_false] at hq;subst hq;exact aV rfl rfl rfl (aj.bx cr hw pK rfl)
   have hw : ar G (row 5 1 v10 _ _ :: _) w := hv;obtain ⟨sC, tE, rfl⟩ := aM hw;refine z1 ?_;refine aE (d := 13) rfl (fun h1 => ?_) fun h1 => ?_
   ·
    refine z1 ?_;refine lD cr hw ?_;refine z1 ?_;refine aQ (v := .agg #[.slice sC (ju a.rg.lo b.rg.lo).length tE, nQ, .bool (decide qb)]) rfl rfl (fun w => kR) ?_;refine qy rfl mN hw (fun w b5 hw q' hq => ?_) fun w b5 hw => ?_
    ·
     have hq := a9 (l := [9, 6, 3, 1]) kR hq;simp only [bB, cW, or_false] at hq;rcases hq with rfl | rfl | rfl | rfl
     ·exact aV rfl rfl rfl (aj.bx cr hw pK rfl)
     ·exact aV rfl rfl rfl (aj.bx cr hw pK rfl)
     ·exact aV rfl rfl rfl (aj.bx ay hw pK rfl)
     exact aV rfl rfl rfl (aj.bx ay hw pK rfl)
    refine aL (cs := [.slice sC (ju a.rg.lo b.rg.lo).length tE, nQ, .bool (decide qb)]) (l' := [.slice sC (ju a.rg.lo b.rg.lo).length tE, nQ, .bool (decide qb)]) rfl tV rfl rfl bj rfl (by intro u hu; simp at hu; rcases hu with rfl | rfl | rfl <;> rfl) hw pK sM rfl kR (fun w hw => ?_);refine aH ?_;have e1 : decide (qa /\ qb) = decide qb := cZ.2 ⟨fun h => h.2, fun h => ⟨h1, h⟩⟩;rw [e1];exact ⟨[(2, _), (3, _), (4, _), (5, _)], sB, _, _, b5, rfl, hw.b [ag b2 _ _, ag b3 _ _, ag b4 _ _, ag b5 _ _, row 5 1 _ _ _]⟩
   refine z3 ?_;refine aQ (v := .agg #[.slice sC (ju a.rg.lo b.rg.lo).length tE, nQ, .bool (false)]) rfl rfl (fun w => kR) ?_;refine qy rfl mN hw (fun w b5 hw q' hq => ?_) fun w b5 hw => ?_
   ·
    have hq := a9 (l := [9, 6, 3, 1]) kR hq;simp only [bB, cW, or_false] at hq;rcases hq with rfl | rfl | rfl | rfl
    ·exact VV rfl rfl rfl rfl rfl
    ·exact aV rfl rfl rfl (aj.bx cr hw pK rfl)
    ·exact aV rfl rfl rfl (aj.bx ay hw pK rfl)
    exact aV rfl rfl rfl (aj.bx ay hw pK rfl)
   refine aL (cs := [.slice sC (ju a.rg.lo b.rg.lo).length tE, nQ, .bool (false)]) (l' := [.slice sC (ju a.rg.lo b.rg.lo).length tE, nQ, .bool (false)]) rfl tV rfl rfl bj rfl (by intro u hu; simp at hu; rcases hu with rfl | rfl | rfl <;> rfl) hw pK sM rfl kR (fun w hw => ?_);refine aH ?_;have e1 : decide (qa /\ qb) = false := decide_eq_false (fun h => h1 h.1);rw [e1];exact ⟨[(2, _), (3, _), (4, _), (5, _)], sB, _, _, b5, rfl, hw.b [ag b2 _ _, ag b3 _ _, ag b4 _ _, ag b5 _ _, row 5 1 _ _ _]⟩
  refine qy rfl mN hw (fun w b5 hw q' hq => ?_) fun w b5 hw => ?_
  ·
   have hq := a9 (l := [6, 3, 1]) kR hq;simp only [bB, cW, or_false] at hq;rcases hq with rfl | rfl | rfl
   ·exact aV rfl rfl rfl (aj.bx cr hw pK rfl)
   ·exact aV rfl rfl rfl (aj.bx ay hw pK rfl)
   exact aV rfl rfl rfl (aj.bx ay hw pK rfl)
  refine dL rfl yx rfl (AH hw (CT.of sF) (WV.of sF) ha.sl hb.sl) (fun w v10 hv q' hq => ?_) fun w v10 hv => ?_
  ·
   have hw : ar G (row 5 1 v10 _ _ :: _) w := hv;have hq := a9 (l := [6]) kR hq;simp only [bB, cW, or_false] at hq;subst hq;exact aV rfl rfl rfl (aj.bx cr hw pK rfl)
  have hw : ar G (row 5 1 v10 _ _ :: _) w := hv;obtain ⟨sC, tE, rfl⟩ := aM hw;refine z1 ?_;refine aE (d := 13) rfl (fun h2 => ?_) fun h2 => ?_
  ·
   refine z1 ?_;refine lD cr hw ?_;refine z1 ?_;refine aQ (v := .agg #[.slice sC (ju a.rg.lo b.rg.lo).length tE, nQ, .bool (decide qb)]) rfl rfl (fun w => kR) ?_;refine aL (cs := [.slice sC (ju a.rg.lo b.rg.lo).length tE, nQ, .bool (decide qb)]) (l' := [.slice sC (ju a.rg.lo b.rg.lo).length tE, nQ, .bool (decide qb)]) rfl tV rfl rfl bj rfl (by intro u hu; simp at hu; rcases hu with rfl | rfl | rfl <;> rfl) hw pK sM rfl kR (fun w hw => ?_);refine aH ?_;have e1 : decide (qa /\ qb) = decide qb := cZ.2 ⟨fun h => h.2, fun h => ⟨h2, h⟩⟩;rw [e1];exact ⟨[(2, _), (3, _), (4, _), (5, _)], sB, _, _, b5, rfl, hw.b [ag b2 _ _, ag b3 _ _, ag b4 _ _, ag b5 _ _, row 5 1 _ _ _]⟩
  refine z3 ?_;refine aQ (v := .agg #[.slice sC (ju a.rg.lo b.rg.lo).length tE, nQ, .bool (false)]) rfl rfl (fun w => kR) ?_;refine aL (cs := [.slice sC (ju a.rg.lo b.rg.lo).length tE, nQ, .bool (false)]) (l' := [.slice sC (ju a.rg.lo b.rg.lo).length tE, nQ, .bool (false)]) rfl tV rfl rfl bj rfl (by intro u hu; simp at hu; rcases hu with rfl | rfl | rfl <;> rfl) hw pK sM rfl kR (fun w hw => ?_);refine aH ?_;have e1 : decide (qa /\ qb) = false := decide_eq_false (fun h => h2 h.1);rw [e1];exact ⟨[(2, _), (3, _), (4, _), (5, _)], sB, _, _, b5, rfl, hw.b [ag b2 _ _, ag b3 _ _, ag b4 _ _, ag b5 _ _, row 5 1 _ _ _]⟩
 clear hw;rintro e w ⟨sC, tE, b5, rfl, hw⟩;refine z5 ?_;refine lD cr hw ?_;refine z2 ?_;refine aS rfl (fun h3 => ?_) fun h3 => ?_
 ·
  refine z3 ?_;refine bt rfl rfl (aj.cw bj hw pK sM) ?_;refine aL (cs := [.slice sC (ju a.rg.lo b.rg.lo).length tE, nQ, .bool (decide (qa /\ qb))]) (l' := [.slice sC (ju a.rg.lo b.rg.lo).length tE, nQ, .bool (decide (qa /\ qb))]) rfl tV rfl rfl bj rfl (by intro u hu; simp at hu; rcases hu with rfl | rfl | rfl <;> rfl) hw pK sM rfl kR (fun w hw => ?_);refine z2 ?_;exact br rfl rfl ⟨_, rfl, (aj.cw bj hw pK sM)⟩ (by
 have e1 : (gL a.rg b.rg).hi = [] := by rw [hh]; rw [ah (ha2.2 h3.1), ah (Be.2 h3.2)]
 refine ⟨⟨gL a.rg b.rg, .slice sC (ju a.rg.lo b.rg.lo).length tE, nQ⟩, by rw [yE.cells, ho], rfl, by intro u hu; simp [yE.cells] at hu; rcases hu with rfl | rfl | rfl <;> rfl, ?_⟩;have hw := cf hw 5 1;unfold tR;simp only [e1];have hz := (hw.b [ag b2 _ _, ag b3 _ _, ag b4 _ _, ag b5 _ _, row 5 1 (.slice sC _ _) _ _, row 5 1 (.slice none _ _) _ _]).tail.tail.tail.tail;exact hz)
 refine z3 ?_;refine lD cr hw ?_;refine z2 ?_;refine aS rfl (fun h4 => ?_) fun h4 => ?_
 ·
  refine z2 ?_;refine lD ay hw ?_;refine an rfl fE rfl (gp (m := 0) hw (hbh.of sF) hb.sh oM) rfl fun w TT hv => ?_;have hw : ar G (row 5 1 TT _ _ :: _) w := hv;obtain ⟨Wb, Y1, rfl⟩ := aM hw;refine z1 ?_;refine bS (l' := [.slice sC (ju a.rg.lo b.rg.lo).length tE, .slice Wb (b.rg.hi).length Y1, .bool (decide (qa /\ qb))]) rfl tV rfl rfl ay rfl hw pK rfl rfl rfl fun w hw => ?_;refine z3 ?_;refine bt rfl rfl (aj.cw bj hw pK sM) ?_;refine aL (cs := [.slice sC (ju a.rg.lo b.rg.lo).length tE, .slice Wb (b.rg.hi).length Y1, .bool (decide (qa /\ qb))]) (l' := [.slice sC (ju a.rg.lo b.rg.lo).length tE, .slice Wb (b.rg.hi).length Y1, .bool (decide (qa /\ qb))]) rfl tV rfl rfl bj rfl (by intro u hu; simp at hu; rcases hu with rfl | rfl | rfl <;> rfl) hw pK sM rfl kR (fun w hw => ?_);refine z2 ?_;exact br rfl rfl ⟨_, rfl, (aj.cw bj hw pK sM)⟩ (by
 have e1 : (gL a.rg b.rg).hi = b.rg.hi := by rw [hh]; rw [ah (ha2.2 h4), ae (fun h => h3 ⟨h4, Be.1 h⟩)]
 refine ⟨⟨gL a.rg b.rg, .slice sC (ju a.rg.lo b.rg.lo).length tE, .slice Wb (b.rg.hi).length Y1⟩, by rw [yE.cells, ho], rfl, by intro u hu; simp [yE.cells] at hu; rcases hu with rfl | rfl | rfl <;> rfl, ?_⟩;unfold tR;simp only [e1];have hz := (hw.b [ag b2 _ _, ag b3 _ _, ag b4 _ _, ag b5 _ _, row 5 1 (.slice sC _ _) _ _, row 5 1 (.slice Wb _ _) _ _]).tail.tail.tail.tail;exact hz)
 refine z3 ?_;refine lD cr hw ?_;refine z2 ?_;refine aS rfl (fun h5 => ?_) fun h5 => ?_
 ·
  refine z2 ?_;refine lD ay hw ?_;refine an rfl fE rfl (gp (m := 0) hw (hah.of sF) ha.sh oM) rfl fun w RC hv => ?_;have hw : ar G (row 5 1 RC _ _ :: _) w := hv;obtain ⟨a39, c39, rfl⟩ := aM hw;refine z1 ?_;refine bS (l' := [.slice sC (ju a.rg.lo b.rg.lo).length tE, .slice a39 (a.rg.hi).length c39, .bool (decide (qa /\ qb))]) rfl tV rfl rfl ay rfl hw pK rfl rfl rfl fun w hw => ?_;refine z3 ?_;refine bt rfl rfl (aj.cw bj hw pK sM) ?_;refine aL (cs := [.slice sC (ju a.rg.lo b.rg.lo).length tE, .slice a39 (a.rg.hi).length c39, .bool (decide (qa /\ qb))]) (l' := [.slice sC (ju a.rg.lo b.rg.lo).length tE, .slice a39 (a.rg.hi).length c39, .bool (decide (qa /\ qb))]) rfl tV rfl rfl bj rfl (by intro u hu; simp at hu; rcases hu with rfl | rfl | rfl <;> rfl) hw pK sM rfl kR (fun w hw => ?_);refine z2 ?_;exact br rfl rfl ⟨_, rfl, (aj.cw bj hw pK sM)⟩ (by
 have e1 : (gL a.rg b.rg).hi = a.rg.hi := by rw [hh]; rw [ae (fun h => h4 (ha2.1 h)), ah (Be.2 h5)]
 refine ⟨⟨gL a.rg b.rg, .slice sC (ju a.rg.lo b.rg.lo).length tE, .slice a39 (a.rg.hi).length c39⟩, by rw [yE.cells, ho], rfl, by intro u hu; simp [yE.cells] at hu; rcases hu with rfl | rfl | rfl <;> rfl, ?_⟩;unfold tR;simp only [e1];have hz := (hw.b [ag b2 _ _, ag b3 _ _, ag b4 _ _, ag b5 _ _, row 5 1 (.slice sC _ _) _ _, row 5 1 (.slice a39 _ _) _ _]).tail.tail.tail.tail;exact hz)
 refine z2 ?_;refine lD ay hw ?_;refine z1 ?_;refine lD ay hw ?_;refine an rfl HJ rfl (J1 hw (hah.of sF) (hbh.of sF) ha.sh hb.sh) rfl fun w Xk hv => ?_;have hw : ar G (row 5 1 Xk _ _ :: _) w := hv;obtain ⟨a22, c22, rfl⟩ := aM hw;refine z1 ?_;refine bS (l' := [.slice sC (ju a.rg.lo b.rg.lo).length tE, .slice a22 (xM a.rg.hi b.rg.hi).length c22, .bool (decide (qa /\ qb))]) rfl tV rfl rfl ay rfl hw pK rfl rfl rfl fun w hw => ?_;refine z3 ?_;refine bt rfl rfl (aj.cw bj hw pK sM) ?_;refine aL (cs := [.slice sC (ju a.rg.lo b.rg.lo).length tE, .slice a22 (xM a.rg.hi b.rg.hi).length c22, .bool (decide (qa /\ qb))]) (l' := [.slice sC (ju a.rg.lo b.rg.lo).length tE, .slice a22 (xM a.rg.hi b.rg.hi).length c22, .bool (decide (qa /\ qb))]) rfl tV rfl rfl bj rfl (by intro u hu; simp at hu; rcases hu with rfl | rfl | rfl <;> rfl) hw pK sM rfl kR (fun w hw => ?_);refine z2 ?_;exact br rfl rfl ⟨_, rfl, (aj.cw bj hw pK sM)⟩ (by
 have e1 : (gL a.rg b.rg).hi = xM a.rg.hi b.rg.hi := by rw [hh]; rw [ae (fun h => h4 (ha2.1 h)), ae (fun h => h5 (Be.1 h))]
 refine ⟨⟨gL a.rg b.rg, .slice sC (ju a.rg.lo b.rg.lo).length tE, .slice a22 (xM a.rg.hi b.rg.hi).length c22⟩, by rw [yE.cells, ho], rfl, by intro u hu; simp [yE.cells] at hu; rcases hu with rfl | rfl | rfl <;> rfl, ?_⟩;unfold tR;simp only [e1];have hz := (hw.b [ag b2 _ _, ag b3 _ _, ag b4 _ _, ag b5 _ _, row 5 1 (.slice sC _ _) _ _, row 5 1 (.slice a22 _ _) _ _]).tail.tail.tail.tail;exact hz)
end

def cz (x : Int × Int) : List Value := [iQ x.1, iQ x.2]
def mf (x : Int × Int) : Prop := -1099511627776 <= x.1 /\ x.1 <= 1099511627776 /\ -1099511627776 <= x.2 /\ x.2 <= 1099511627776
def nJ (r x : Int × Int) : Int × Int := (max x.1 r.1, min x.2 r.2)
def dW (r : Int × Int) (rs : List (Int × Int)) : List (Int × Int) := (rs.map (nJ r)).filter fun x => decide (x.1 <= x.2)
theorem I4 (r : Int × Int) (rs : List (Int × Int)) (x : Int × Int) : dW r (rs ++ [x]) = dW r rs ++ (if (nJ r x).1 <= (nJ r x).2 then [nJ r x] else []) := by
 unfold dW;rw [il, G3]
 by_cases h : (nJ r x).1 <= (nJ r x).2 <;> simp [h]
theorem Br (rs : List (Int × Int)) : ∀ r ∈ rs.map cz, r.length = 2 := fun r hr => by
 obtain ⟨x, _, rfl⟩ := dd.1 hr; rfl
theorem vD (r : Int × Int) (l l' : List (Int × Int)) : dW r (l ++ l') = dW r l ++ dW r l' := by
 unfold dW; rw [il, G3]
theorem Ek {r x : Int × Int} {rs : List (Int × Int)} {k : Nat} (hx : rs[k]? = some x) (hc : (nJ r x).1 <= (nJ r x).2) : (dW r rs)[(dW r (rs.take k)).length]? = some (nJ r x) := by
 have hk : k < rs.length := (nU.1 hx).1;have e : rs = rs.take k ++ ([x] ++ rs.drop (k + 1)) := by
  have h1 := qd k rs;rw [PW hk] at h1;have h2 : rs[k] = x := by rw [cV hk] at hx; exact Option.some.inj hx
  rw [h2] at h1;exact h1.symm
 have e2 : dW r rs = dW r (rs.take k) ++ ([nJ r x] ++ dW r (rs.drop (k + 1))) := by
  conv => lhs; rw [e]
  rw [vD, vD];have : dW r [x] = [nJ r x] := by unfold dW; simp [hc]
  rw [this]
 rw [e2, xI (eW _), Ab];rfl
theorem zR {r x : Int × Int} {rs : List (Int × Int)} {k : Nat} (hx : rs[k]? = some x) : dW r (rs.take (k + 1)) = dW r (rs.take k) ++ (if (nJ r x).1 <= (nJ r x).2 then [nJ r x] else []) := by
 rw [PQ, hx]; exact I4 _ _ _
def acP (r : Int × Int) (rs : List (Int × Int)) (k : Nat) (args : List Value) (_ : List az) : Prop := ∃ x, (dW r rs)[k]? = some x /\ args = [gQ (cz x)]
theorem oN {v : Value} {A B : Prop} (h : (v = .bool true /\ A) \/ (v = .bool false /\ B)) : ∃ b : Bool, v = .bool b /\ (b = true -> A) /\ (b = false -> B) := by
 rcases h with ⟨rfl, h⟩ | ⟨rfl, h⟩
 ·exact ⟨true, rfl, fun _ => h, fun h => by cases h⟩
 exact ⟨false, rfl, (fun h => by cases h), fun _ => h⟩
section
variable {G : Gh} {L R : List az} {w : World}
theorem tg {n a b : Int} (hw : ar G L w) : Calls prog 167 #[.int .u64 n, .agg #[iQ a, iQ b]] w (dv fun r w' => (∃ m, r = .int .u64 m) /\ ar G L w') := by
 refine al (args := [_, _]) func167 rfl ntmps167 rfl rfl ?_;refine z2 ?_;refine bE rfl rfl rfl hw rfl fun w b3 hw => ?_;refine z5 ?_;refine lD ai hw ?_;refine I3 rfl kR Pq rU rfl ?_;refine z1 ?_;refine lD ai hw ?_;refine I3 rfl kR Pq rU rfl ?_;refine Rl rfl rfl rfl ?_;refine z7 ?_;refine Rl rfl rfl rfl ?_;refine z2 ?_;refine aS rfl (fun h1 => ?_) fun h1 => ?_
 ·
  refine z5 ?_;exact br rfl rfl rfl ⟨⟨_, rfl⟩, hw.tail⟩
 refine z5 ?_;refine Oi rfl rfl rfl ?_;refine Oi rfl rfl rfl ?_;refine z3 ?_;exact br rfl rfl rfl ⟨⟨_, rfl⟩, hw.tail⟩
theorem nD {q : Value} {a b : Int} (hw : ar G L w) (hq : ∃ z, q = .pointer z) : Calls prog 186 #[q, .agg #[iQ a, iQ b]] w (dv fun r w' => ∃ b2 b3, r = .func (.func 194) #[] #[pQ b2, pQ b3] /\ ar G (ag b2 [q] 82 :: ag b3 [iQ a, iQ b] 232 :: L) w') := by
 obtain ⟨z, rfl⟩ := hq;refine al (args := [_, _]) func186 rfl ntmps186 rfl rfl ?_;refine z2 ?_;refine bE rfl rfl rfl hw rfl fun w b2 hw => ?_;refine bE rfl rfl rfl hw rfl fun w b3 hw => ?_;refine z4 ?_;refine mO (v1 := #[]) (v2 := #[pQ b2, pQ b3]) rfl (by intro z hz; simp at hz; rcases hz with rfl | rfl <;> exact ⟨_, rfl⟩) sM (by simp only [oS, cG, j3]; rfl) ?_;refine z3 ?_;exact br rfl rfl rfl ⟨b2, b3, rfl, hw.b [ag b2 _ _, ag b3 _ _]⟩
theorem Iv {rs : List (Int × Int)} {a b : Int} {b2 b3 qb : Nat} {v : Value} (aJ : rs.length <= 1000000) : A8 prog 194 [pQ b2, pQ b3] G (ag b2 [pQ qb] 82 :: ag b3 [iQ a, iQ b] 232 :: ag qb [v] 230 :: row 232 2 v rs.length (rs.map cz).flatten :: L) w (dW (a, b) rs).length (acP (a, b) rs) (ag b2 [pQ qb] 82 :: ag b3 [iQ a, iQ b] 232 :: ag qb [v] 230 :: row 232 2 v rs.length (rs.map cz).flatten :: L) := by
 intro l J Jx w hy hw;have kO : aX (row 232 2 v rs.length (rs.map cz).flatten :: L) (gC 2 v (rs.map cz)) := (gC.row sM (Br rs)).head _;obtain ⟨sa, sc, h1, -, -⟩ := ((kO.of sF).at hw).form;rw [bA] at h1;subst h1;refine al (args := [_, _, _]) func194 rfl ntmps194 rfl rfl ?_;refine z2 ?_;refine lD eX hw ?_;refine z2 ?_;refine lD dA hw ?_;refine dQ rfl kR aW rfl ?_;refine z3 ?_;refine cO (fun m e w => ∃ k : Nat, k <= rs.length /\ m = rs.length - k /\ e = [(0, .func (.yield l) #[] #[]), (1, pQ b2), (2, pQ b3), (9, .slice sa rs.length sc), (10, iQ rs.length), (11, iQ k)] /\ ar G (J (dW (a, b) (rs.take k)).length :: ag b2 [pQ qb] 82 :: ag b3 [iQ a, iQ b] 232 :: ag qb [.slice sa rs.length sc] 230 :: row 232 2 (.slice sa rs.length sc) rs.length (rs.map cz).flatten :: L) w)
  (m := rs.length) sB
  ⟨0, fo _, rfl, rfl, hw⟩ ?_
 rintro m e w ⟨k, hk, rfl, rfl, hw⟩;refine z5 ?_;refine aS rfl (fun h1 => ?_) fun h1 => ?_
 ·
  have nS : k < rs.length := oM;obtain ⟨x, hx⟩ : ∃ x, rs[k]? = some x := ⟨_, cV nS⟩;have vu : (rs.map cz)[k]? = some (cz x) := by rw [dB, hx]; rfl
  obtain ⟨bb, oo, rfl⟩ := ((kO.of sF).at hw).nn (by rw [bA]; omega);refine z5 ?_;refine dD rfl aW cm rfl rfl ⟨oM, oM⟩ ?_;refine bt rfl rfl (aj.many bC rfl (by rw [fQ]; exact ((kO.of sF).at hw).at vu)) ?_;refine aN rfl hJ hw rfl fun w b5 hw => ?_;refine aL (cs := cz x) (l' := [iQ x.1, iQ x.2]) rfl tV rfl rfl bC rfl (by intro u hu; simp [cz] at hu; rcases hu with rfl | rfl <;> rfl) hw pK (by simp [cz]) rfl rfl (fun w hw => ?_);refine z2 ?_;refine bu [0, 1, 2, 3, 4, 5, 6, 7, 8, 9, 10, 11, 12, 13] bK kR ?_;replace hw := hw.drawn (w.drawn + 1);refine z1 ?_;refine lD ai hw ?_;refine z1 ?_;refine lD ai hw ?_;refine M3 rfl rfl rfl ?_;refine z1 ?_;refine lD ai hw ?_;refine z1 ?_;refine lD ai hw ?_;refine yH rfl rfl rfl ?_;refine z1 ?_;refine rW (l' := [_, _]) rfl tV rfl rfl ai rfl hw pK rfl rfl (fun w hw q' hq => ?_) fun w hw => ?_
  ·
   have hq := a9 (l := [8]) kR hq;simp only [bB, cW, or_false] at hq;subst hq;exact aV rfl rfl rfl (aj.bx ai hw pK rfl)
  refine z1 ?_;refine bS (l' := [_, _]) rfl tV rfl rfl ai rfl hw pK rfl rfl kR fun w hw => ?_;refine z4 ?_;refine lD ai hw ?_;refine z1 ?_;refine lD ai hw ?_;refine z2 ?_;refine aE (d := 32) rfl (fun h2 => ?_) fun h2 => ?_
  ·
   have h2c : (nJ (a, b) x).1 <= (nJ (a, b) x).2 := h2;refine z1 ?_;refine bt rfl rfl (aj.cw bC hw pK sM) ?_;refine p9 rfl rfl rfl (hy (dW (a, b) (rs.take k)).length _ _ w ((nU.1 (Ek hx h2c)).1) ⟨_, Ek hx h2c, rfl⟩ (hw.pick (A := J _) pK)) rfl fun w Wi hv => ?_;obtain ⟨bq, rfl, ue, Be⟩ := oN hv;refine nY rfl rfl ?_;refine z2 ?_;refine fm rfl (fun h3 => ?_) fun h3 => ?_
   ·
    refine rm ?_;exact j7 rfl rfl (.inr ((Be (by simpa using h3)).b [ag b5 _ _, Jx, ag b2 _ _, ag b3 _ _, ag qb _ _, row _ _ _ _ _]).tail)
   refine z5 ?_;have hw := ((ue (by simpa using h3)).b [ag b5 _ _, J _, ag b2 _ _, ag b3 _ _, ag qb _ _, row _ _ _ _ _]).tail;refine ⟨rs.length - (k + 1), oM, [(0, _), (1, _), (2, _), (9, _), (10, _), (11, iQ (k + 1 : Nat))], sB, k + 1, oM, rfl, rfl, ?_⟩;rw [zR hx, ah h2c, cj];exact hw
  have h2c : ¬ (nJ (a, b) x).1 <= (nJ (a, b) x).2 := h2;refine z6 ?_;refine nb rfl ?_;refine z5 ?_;have hw := (hw.b [ag b5 _ _, J _, ag b2 _ _, ag b3 _ _, ag qb _ _, row _ _ _ _ _]).tail;refine ⟨rs.length - (k + 1), oM, [(0, _), (1, _), (2, _), (9, _), (10, _), (11, iQ (k + 1 : Nat))], sB, k + 1, oM, rfl, rfl, ?_⟩;rw [zR hx, ae h2c, my];exact hw
 refine z1 ?_;exact j7 rfl rfl (.inl (by
 rw [vN oM] at hw;exact hw))
end
theorem iq {P : Program} {n : Nat} {fn : Func} {Q : Value -> World -> Prop} {e : gj} {D : Nat} {ds : List Value} {G : Gh} {L R : List az} {w : World} (hw : ar G L w) (hp : dg (dY D) L R) (h : ∀ w', ar G R w' -> p8 P n fn Q e ds w') : p8 P n fn Q e (pQ D :: ds) w :=
 Nr ((hw.pick hp).eQ) (h _ ((mz (hw.pick hp) _).tail))
def uf (hi : Int) : List (Int × Int) -> Int -> List (Int × Int)
 | [], lo => [(lo, hi)]
 | x :: ws, lo => (if lo < x.1 then [(lo, x.1 - 1)] else []) ++ (if x.2 = hi then [] else uf hi ws (x.2 + 1))
theorem M4 {r x : Int × Int} {rs : List (Int × Int)} {k : Nat} (h : (dW r rs)[k]? = some x) : x.1 <= x.2 /\ r.1 <= x.1 /\ x.2 <= r.2 := by
 have hm := ed h;unfold dW at hm;obtain ⟨h1, h2⟩ := G1.1 hm;obtain ⟨y, _, rfl⟩ := dd.1 h1;unfold nJ at h2 ⊢
 simp at h2 ⊢;omega
def acS (gs : List (Int × Int)) (k : Nat) (args : List Value) (_ : List az) : Prop := ∃ x, gs[k]? = some x /\ args = [gQ (cz x)]
theorem Ph {α : Type} {l r : List α} {x : α} {g : Nat} (h : l.drop g = x :: r) : l[g]? = some x /\ l.drop (g + 1) = r /\ g < l.length := by
 have h1 : (l.drop g)[0]? = some x := by rw [h]; rfl
 rw [K7, PJ] at h1;refine ⟨h1, ?_, (nU.1 h1).1⟩;rw [<-List.drop_drop, h]; rfl
theorem dG {α : Type} {l : List α} {k : Nat} {x : α} (h : l[k]? = some x) : l.drop k = x :: l.drop (k + 1) := by
 have hk := (nU.1 h).1;rw [PW hk];rw [cV hk] at h;rw [Option.some.inj h]
theorem drop_nil {α : Type} {l : List α} {g : Nat} (h : l.drop g = []) (hg : g <= l.length) : g = l.length := by
 have := congrArg List.length h;rw [iC, vM] at this;omega
section
variable {G : Gh} {L R : List az} {w : World}
theorem wF {q : Value} {a b : Int} (hw : ar G L w) (hq : ∃ z, q = .pointer z) : Calls prog 166 #[q, .agg #[iQ a, iQ b]] w (dv fun r w' => ∃ b2 b3, r = .func (.func 185) #[] #[pQ b2, pQ b3] /\ ar G (ag b2 [q] 82 :: ag b3 [iQ a, iQ b] 232 :: L) w') := by
 obtain ⟨z, rfl⟩ := hq;refine al (args := [_, _]) func166 rfl ntmps166 rfl rfl ?_;refine z2 ?_;refine bE rfl rfl rfl hw rfl fun w b2 hw => ?_;refine bE rfl rfl rfl hw rfl fun w b3 hw => ?_;refine z4 ?_;refine mO (v1 := #[]) (v2 := #[pQ b2, pQ b3]) rfl (by intro z hz; simp at hz; rcases hz with rfl | rfl <;> exact ⟨_, rfl⟩) sM (by simp only [oS, cG, j3]; rfl) ?_;refine z3 ?_;exact br rfl rfl rfl ⟨b2, b3, rfl, hw.b [ag b2 _ _, ag b3 _ _]⟩
def acK (Jo : Nat -> az) (gs : List (Int × Int)) (ws : List (Int × Int)) (b : Int) (c3 b3 lo : Nat) (k : Nat) : az :=
 ex fun z : Int × Nat => dH (gs.drop z.2 = uf b (ws.drop k) z.1 /\ z.2 <= gs.length /\ -1099511627776 <= z.1 /\ z.1 <= 1099511627777) (aT [Jo z.2, ag c3 [iQ z.1, iQ b] 232, ag b3 [.func (.yield lo) #[] #[]] 253])
theorem Vf {rs : List (Int × Int)} {a b : Int} {c2 c3 qb : Nat} {v : Value} (aJ : rs.length <= 1000000) (CU : mf (a, b)) : A8 prog 185 [pQ c2, pQ c3] G (ag c2 [pQ qb] 82 :: ag c3 [iQ a, iQ b] 232 :: ag qb [v] 230 :: row 232 2 v rs.length (rs.map cz).flatten :: L) w (uf b (dW (a, b) rs) a).length (acS (uf b (dW (a, b) rs) a)) (ag qb [v] 230 :: row 232 2 v rs.length (rs.map cz).flatten :: L) := by
 intro lo Jo Jx w hy hw;obtain ⟨gs, hgs⟩ : ∃ gs, gs = uf b (dW (a, b) rs) a := ⟨_, rfl⟩;rw [<-hgs] at hy ⊢;have adv : -1099511627776 <= a /\ a <= 1099511627776 /\ -1099511627776 <= b /\ b <= 1099511627776 := CU;clear CU;refine al (args := [_, _, _]) func185 rfl ntmps185 rfl rfl ?_;refine z2 ?_;refine bE rfl rfl rfl hw rfl fun w b3 hw => ?_;refine z4 ?_;refine lD eX hw ?_;refine bt rfl rfl (aj.cw bC hw pK sM) ?_;refine an rfl mS rfl (nD hw ⟨_, rfl⟩) rfl fun w v7 hv => ?_;obtain ⟨w2, w3, rfl, hw⟩ := hv;refine z2 ?_;have hw := (hw.b [Jo 0, ag c3 _ _, ag b3 _ _, ag w2 _ _, ag w3 _ _, ag qb _ _, row _ _ _ _ _]);have hw := ar.jq (F := fun z : Int × Nat => dH (gs.drop z.2 = uf b ((dW (a, b) rs).drop 0) z.1 /\ z.2 <= gs.length /\ -1099511627776 <= z.1 /\ z.1 <= 1099511627777) (aT [Jo z.2, ag c3 [iQ z.1, iQ b] 232, ag b3 [.func (.yield lo) #[] #[]] 253])) (a, 0) (ar.iR ⟨hgs, fo _, oM, oM⟩ (ar.bH (M := [_, _, _]) hw));refine ru (e₀ := [(2, pQ c3), (3, pQ b3)]) (acK Jo gs (dW (a, b) rs) b c3 b3 lo) (ex fun q : Bool => if q = true then Jo gs.length else Jx) [] rfl lR rfl sG rfl hw (fun k args M h => by obtain ⟨x, _, rfl⟩ := h; rfl) (Iv aJ) ?_ ?_ ?_ ?_
 ·
  clear hw;intro l D1 o k args M w hk pD hw;obtain ⟨x, hx, rfl⟩ := pD;have ot := M4 hx;simp only at ot;obtain ⟨⟨z, g⟩, hw⟩ := ar.iv hw;obtain ⟨hz, hw⟩ := ar.dx hw;have hw := ar.cD hw;simp only [j4, jG] at hw hz
  obtain ⟨SI, mh, hz3, hz4⟩ := hz;rw [dG hx] at SI;unfold uf at SI
  refine z1 ?_;refine aN rfl hJ hw rfl fun w b4 hw => ?_;refine aL (cs := cz x) (l' := [iQ x.1, iQ x.2]) rfl tV rfl rfl bC rfl (by intro u hu; simp [cz] at hu; rcases hu with rfl | rfl <;> rfl) hw pK (by simp [cz]) rfl rfl (fun w hw => ?_);refine aH ?_;refine ⟨_, hw.pick (A := pt l o) pK, fun o' w hw => ?_⟩;refine z1 ?_;refine mZ (fun e w => ∃ g' : Nat, e = [(2, pQ c3), (3, pQ b3), (4, pQ b4)] /\ (gs.drop g' = (if x.2 = b then [] else uf b ((dW (a, b) rs).drop (k + 1)) (x.2 + 1)) /\ g' <= gs.length) /\ ar G (Jo g' :: ag c3 [iQ z, iQ b] 232 :: ag b4 [iQ x.1, iQ x.2] 232 :: ag b3 [.func (.yield lo) #[] #[]] 253 :: pt l o' :: dY D1 :: M) w) ?_ ?_
  ·
   refine z3 ?_;refine lD ai hw ?_;refine z1 ?_;refine lD ai hw ?_;refine z2 ?_;refine aE (d := 14) rfl (fun h1 => ?_) fun h1 => ?_
   ·
    rw [ah oM] at SI;obtain ⟨hg1, hg2, hg3⟩ := Ph SI;refine lD lQ hw ?_;refine z1 ?_;refine lD ai hw ?_;refine z1 ?_;refine lD ai hw ?_;refine IY rfl rfl rfl oM ?_;refine aQ (v := gQ (cz (z, x.1 - 1))) rfl rfl (fun w => kR) ?_;refine p9 rfl rfl rfl (hy g _ _ w hg3 ⟨_, hg1, rfl⟩ (hw.pick (A := Jo _) pK)) rfl fun w Xk hv => ?_;obtain ⟨bq, rfl, ue, Be⟩ := oN hv;refine nY rfl rfl ?_;refine z2 ?_;refine fm rfl (fun h2 => ?_) fun h2 => ?_
    ·
     refine rm ?_;exact ar.jq (F := fun q : Bool => if q = true then Jo gs.length else Jx) false (((Be (by simpa using h2)).b [ag b4 _ _, ag c3 _ _, ag b3 _ _, Jx, pt l _, dY D1]).tail.tail.tail)
    refine eH ?_;exact ⟨[(2, _), (3, _), (4, _)], sB, g + 1, rfl, ⟨hg2, hg3⟩, (ue (by simpa using h2)).b [Jo _, ag c3 _ _, ag b4 _ _, ag b3 _ _, pt l _, dY D1]⟩
   rw [ae oM, jG] at SI;refine Oc ?_;refine nb rfl ?_;refine eH ?_;exact ⟨[(2, _), (3, _), (4, _)], sB, g, rfl, ⟨SI, mh⟩, hw.b [Jo _, ag c3 _ _, ag b4 _ _, ag b3 _ _, pt l _, dY D1]⟩
  clear hw;rintro e w ⟨g', rfl, ⟨ID, Bc⟩, hw⟩;refine z4 ?_;refine lD ai hw ?_;refine z1 ?_;refine lD ai hw ?_;refine z2 ?_;refine aS rfl (fun h3 => ?_) fun h3 => ?_
  ·
   refine rm ?_;exact ar.jq (F := fun q : Bool => if q = true then Jo gs.length else Jx) true (by rw [ah h3] at ID; rw [drop_nil ID Bc] at hw; exact (hw.b [ag b4 _ _, ag c3 _ _, ag b3 _ _, Jo _, pt l _, dY D1]).tail.tail.tail)
  refine z3 ?_;refine lD ai hw ?_;refine z2 ?_;refine bS (l' := [_, _]) rfl tV rfl rfl ai rfl hw pK rfl rfl rfl fun w hw => ?_;refine aH ?_;rw [ae h3] at ID;have hw := (hw.b [ag b4 _ _, Jo _, ag c3 _ _, ag b3 _ _, pt l _, dY D1]).tail;exact ar.jq (F := fun z : Int × Nat => dH (gs.drop z.2 = uf b ((dW (a, b) rs).drop (k + 1)) z.1 /\ z.2 <= gs.length /\ -1099511627776 <= z.1 /\ z.1 <= 1099511627777) (aT [Jo z.2, ag c3 [iQ z.1, iQ b] 232, ag b3 [.func (.yield lo) #[] #[]] 253])) (x.2 + 1, g') (ar.iR ⟨ID, Bc, oM, oM⟩ (ar.bH (M := [_, _, _]) hw))
 ·
  clear hw;intro D1 w hw;obtain ⟨⟨z, g⟩, hw⟩ := ar.iv hw;obtain ⟨hz, hw⟩ := ar.dx hw;have hw := ar.cD hw;simp only [j4, jG] at hw hz;obtain ⟨SI, mh, hz3, hz4⟩ := hz;rw [PN] at SI
  obtain ⟨hg1, hg2, hg3⟩ := Ph (show gs.drop g = (z, b) :: [] from SI);refine z1 ?_;refine lD lQ hw ?_;refine bt rfl rfl (aj.cw bC hw pK sM) ?_;refine p9 rfl rfl rfl (hy g [gQ (cz (z, b))] _ w hg3 ⟨_, hg1, rfl⟩ (hw.pick (A := Jo _) pK)) rfl fun w v36 hv => ?_;have Uc := drop_nil hg2 hg3;have hw := hv.elim (fun h => ar.jq (F := fun q : Bool => if q = true then Jo gs.length else Jx) true (by have h2 := h.2; rw [Uc] at h2; exact h2)) (fun h => ar.jq (F := fun q : Bool => if q = true then Jo gs.length else Jx) false h.2);refine aH ?_;refine bX rfl ?_;refine iq hw pK fun w hw => ?_;exact y7 rfl (by
 obtain ⟨q, hw⟩ := ar.iv hw;cases q
 ·have hw : ar G (Jx :: _) w := hw;have hz := (hw.b [ag c3 _ _, ag b3 _ _, ag w2 _ _, ag w3 _ _, ag c2 _ _, Jx, ag qb _ _, row _ _ _ _ _]).tail.tail.tail.tail.tail;exact .inr hz
 ·have hw : ar G (Jo gs.length :: _) w := hw;have hz := (hw.b [ag c3 _ _, ag b3 _ _, ag w2 _ _, ag w3 _ _, ag c2 _ _, Jo _, ag qb _ _, row _ _ _ _ _]).tail.tail.tail.tail.tail;exact .inl hz)
 ·
  clear hw;intro D1 w hw;refine bX rfl ?_;refine iq hw pK fun w hw => ?_;exact y7 rfl (by
 obtain ⟨q, hw⟩ := ar.iv hw;cases q
 ·have hw : ar G (Jx :: _) w := hw;have hz := (hw.b [ag w2 _ _, ag w3 _ _, ag c2 _ _, Jx, ag qb _ _, row _ _ _ _ _]).tail.tail.tail;exact .inr hz
 ·have hw : ar G (Jo gs.length :: _) w := hw;have hz := (hw.b [ag w2 _ _, ag w3 _ _, ag c2 _ _, Jo _, ag qb _ _, row _ _ _ _ _]).tail.tail.tail;exact .inl hz)
 intro id A hA; cases hA
end
section
variable {P : Program} {n : Nat} {ops : Array Oper} {dr : Bool} {done r : List Nat} {K : gj -> World -> Prop} {e : gj} {w : World} {i d : Nat} {t s s' : TypeId} {p : String} {af : Array Edge} {g : Option (Nat × Bool)} {x y : Operand} {G : Gh} {L R : List az}
theorem Xf {c : TypeId} {kn kq : IntKind} {z bytes k : Nat} (ho : ops[i]? = some ⟨some d, .call ⟨.builtin .append, #[x, y], #[s, s']⟩, t, p, af, g⟩) (hs : P.underlying s = some (.slice c)) (MQ : P.underlying s' = some (.int kn)) (xo : (P.info? c).map (·.size) = some z) (hz : 0 < z)
  (YK : (P.info? c).map (·.bytes) = some bytes) (A9 : (cd P c).map (·.size) = some z) (hx : ev e x = some (nQ)) (hy : ev e y = some (.int kq (k : Nat))) (hk : 0 < k) (hw : ar G L w)
  (QD : k <= maxLen) (O9 : k * bytes <= 140737488355328) (j6 : iI P ops dr done i = [])
  (h : ∀ w' b cap cells, k <= cap -> cap <= maxLen -> cells.length = cap * z -> ar G (ag b cells c :: L) w' -> XL P n ops dr (i :: done) r K ((d, sQ b k cap) :: e) w') (hd : Nat.blt d n = true := by exact rfl) (hg : Gd ops e g := by first | trivial | exact ⟨_, rfl, rfl⟩) : XL P n ops dr done (i :: r) K e w := by
 have X6 : k <= 9223372036854775807 := by simp only [maxLen] at QD; omega
 cases hi : P.info? c with
 | none => simp [hi] at xo
 | some inf =>
  have dm : inf.size = z := by simpa [hi] using xo
  have Q8 : inf.bytes = bytes := by simpa [hi] using YK
  cases uN : inf.zero with
  | none => simp [cd, hi, uN] at A9
  | some zv =>
   have NA : zv.cells.size = z := by simpa [cd, hi, uN] using A9
   have OW := Go.Lib.run_append_nil_zeros (P := P) w s s' t c inf zv kq kn hs MQ hi uN k hk oM oM (by rw [Q8]; omega);have Uc := grownCap_ge w k 0 c;have yl : grownCap w k 0 c <= maxLen := grownCap_le_maxLen w k 0 c QD;have h2 := (hw.drawn (w.drawn + 1)).push (.cells (Builtin.zeroCells zv.cells k ++ Builtin.zeroCells zv.cells (grownCap w k 0 c - k)) c (0, 0));have e1 : Builtin.zeroCells zv.cells k ++ Builtin.zeroCells zv.cells (grownCap w k 0 c - k) = ((Builtin.zeroCells zv.cells k).toList ++ (Builtin.zeroCells zv.cells (grownCap w k 0 c - k)).toList).toArray := by apply Array.ext'; simp
   refine iY ho (by simpa [cS] using hd) hg (ρ := rh e) (by intro z hZ; simp [Op.operands, Call.operands] at hZ; exact Da hx hy hZ) rfl (v := .slice (some ⟨w.heap.size, 0, none⟩) k (grownCap w k 0 c)) (w' := w.drew.alloc (.cells (Builtin.zeroCells zv.cells k ++ Builtin.zeroCells zv.cells (grownCap w k 0 c - k)) c)) ?_ (gx j6) (h _ _ _ ((Builtin.zeroCells zv.cells k).toList ++ (Builtin.zeroCells zv.cells (grownCap w k 0 c - k)).toList) Uc yl ?_ ?_)
   ·simp only [execOp, resolve, invoke, builtin, Sem.run_bind, Sem.run_pure, Result.andThen_ok, oS, cG, j3, bO hx, bO hy, OW]
   ·rw [cj, Array.length_toList, Array.length_toList, size_zeroCells, size_zeroCells, NA, <-yQ]
    congr 1; omega
   rw [e1] at h2 ⊢; exact h2
theorem vB {c : TypeId} {z bytes m : Nat} {v u : Value} {xs : List Value} {rs : List (List Value)} (ho : ops[i]? = some ⟨some d, .call ⟨.builtin .append, #[x, y], #[s, s]⟩, t, p, af, g⟩) (hs : P.underlying s = some (.slice c)) (xo : (P.info? c).map (·.size) = some z)
  (YK : (P.info? c).map (·.bytes) = some bytes) (A9 : (cd P c).map (·.size) = some z) (hx : ev e x = some v) (hy : ev e y = some u) (hw : ar G L w) (hp : dg (row c z v m xs) L R) (hr : gC z u rs w) (h1 : jN rs.flatten)
  (QD : m + rs.length <= maxLen) (O9 : (m + rs.length) * bytes <= 140737488355328) (j6 : iI P ops dr done i = [])
  (h : ∀ w' v', ar G (row c z v' (m + rs.length) (xs ++ rs.flatten) :: R) w' -> XL P n ops dr (i :: done) r K ((d, v') :: e) w') (hd : Nat.blt d n = true := by exact rfl) (hg : Gd ops e g := by first | trivial | exact ⟨_, rfl, rfl⟩) : XL P n ops dr done (i :: r) K e w := by
 rcases hr with ⟨a, rfl, -, rfl⟩ | ⟨b, o, cap, rfl, h2, h3, h4⟩
 ·cases hi : P.info? c with
  | none => simp [hi] at xo
  | some inf =>
   have hle : ∃ a' c', v = .slice a' m c' /\ m <= c' := by
    obtain ⟨_, h | ⟨b, cap, cur, h, h', _⟩⟩ := oR (hw.pick hp)
    ·obtain ⟨rfl, rfl, _⟩ := h; exact ⟨none, 0, rfl, eW _⟩
    exact ⟨_, cap, h, h'⟩
   obtain ⟨a', c', rfl, hle⟩ := hle;have hl : ∀ (x : Addr), (loadCells x 0).run P w = .ok #[] w := fun x => by simpa using run_loadCells_list (P := P) w x [] sM
   have OW : (Builtin.append_ #[s, s] t #[.slice a' m c', .slice a 0 0]).run P w = .ok (.slice a' m c') w := by
    cases a' <;> cases a <;> simp [Builtin.append_, run_underlying hs, Builtin.lenOf, Builtin.firstCells, sizeOf, typeInfo, hi, hle, storeCells, hl]
   refine iY ho (by simpa [cS] using hd) hg (ρ := rh e) (by intro z hZ; simp [Op.operands, Call.operands] at hZ; exact Da hx hy hZ) rfl (v := .slice a' m c') (w' := w) ?_ (gx j6) (h _ _ (by simpa using hw.pick hp));simp only [execOp, resolve, invoke, builtin, Sem.run_bind, Sem.run_pure, Result.andThen_ok, oS, cG, j3, bO hx, bO hy, OW]
 exact gP (k := rs.length) (hd := hd) (hg := hg) ho hs xo YK A9 hx hy hw hp h4 (dk h3) h1 QD O9 j6 h
end
section
variable {G : Gh} {L R : List az} {w : World}
theorem xU {k : Nat} (hw : ar G L w) (h0 : 0 < k) (hk : k <= 1000000000) : Calls prog 187 #[nQ, iQ k] w (dv fun r w' => ar G (row 232 2 r 0 [] :: L) w') := by
 refine al (args := [_, _]) func187 rfl ntmps187 rfl rfl ?_;refine yb ?_;refine aS rfl (fun h1 => ?_) fun h1 => ?_
 ·
  exact absurd h1 oM
 refine z6 ?_;refine Wg rfl aW rfl ?_;refine z1 ?_;refine dQ rfl kR aW rfl ?_;refine z9 ?_;refine aS rfl (fun h3 => ?_) fun h3 => ?_
 ·
  refine z3 ?_;refine Wg rfl aW rfl ?_;refine rX rfl aW sI rfl sM rfl ⟨oM, oM⟩ ?_;refine z1 ?_;refine Xf (k := k) rfl aW kY cm dM gI dh rfl (by show some (iQ ((k : Int))) = _; rfl) h0 hw mL oM rfl (fun w ZN cap cells Bd L4 Ud hw => ?_);refine z1 ?_;refine dQ rfl kR aW rfl ?_;refine rX rfl aW sI rfl sM rfl ⟨oM, oM⟩ ?_;refine z8 ?_;exact br rfl rfl rfl (np (xs := []) (cur := cells) hw rfl (fo _) L4 (by simpa using Ud))
 exact absurd h3 oM
def qc (ls : List (List (Int × Int))) : Nat := (ls.map List.length).sum
theorem HY (ls : List (List (Int × Int))) (l : List (Int × Int)) : qc (ls ++ [l]) = qc ls + l.length := by simp [qc]
theorem tK : ∀ (ls : List (List (Int × Int))) (k : Nat), qc (ls.take k) <= qc ls
 | [], k => by simp
 | l :: ls, 0 => by simp [qc]
 | l :: ls, k + 1 => by
  have := tK ls k;simp only [qc, R5, cG, K3] at this ⊢;omega
theorem P4 (l : List (Int × Int)) : jN (l.map cz).flatten := fun u hu => by
 obtain ⟨r, hr, hu⟩ := List.mem_flatten.1 hu;obtain ⟨x, _, rfl⟩ := dd.1 hr;simp [cz] at hu;rcases hu with rfl | rfl <;> rfl
theorem cP {α : Type} {l : List α} {k : Nat} {x : α} (h : l[k]? = some x) : l.take (k + 1) = l.take k ++ [x] := by rw [PQ, h]; rfl
theorem vh {v : Value} {vs : List Value} {ls : List (List (Int × Int))} (hw : ar G L w) (Vl : aX L (tF v vs)) (hlen : vs.length = ls.length) (hvs : ∀ (k : Nat) (u : Value) (l : List (Int × Int)), vs[k]? = some u -> ls[k]? = some l -> aX L (gC 2 u (l.map cz))) (h0 : 0 < qc ls) (hk : qc ls <= 1000000000) (hl9 : ls.length <= 1000000) :
  Calls prog 168 #[v] w (dv fun r w' => ar G (row 232 2 r (qc ls) (ls.flatten.map cz).flatten :: L) w') := by
 obtain ⟨sa, sc, h1⟩ := (Vl.at hw).form;subst h1;refine al (args := [_]) func168 rfl ntmps168 rfl rfl ?_;refine KA ?_;refine dQ rfl kR gB rfl ?_;refine z3 ?_;refine cO (fun m e w => ∃ k : Nat, k <= ls.length /\ m = ls.length - k /\ e = [(0, .slice sa vs.length sc), (3, iQ (qc (ls.take k) : Nat)), (9, .slice sa vs.length sc), (10, iQ vs.length), (11, iQ k)] /\ ar G L w)
  (m := ls.length) sB
  ⟨0, fo _, rfl, rfl, hw⟩ ?_
 rintro m e w ⟨k, Tb, rfl, rfl, hw⟩;refine z5 ?_;refine aS rfl (fun h1 => ?_) fun h1 => ?_
 ·
  have nS : k < ls.length := oM;obtain ⟨x, hx⟩ : ∃ x, ls[k]? = some x := ⟨_, cV nS⟩;obtain ⟨u, hu⟩ : ∃ u, vs[k]? = some u := ⟨_, cV oM⟩;have hku := hvs k u x hu hx;obtain ⟨ua, uc, h2, -, -⟩ := (hku.at hw).form;rw [bA] at h2;subst h2;have q9 : qc (ls.take (k + 1)) = qc (ls.take k) + x.length := by rw [cP hx]; exact HY _ _
  have vw := tK ls (k + 1);obtain ⟨bb, oo, rfl⟩ := (Vl.at hw).nn oM;refine z5 ?_;refine fk rfl gB mv rfl rfl ⟨oM, oM⟩ ?_;refine bt rfl rfl (aj.one dA ((Vl.at hw).at (by rw [fQ]; exact hu))) ?_;refine z6 ?_;refine dQ rfl kR aW rfl ?_;refine z8 ?_;refine aS rfl (fun h2 => ?_) fun h2 => ?_
  ·
   exact absurd h2 oM
  refine z5 ?_;exact ⟨ls.length - (k + 1), oM, [(0, _), (3, iQ (qc (ls.take (k + 1)) : Nat)), (9, _), (10, _), (11, iQ (k + 1 : Nat))], kK.mk (hC.cons rfl (hC.cons (by rw [q9]; rfl) (hC.cons rfl (hC.cons rfl (hC.cons rfl (hC.nil _)))))) rfl, k + 1, oM, rfl, rfl, hw⟩
 have wg : k = ls.length := oM;subst wg;rw [uZ];refine z4 ?_;refine an rfl kD rfl (xU (k := qc ls) hw h0 hk) rfl fun w MN hv => ?_;have hw : ar G (row 232 2 MN 0 [] :: _) w := hv;refine z6 ?_;refine dQ rfl kR gB rfl ?_;refine z3 ?_;refine cO (fun m e w => ∃ (k : Nat) (z : Value), k <= ls.length /\ m = ls.length - k /\ e = [(6, z), (25, .slice sa vs.length sc), (26, iQ vs.length), (27, iQ k)] /\ ar G (row 232 2 z (qc (ls.take k)) ((ls.take k).flatten.map cz).flatten :: L) w)
  (m := ls.length) sB
  ⟨0, _, fo _, rfl, rfl, hw⟩ ?_
 rintro m e w ⟨k, z, Tb, rfl, rfl, hw⟩;refine z5 ?_;refine aS rfl (fun h3 => ?_) fun h3 => ?_
 ·
  have nS : k < ls.length := oM;obtain ⟨x, hx⟩ : ∃ x, ls[k]? = some x := ⟨_, cV nS⟩;obtain ⟨u, hu⟩ : ∃ u, vs[k]? = some u := ⟨_, cV oM⟩;have hku := hvs k u x hu hx;have q9 : qc (ls.take (k + 1)) = qc (ls.take k) + x.length := by rw [cP hx]; exact HY _ _
  have vw := tK ls (k + 1);have Bd : ((ls.take (k + 1)).flatten.map cz).flatten = ((ls.take k).flatten.map cz).flatten ++ (x.map cz).flatten := by rw [cP hx]; simp
  obtain ⟨bb, oo, rfl⟩ := ((Vl.of sF).at hw).nn oM;refine z5 ?_;refine fk rfl gB mv rfl rfl ⟨oM, oM⟩ ?_;refine bt rfl rfl (aj.one dA (((Vl.of sF).at hw).at (by rw [fQ]; exact hu))) ?_;refine z5 ?_;refine vB (m := qc (ls.take k)) (rs := x.map cz) rfl aW cm gI dh rfl rfl hw pK ((hku.of sF).at hw) (P4 x) (by rw [bA]; simp only [maxLen]; omega) (by rw [bA]; omega) rfl (fun w v33 hw => ?_);refine z6 ?_;refine ⟨ls.length - (k + 1), oM, [(6, _), (25, _), (26, _), (27, iQ (k + 1 : Nat))], sB, k + 1, _, oM, rfl, rfl, ?_⟩;rw [q9, Bd];rw [bA] at hw;exact hw
 refine z7 ?_;exact br rfl rfl rfl (by
 have wg : k = ls.length := oM;subst wg;rw [uZ] at hw;exact hw)
end
structure TS where
 below : List (Int × Int)
 dp : List (Int × Int)
 r : Int × Int
def gu (s : TS) (x : Int × Int) : TS :=
 if x.2 < s.r.1 /\ x.2 + 1 < s.r.1 then ⟨s.below ++ [x], s.dp, s.r⟩
 else if s.r.2 < x.1 /\ s.r.2 < x.1 - 1 then ⟨s.below, s.dp ++ [x], s.r⟩
 else ⟨s.below, s.dp, (min s.r.1 x.1, max s.r.2 x.2)⟩
def w7 (rs : List (Int × Int)) (lo hi : Int) : TS := rs.foldl gu ⟨[], [], (lo, hi)⟩
def x8 (rs : List (Int × Int)) (lo hi : Int) : List (Int × Int) := (w7 rs lo hi).below ++ [(w7 rs lo hi).r] ++ (w7 rs lo hi).dp
theorem QT (rs : List (Int × Int)) (x : Int × Int) (lo hi : Int) : w7 (rs ++ [x]) lo hi = gu (w7 rs lo hi) x := by unfold w7; rw [List.foldl_append]; rfl
theorem IT {rs : List (Int × Int)} {k : Nat} {x : Int × Int} (lo hi : Int) (hx : rs[k]? = some x) : w7 (rs.take (k + 1)) lo hi = gu (w7 (rs.take k) lo hi) x := by rw [cP hx, QT]
structure abg (n : Nat) (s : TS) : Prop where
 r : mf s.r
 b : s.below.length + s.dp.length <= n
theorem W4 {lo hi : Int} (h : mf (lo, hi)) {rs : List (Int × Int)} (GP : ∀ x ∈ rs, mf x) : ∀ k, k <= rs.length -> abg k (w7 (rs.take k) lo hi) := by
 intro k
 induction k with
 | zero => intro _; exact ⟨h, by simp [w7]⟩
 | succ k ih =>
  intro hk;have uP := ih oM;obtain ⟨x, hx⟩ : ∃ x, rs[k]? = some x := ⟨_, cV oM⟩;have ot := GP x (ed hx);rw [IT lo hi hx];obtain ⟨h1, h2⟩ := uP;unfold gu
  repeat' split
  ·exact ⟨h1, by simp; omega⟩
  ·exact ⟨h1, by simp; omega⟩
  refine ⟨?_, by simp; omega⟩;unfold mf at h1 ot ⊢;simp only;omega
section
variable {G : Gh} {L R : List az} {w : World}
theorem pT {qb : Nat} {v : Value} {rs : List (Int × Int)} {lo hi : Int} (hw : ar G (ag qb [v] 230 :: row 232 2 v rs.length (rs.map cz).flatten :: L) w) (hlh : lo <= hi) (aJ : mf (lo, hi)) (GP : ∀ x ∈ rs, mf x) (T9 : rs.length <= 100000) :
  Calls prog 136 #[pQ qb, iQ lo, iQ hi] w (dv fun r w' => (∃ n, r = iQ n) /\ ∃ v', ar G (ag qb [v'] 230 :: row 232 2 v' (x8 rs lo hi).length ((x8 rs lo hi).map cz).flatten :: L) w') := by
 obtain ⟨va, vc, rfl⟩ := aM (hw.pick (A := row _ _ v _ _) pK);have kO : aX (row 232 2 (.slice va rs.length vc) rs.length (rs.map cz).flatten :: L) (gC 2 (.slice va rs.length vc) (rs.map cz)) := (gC.row sM (Br rs)).head _;refine al (args := [_, _, _]) func136 rfl ntmps136 rfl rfl ?_;refine Oc ?_;refine aS rfl (fun h1 => ?_) fun h1 => ?_
 ·
  exact absurd h1 oM
 refine z5 ?_;refine aQ (v := gQ (cz (lo, hi))) rfl rfl (fun w => kR) ?_;refine aN rfl hJ hw rfl fun w b7 hw => ?_;refine aL (cs := cz (lo, hi)) (l' := cz (lo, hi)) rfl tV rfl rfl bC rfl (by intro u hu; simp [cz] at hu; rcases hu with rfl | rfl <;> rfl) hw pK (by simp [cz]) rfl kR (fun w hw => ?_);refine z3 ?_;refine aN rfl Cr hw rfl fun w b8 hw => ?_;refine bS (l' := [.int .u64 0]) rfl tV rfl rfl gT rfl hw pK rfl rfl rfl fun w hw => ?_;refine z5 ?_;refine bt rfl rfl (aj.cw bC hw pK (by simp [cz])) ?_;refine an rfl vl rfl (wF hw ⟨_, rfl⟩) rfl fun w Xk hv => ?_;obtain ⟨c2, c3, rfl, hw⟩ := hv;refine z2 ?_;have hw := ar.jq (F := fun n : Int => ag b8 [.int .u64 n] 234) 0 (hw.b [ag b8 _ _, ag c2 _ _, ag c3 _ _, ag qb _ _, row _ _ _ _ _, ag b7 _ _]);refine ru (e₀ := [(8, pQ b8)]) (fun _ => ex fun n : Int => ag b8 [.int .u64 n] 234) (fun _ => False) [] rfl tm rfl sG rfl hw (fun k args M h => by obtain ⟨x, _, rfl⟩ := h; rfl) (Vf oM aJ) ?_ ?_ ?_ ?_
 ·
  clear hw;intro l D1 o k args M w hk pD hw;obtain ⟨x, hx, rfl⟩ := pD;obtain ⟨n, hw⟩ := ar.iv hw;refine z1 ?_;refine aN rfl hJ hw rfl fun w b9 hw => ?_;refine aL (cs := cz x) (l' := [iQ x.1, iQ x.2]) rfl tV rfl rfl bC rfl (by intro u hu; simp [cz] at hu; rcases hu with rfl | rfl <;> rfl) hw pK (by simp [cz]) rfl rfl (fun w hw => ?_);refine aH ?_;refine ⟨_, hw.pick (A := pt l o) pK, fun o' w hw => ?_⟩;refine z2 ?_;refine lD gT hw ?_;refine bt rfl rfl (aj.cw bC hw pK sM) ?_;refine an rfl rO rfl (tg hw) rfl fun w v26 hv => ?_;obtain ⟨⟨m', rfl⟩, hw⟩ := hv;refine bS (l' := [.int .u64 m']) rfl tV rfl rfl gT rfl hw pK rfl rfl rfl fun w hw => ?_;refine aH ?_;exact ar.jq m' (hw.b [ag b9 _ _, ag b8 _ _, pt l _, dY D1]).tail
 ·
  clear hw;intro D1 w hw;obtain ⟨n, hw⟩ := ar.iv hw;refine Oc ?_;refine lD dA hw ?_;refine dQ rfl kR aW rfl ?_;refine z3 ?_;have hw := cf (cf hw 232 2) 232 2;have hw := hw.b [ag b7 _ _, row _ _ (nQ) _ _, row _ _ (nQ) _ _, ag b8 _ _, dY D1, ag qb _ _, row _ _ _ _ _];refine cO (fun m e w => ∃ (k : Nat) (v1 v2 : Value), k <= rs.length /\ m = rs.length - k /\ e = [(1000000000, pQ D1), (0, pQ qb), (7, pQ b7), (8, pQ b8), (10, v1), (11, v2), (30, .slice va rs.length vc), (31, iQ rs.length), (32, iQ k)] /\ ar G (ag b7 (cz (w7 (rs.take k) lo hi).r) 232 :: row 232 2 v1 (w7 (rs.take k) lo hi).below.length ((w7 (rs.take k) lo hi).below.map cz).flatten :: row 232 2 v2 (w7 (rs.take k) lo hi).dp.length ((w7 (rs.take k) lo hi).dp.map cz).flatten :: ag b8 [.int .u64 n] 234 :: dY D1 :: ag qb [.slice va rs.length vc] 230 :: row 232 2 (.slice va rs.length vc) rs.length (rs.map cz).flatten :: L) w)
   (m := rs.length) sB
   ⟨0, _, _, fo _, rfl, rfl, hw⟩ ?_
  rintro m e w ⟨k, v1, v2, hk, rfl, rfl, hw⟩;have hao := W4 aJ GP k hk;have gD := fun x hx => IT (rs := rs) (k := k) (x := x) lo hi hx
  obtain ⟨S, hS⟩ : ∃ S, S = w7 (rs.take k) lo hi := ⟨_, rfl⟩;rw [<-hS] at hao hw gD;obtain ⟨hr, WV⟩ := hao;unfold mf at hr
  refine z5 ?_;refine aS rfl (fun h2 => ?_) fun h2 => ?_
  ·
   have nS : k < rs.length := oM;obtain ⟨x, hx⟩ : ∃ x, rs[k]? = some x := ⟨_, cV nS⟩;have ot := GP x (ed hx);unfold mf at ot;have vu : (rs.map cz)[k]? = some (cz x) := by rw [dB, hx]; rfl
   have gD := gD x hx;unfold gu at gD;obtain ⟨bb, oo, rfl⟩ := ((kO.of sF).at hw).nn (by rw [bA]; omega);refine z5 ?_;refine dD rfl aW cm rfl rfl ⟨oM, oM⟩ ?_;refine bt rfl rfl (aj.many bC rfl (by rw [fQ]; exact ((kO.of sF).at hw).at vu)) ?_;refine aN rfl hJ hw rfl fun w b13 hw => ?_;refine aL (cs := cz x) (l' := [iQ x.1, iQ x.2]) rfl tV rfl rfl bC rfl (by intro u hu; simp [cz] at hu; rcases hu with rfl | rfl <;> rfl) hw pK (by simp [cz]) rfl rfl (fun w hw => ?_);refine z5 ?_;refine lD ai hw ?_;refine z1 ?_;refine lD ai hw ?_;refine z2 ?_;refine bY (l1 := [6, 7, 8, 9, 10, 11, 12]) (l2 := [13]) rfl (d := 61) (x.2 < S.r.1 /\ x.2 + 1 < S.r.1) rfl ?_ ?_
   ·
    refine aE (d := 54) rfl (fun h3 => ?_) fun h3 => ?_
    ·
     refine z1 ?_;refine lD ai hw ?_;refine yJ rfl rfl rfl oM ?_;refine z1 ?_;refine lD ai hw ?_;refine z3 ?_;refine cQ ?_;exact dC
    refine z8 ?_;refine cQ ?_;exact dC
   refine z2 ?_;refine aS rfl (fun h4 => ?_) fun h4 => ?_
   ·
    refine z2 ?_;refine bt rfl rfl (aj.cw bC hw pK sM) ?_;refine hY (cs := cz x) rfl aW cm dh dM rfl rfl rfl hw rfl fun w b64 hw => ?_;refine gP (m := S.below.length) (k := 1) (news := cz x) rfl aW cm gI dh rfl rfl hw (show dg (row 232 2 v1 _ _) _ _ from pK) (Rd.nP hw pK) rfl (by intro u hu; simp [cz] at hu; rcases hu with rfl | rfl <;> rfl) mL oM rfl (fun w v65 hw => ?_);refine z6 ?_;refine ⟨rs.length - (k + 1), oM, [(1000000000, _), (0, _), (7, _), (8, _), (10, _), (11, _), (30, _), (31, _), (32, iQ (k + 1 : Nat))], sB, k + 1, _, _, oM, rfl, rfl, ?_⟩;rw [gD, ah h4];have e1 : ((S.below ++ [x]).map cz).flatten = (S.below.map cz).flatten ++ cz x := by simp
    simp only [cj, jt, e1];exact (hw.b [ag b64 _ _, ag b13 _ _, ag b7 _ _, row _ _ v65 _ _, row _ _ v2 _ _, ag b8 _ _, dY D1, ag qb _ _, row _ _ _ _ _]).tail.tail
   refine z3 ?_;refine lD ai hw ?_;refine z1 ?_;refine lD ai hw ?_;refine z2 ?_;refine bY (l1 := [6, 7, 8, 9, 10, 11, 12]) (l2 := [13]) rfl (d := 79) (S.r.2 < x.1 /\ S.r.2 < x.1 - 1) rfl ?_ ?_
   ·
    refine aE (d := 72) rfl (fun h5 => ?_) fun h5 => ?_
    ·
     refine z1 ?_;refine lD ai hw ?_;refine IY rfl rfl rfl oM ?_;refine z1 ?_;refine lD ai hw ?_;refine z3 ?_;refine cQ ?_;exact dC
    refine z8 ?_;refine cQ ?_;exact dC
   refine z2 ?_;refine aS rfl (fun h6 => ?_) fun h6 => ?_
   ·
    refine z2 ?_;refine bt rfl rfl (aj.cw bC hw pK sM) ?_;refine hY (cs := cz x) rfl aW cm dh dM rfl rfl rfl hw rfl fun w b82 hw => ?_;refine gP (m := S.dp.length) (k := 1) (news := cz x) rfl aW cm gI dh rfl rfl hw (show dg (row 232 2 v2 _ _) _ _ from pK) (Rd.nP hw pK) rfl (by intro u hu; simp [cz] at hu; rcases hu with rfl | rfl <;> rfl) mL oM rfl (fun w v83 hw => ?_);refine z6 ?_;refine ⟨rs.length - (k + 1), oM, [(1000000000, _), (0, _), (7, _), (8, _), (10, _), (11, _), (30, _), (31, _), (32, iQ (k + 1 : Nat))], sB, k + 1, _, _, oM, rfl, rfl, ?_⟩;rw [gD, ae h4, ah h6];have e1 : ((S.dp ++ [x]).map cz).flatten = (S.dp.map cz).flatten ++ cz x := by simp
    simp only [cj, jt, e1];exact (hw.b [ag b82 _ _, ag b13 _ _, ag b7 _ _, row _ _ v1 _ _, row _ _ v83 _ _, ag b8 _ _, dY D1, ag qb _ _, row _ _ _ _ _]).tail.tail
   refine bu [0, 1, 2, 3, 4, 5, 6, 7, 8, 9, 10, 11, 12, 13] bK kR ?_;replace hw := hw.drawn (w.drawn + 1);refine z1 ?_;refine lD ai hw ?_;refine z1 ?_;refine lD ai hw ?_;refine yH rfl rfl rfl ?_;refine z1 ?_;refine lD ai hw ?_;refine z1 ?_;refine lD ai hw ?_;refine M3 rfl rfl rfl ?_;refine z1 ?_;refine rW (l' := [_, _]) rfl tV rfl rfl ai rfl hw pK rfl rfl (fun w hw q' hq => ?_) fun w hw => ?_
   ·
    have hq := a9 (l := [8]) kR hq;simp only [bB, cW, or_false] at hq;subst hq;exact aV rfl rfl rfl (aj.bx ai hw pK rfl)
   refine z1 ?_;refine bS (l' := [_, _]) rfl tV rfl rfl ai rfl hw pK rfl rfl kR fun w hw => ?_;refine z5 ?_;refine ⟨rs.length - (k + 1), oM, [(1000000000, _), (0, _), (7, _), (8, _), (10, _), (11, _), (30, _), (31, _), (32, iQ (k + 1 : Nat))], sB, k + 1, _, _, oM, rfl, rfl, ?_⟩;rw [gD, ae h4, ae h6];have hz := (hw.b [ag b13 _ _, ag b7 _ _, row _ _ v1 _ _, row _ _ v2 _ _, ag b8 _ _, dY D1, ag qb _ _, row _ _ _ _ _]).tail;exact hz
  have wg : k = rs.length := oM;subst wg;rw [uZ] at hS;obtain ⟨a1, c1, rfl⟩ := aM (hw.pick (A := row _ _ v1 _ _) pK);obtain ⟨a2, c2', rfl⟩ := aM (hw.pick (A := row _ _ v2 _ _) pK);refine z5 ?_;refine bt rfl rfl (aj.cw bC hw pK (by simp [cz])) ?_;refine hY (cs := cz S.r) rfl aW cm dh dM rfl rfl rfl hw rfl fun w b88 hw => ?_;have hw := jE (z := 2) (m := 1) hw rfl mL;refine z1 ?_;refine Ee (cs := [.slice a1 S.below.length c1, sQ b88 1 1, .slice a2 S.dp.length c2']) rfl gB mv zK dM rfl kR hw rfl fun w b90 hw => ?_;have hw := jE (z := 1) (m := 3) hw rfl mL;refine an rfl jQ rfl (vh (vs := [.slice a1 S.below.length c1, sQ b88 1 1, .slice a2 S.dp.length c2']) (ls := [S.below, [S.r], S.dp]) hw (tF.row.head _) rfl (fun k u l hu hl => by
 match k, hu, hl with
 | 0, hu, hl =>
  obtain rfl := Option.some.inj hu; obtain rfl := Option.some.inj hl;exact ((gC.row (T := 232) (m := S.below.length) sM (Br S.below)).head _).of sF
 | 1, hu, hl =>
  obtain rfl := Option.some.inj hu; obtain rfl := Option.some.inj hl;exact ((gC.row (T := 232) (m := 1) (rs := [cz S.r]) sM (by intro r hr; simp at hr; subst hr; rfl)).head _).of sF
 | 2, hu, hl =>
  obtain rfl := Option.some.inj hu; obtain rfl := Option.some.inj hl;exact ((gC.row (T := 232) (m := S.dp.length) sM (Br S.dp)).head _).of sF
 | k + 3, hu, hl => simp at hu) (by simp [qc]; omega) (by simp [qc]; omega) sM) rfl (fun w v91 hv => ?_)
  have hw : ar G (row 232 2 v91 _ _ :: _) w := hv;obtain ⟨a91, c91, rfl⟩ := aM hw;refine z2 ?_;refine bS (l' := [_]) rfl tV rfl rfl dA rfl hw pK rfl rfl rfl fun w hw => ?_;refine z3 ?_;refine lD gT hw ?_;refine I3 rfl kR rU kY rfl ?_;refine z3 ?_;refine bX rfl ?_;refine iq hw pK fun w hw => ?_;exact Jy rfl rfl (by
 refine ⟨⟨_, rfl⟩, .slice a91 (qc [S.below, [S.r], S.dp]) c91, ?_⟩;have e1 : x8 rs lo hi = [S.below, [S.r], S.dp].flatten := by unfold x8; rw [<-hS]; simp
 have e2 : (x8 rs lo hi).length = qc [S.below, [S.r], S.dp] := by rw [e1]; simp [qc]; omega
 rw [e2, e1];exact (hw.b [row 228 _ _ _ _, row _ _ (sQ b88 _ _) _ _, ag b7 _ _, row _ _ (.slice a1 S.below.length c1) _ _, row _ _ (.slice a2 S.dp.length c2') _ _, ag b8 _ _, row _ _ (.slice va rs.length vc) _ _, ag qb _ _, row _ _ (.slice a91 _ c91) _ _]).tail.tail.tail.tail.tail.tail.tail)
 ·
  clear hw; intro D w hw; exact (iA hw).elim fun _ h => h.1.elim
 intro id A hA; cases hA
end
def vK (lo hi : Int) (x : Int × Int) : List (Int × Int) :=
 if x.2 < lo \/ hi < x.1 then [x] else (if x.1 < lo then [(x.1, lo - 1)] else []) ++ (if hi < x.2 then [(hi + 1, x.2)] else [])
def vJ (rs : List (Int × Int)) (lo hi : Int) : List (Int × Int) := rs.flatMap (vK lo hi)
def aak : List (Int × Int) -> Value
 | [] => .tuple #[iQ 0, .bool false]
 | x :: _ => .tuple #[iQ x.1, .bool true]
theorem PI {rs : List (Int × Int)} {k : Nat} {x : Int × Int} (lo hi : Int) (hx : rs[k]? = some x) : vJ (rs.take (k + 1)) lo hi = vJ (rs.take k) lo hi ++ vK lo hi x := by
 unfold vJ; rw [cP hx, Ac]; simp
theorem Nb (lo hi : Int) (x : Int × Int) : (vK lo hi x).length <= 2 := by unfold vK; repeat' split <;> simp
theorem KX (lo hi : Int) : ∀ rs : List (Int × Int), (vJ rs lo hi).length <= 2 * rs.length
 | [] => by simp [vJ]
 | x :: rs => by
  have h1 := KX lo hi rs;have h2 := Nb lo hi x;simp only [vJ, ku, cj, jO] at h1 ⊢;omega
section
variable {G : Gh} {L R : List az} {w : World}
theorem DE (hw : ar G L w) : Calls prog 135 #[nQ] w (dv fun r w' => ∃ qb, r = pQ qb /\ ar G (ag qb [nQ] 230 :: row 232 2 (nQ) 0 [] :: L) w') := by
 refine al (args := [_]) func135 rfl ntmps135 rfl rfl ?_;refine z6 ?_;refine aQ (v := .agg #[nQ]) rfl rfl (fun w => kR) ?_;refine bE rfl rfl rfl hw rfl fun w b7 hw => ?_;refine yb ?_;refine cO (fun m e w => m = 0 /\ e = [(3, pQ b7), (9, iQ 0), (10, iQ 0)] /\ ar G (ag b7 [nQ] 230 :: L) w)
  (m := 0) sB
  ⟨rfl, rfl, hw⟩ ?_
 rintro m e w ⟨rfl, rfl, hw⟩;refine z5 ?_;refine aS rfl (fun h1 => ?_) fun h1 => ?_
 ·
  exact absurd h1 oM
 refine z7 ?_;exact br rfl rfl rfl ⟨b7, rfl, (cf hw 232 2).b [ag b7 _ _, row _ _ _ _ _]⟩
theorem uq {qb : Nat} {v : Value} {rs : List (Int × Int)} (hw : ar G (ag qb [v] 230 :: row 232 2 v rs.length (rs.map cz).flatten :: L) w) :
  Calls prog 173 #[pQ qb] w (dv fun r w' => r = aak rs /\ ar G (ag qb [v] 230 :: row 232 2 v rs.length (rs.map cz).flatten :: L) w') := by
 obtain ⟨va, vc, rfl⟩ := aM (hw.pick (A := row _ _ v _ _) pK);have kO : aX (row 232 2 (.slice va rs.length vc) rs.length (rs.map cz).flatten :: L) (gC 2 (.slice va rs.length vc) (rs.map cz)) := (gC.row sM (Br rs)).head _;refine al (args := [_]) func173 rfl ntmps173 rfl rfl ?_;refine Oc ?_;refine lD dA hw ?_;refine dQ rfl kR aW rfl ?_;refine z2 ?_;refine aS rfl (fun h1 => ?_) fun h1 => ?_
 ·
  refine z6 ?_;exact eK rfl rfl rfl rfl ⟨by
 cases rs with
 | nil => rfl
 | cons x r => simp only [jO] at h1; omega, hw⟩
 obtain ⟨x, rs', rfl⟩ : ∃ x rs', rs = x :: rs' := by cases rs with
  | nil => exact absurd rfl h1
  | cons x r => exact ⟨x, r, rfl⟩
 obtain ⟨bb, oo, rfl⟩ := ((kO.of sF).at hw).nn sM;refine z6 ?_;refine lD dA hw ?_;refine dD rfl aW cm rfl rfl ⟨oM, by simp⟩ ?_;refine cy rfl rI rfl ?_;refine bt rfl rfl (aj.one ai (((kO.of sF).at hw).cell (k := 0) (j := 0) (r := cz x) rfl rfl)) ?_;refine z4 ?_;exact eK rfl rfl rfl rfl ⟨rfl, hw⟩
theorem uo {qb : Nat} {v : Value} {rs : List (Int × Int)} {lo hi : Int} (hw : ar G (ag qb [v] 230 :: row 232 2 v rs.length (rs.map cz).flatten :: L) w) (hlh : lo <= hi) (aJ : mf (lo, hi)) (T9 : rs.length <= 100000) :
  Calls prog 184 #[pQ qb, iQ lo, iQ hi] w (dv fun r w' => (∃ n, r = iQ n) /\ ∃ v', ar G (ag qb [v'] 230 :: row 232 2 v' (vJ rs lo hi).length ((vJ rs lo hi).map cz).flatten :: L) w') := by
 obtain ⟨va, vc, rfl⟩ := aM (hw.pick (A := row _ _ v _ _) pK);have kO : aX (row 232 2 (.slice va rs.length vc) rs.length (rs.map cz).flatten :: L) (gC 2 (.slice va rs.length vc) (rs.map cz)) := (gC.row sM (Br rs)).head _;have Hb := aJ;unfold mf at Hb;simp only at Hb
 refine al (args := [_, _, _]) func184 rfl ntmps184 rfl rfl ?_;refine Oc ?_;refine aS rfl (fun h1 => ?_) fun h1 => ?_
 ·
  exact absurd h1 oM
 refine z3 ?_;refine aN rfl Cr hw rfl fun w b7 hw => ?_;refine bS (l' := [.int .u64 0]) rfl tV rfl rfl gT rfl hw pK rfl rfl rfl fun w hw => ?_;refine z7 ?_;refine aQ (v := .agg #[iQ lo, iQ hi]) rfl rfl (fun w => kR) ?_;refine an rfl mS rfl (nD hw ⟨_, rfl⟩) rfl fun w RD hv => ?_;obtain ⟨c2, c3, rfl, hw⟩ := hv;refine z2 ?_;have hw := ar.jq (F := fun n : Int => ag b7 [.int .u64 n] 234) 0 (hw.b [ag b7 _ _, ag c2 _ _, ag c3 _ _, ag qb _ _, row _ _ _ _ _]);refine ru (e₀ := [(7, pQ b7)]) (fun _ => ex fun n : Int => ag b7 [.int .u64 n] 234) (fun _ => False) [] rfl lR rfl sG rfl hw (fun k args M h => by obtain ⟨x, _, rfl⟩ := h; rfl) (Iv oM) ?_ ?_ ?_ ?_
 ·
  clear hw;intro l D1 o k args M w hk pD hw;obtain ⟨x, hx, rfl⟩ := pD;obtain ⟨n, hw⟩ := ar.iv hw;refine z1 ?_;refine aN rfl hJ hw rfl fun w b8 hw => ?_;refine aL (cs := cz x) (l' := [iQ x.1, iQ x.2]) rfl tV rfl rfl bC rfl (by intro u hu; simp [cz] at hu; rcases hu with rfl | rfl <;> rfl) hw pK (by simp [cz]) rfl rfl (fun w hw => ?_);refine aH ?_;refine ⟨_, hw.pick (A := pt l o) pK, fun o' w hw => ?_⟩;refine z2 ?_;refine lD gT hw ?_;refine bt rfl rfl (aj.cw bC hw pK sM) ?_;refine an rfl rO rfl (tg hw) rfl fun w v23 hv => ?_;obtain ⟨⟨m', rfl⟩, hw⟩ := hv;refine bS (l' := [.int .u64 m']) rfl tV rfl rfl gT rfl hw pK rfl rfl rfl fun w hw => ?_;refine aH ?_;exact ar.jq m' (hw.b [ag b8 _ _, ag b7 _ _, pt l _, dY D1]).tail
 ·
  clear hw;intro D1 w hw;obtain ⟨n, hw⟩ := ar.iv hw;refine yb ?_;refine lD dA hw ?_;refine dQ rfl kR aW rfl ?_;refine z3 ?_;have hw := cf hw 232 2;have hw := (hw.b [ag c2 _ _, ag c3 _ _, row _ _ (nQ) _ _, ag b7 _ _, dY D1, ag qb _ _, row _ _ _ _ _]).tail.tail;refine cO (fun m e w => ∃ (k : Nat) (v1 : Value), k <= rs.length /\ m = rs.length - k /\ e = [(1000000000, pQ D1), (0, pQ qb), (1, iQ lo), (2, iQ hi), (7, pQ b7), (9, v1), (27, .slice va rs.length vc), (28, iQ rs.length), (29, iQ k)] /\ ar G (row 232 2 v1 (vJ (rs.take k) lo hi).length ((vJ (rs.take k) lo hi).map cz).flatten :: ag b7 [.int .u64 n] 234 :: dY D1 :: ag qb [.slice va rs.length vc] 230 :: row 232 2 (.slice va rs.length vc) rs.length (rs.map cz).flatten :: L) w)
   (m := rs.length) sB
   ⟨0, _, fo _, rfl, rfl, hw⟩ ?_
  rintro m e w ⟨k, v1, hk, rfl, rfl, hw⟩;have NI := KX lo hi (rs.take k);rw [fK] at NI;have gD := fun x hx => PI (rs := rs) (k := k) (x := x) lo hi hx
  obtain ⟨S, hS⟩ : ∃ S, S = vJ (rs.take k) lo hi := ⟨_, rfl⟩;rw [<-hS] at NI hw gD;refine z5 ?_;refine aS rfl (fun h2 => ?_) fun h2 => ?_
  ·
   have nS : k < rs.length := oM;obtain ⟨x, hx⟩ : ∃ x, rs[k]? = some x := ⟨_, cV nS⟩;have vu : (rs.map cz)[k]? = some (cz x) := by rw [dB, hx]; rfl
   have gD := gD x hx;unfold vK at gD;obtain ⟨bb, oo, rfl⟩ := ((kO.of sF).at hw).nn (by rw [bA]; omega);refine z5 ?_;refine dD rfl aW cm rfl rfl ⟨oM, oM⟩ ?_;refine bt rfl rfl (aj.many bC rfl (by rw [fQ]; exact ((kO.of sF).at hw).at vu)) ?_;refine aN rfl hJ hw rfl fun w mT hw => ?_;refine aL (cs := cz x) (l' := [iQ x.1, iQ x.2]) rfl tV rfl rfl bC rfl (by intro u hu; simp [cz] at hu; rcases hu with rfl | rfl <;> rfl) hw pK (by simp [cz]) rfl rfl (fun w hw => ?_);refine z5 ?_;refine lD ai hw ?_;refine z3 ?_;refine bY (l1 := [5, 6, 7, 8, 9]) (l2 := []) rfl (d := 42) (x.2 < lo \/ hi < x.1) rfl ?_ ?_
   ·
    refine aE (d := 37) rfl (fun h3 => ?_) fun h3 => ?_
    ·
     refine z6 ?_;refine cQ ?_;exact dC
    refine z1 ?_;refine lD ai hw ?_;refine z4 ?_;refine cQ ?_;exact dC
   refine aH ?_;refine aS rfl (fun h4 => ?_) fun h4 => ?_
   ·
    refine z3 ?_;refine bt rfl rfl (aj.cw bC hw pK sM) ?_;refine hY (cs := cz x) rfl aW cm dh dM rfl rfl rfl hw rfl fun w b45 hw => ?_;refine gP (m := S.length) (k := 1) (news := cz x) rfl aW cm gI dh rfl rfl hw (show dg (row 232 2 v1 _ _) _ _ from pK) (Rd.nP hw pK) rfl (by intro u hu; simp [cz] at hu; rcases hu with rfl | rfl <;> rfl) mL oM rfl (fun w v46 hw => ?_);refine z7 ?_;refine ⟨rs.length - (k + 1), oM, [(1000000000, _), (0, _), (1, _), (2, _), (7, _), (9, _), (27, _), (28, _), (29, iQ (k + 1 : Nat))], sB, k + 1, _, oM, rfl, rfl, ?_⟩;rw [gD, ah h4];have e1 : ((S ++ [x]).map cz).flatten = (S.map cz).flatten ++ cz x := by simp
    simp only [cj, jt, e1];exact (hw.b [ag b45 _ _, ag mT _ _, row _ _ v46 _ _, ag b7 _ _, dY D1, ag qb _ _, row _ _ _ _ _]).tail.tail
   rw [ae h4] at gD;refine eH ?_;refine mZ (fun e w => ∃ (v2 : Value) (S' : List (Int × Int)), e = [(1000000000, pQ D1), (0, pQ qb), (1, iQ lo), (2, iQ hi), (7, pQ b7), (9, v2), (11, pQ mT), (27, .slice (some ⟨bb, oo, none⟩) rs.length vc), (28, iQ rs.length), (29, iQ k)] /\ (S' = S ++ (if x.1 < lo then [(x.1, lo - 1)] else []) /\ S'.length <= S.length + 1) /\ ar G (row 232 2 v2 S'.length (S'.map cz).flatten :: ag mT [iQ x.1, iQ x.2] 232 :: ag b7 [.int .u64 n] 234 :: dY D1 :: ag qb [.slice (some ⟨bb, oo, none⟩) rs.length vc] 230 :: row 232 2 (.slice (some ⟨bb, oo, none⟩) rs.length vc) rs.length (rs.map cz).flatten :: L) w) ?_ ?_
   ·
    refine z3 ?_;refine lD ai hw ?_;refine z3 ?_;refine aS rfl (fun h5 => ?_) fun h5 => ?_
    ·
     refine z3 ?_;refine lD ai hw ?_;refine z2 ?_;refine aQ (v := gQ (cz (x.1, lo - 1))) rfl rfl (fun w => kR) ?_;refine hY (cs := cz (x.1, lo - 1)) rfl aW cm dh dM rfl rfl rfl hw rfl fun w b57 hw => ?_;refine gP (m := S.length) (k := 1) (news := cz (x.1, lo - 1)) rfl aW cm gI dh rfl rfl hw (show dg (row 232 2 v1 _ _) _ _ from pK) (Rd.nP hw pK) rfl (by intro u hu; simp [cz] at hu; rcases hu with rfl | rfl <;> rfl) mL oM rfl (fun w v58 hw => ?_);refine z2 ?_;have e1 : ((S ++ [(x.1, lo - 1)]).map cz).flatten = (S.map cz).flatten ++ cz (x.1, lo - 1) := by simp
     refine ⟨[(1000000000, _), (0, _), (1, _), (2, _), (7, _), (9, _), (11, _), (27, _), (28, _), (29, _)], sB, v58, S ++ [(x.1, lo - 1)], rfl, ⟨by rw [ah h5], by simp⟩, ?_⟩;rw [e1, cj, jt];exact (hw.b [ag b57 _ _, row _ _ v58 _ _, ag mT _ _, ag b7 _ _, dY D1, ag qb _ _, row _ _ _ _ _]).tail
    refine eH ?_;refine ⟨[(1000000000, _), (0, _), (1, _), (2, _), (7, _), (9, _), (11, _), (27, _), (28, _), (29, _)], sB, v1, S, rfl, ⟨by rw [ae h5, my], oM⟩, ?_⟩;exact hw.b [row _ _ v1 _ _, ag mT _ _, ag b7 _ _, dY D1, ag qb _ _, row _ _ _ _ _]
   clear hw;rintro e w ⟨v2, S', rfl, ⟨VF, hSl⟩, hw⟩;rw [<-je, <-VF] at gD;refine z3 ?_;refine lD ai hw ?_;refine z3 ?_;refine aS rfl (fun h6 => ?_) fun h6 => ?_
   ·
    refine z5 ?_;refine lD ai hw ?_;refine aQ (v := gQ (cz (hi + 1, x.2))) rfl rfl (fun w => kR) ?_;refine hY (cs := cz (hi + 1, x.2)) rfl aW cm dh dM rfl rfl rfl hw rfl fun w b69 hw => ?_;refine gP (m := S'.length) (k := 1) (news := cz (hi + 1, x.2)) rfl aW cm gI dh rfl rfl hw (show dg (row 232 2 v2 _ _) _ _ from pK) (Rd.nP hw pK) rfl (by intro u hu; simp [cz] at hu; rcases hu with rfl | rfl <;> rfl) mL oM rfl (fun w v70 hw => ?_);refine z6 ?_;refine ⟨rs.length - (k + 1), oM, [(1000000000, _), (0, _), (1, _), (2, _), (7, _), (9, _), (27, _), (28, _), (29, iQ (k + 1 : Nat))], sB, k + 1, _, oM, rfl, rfl, ?_⟩;rw [gD, ah h6];have e1 : ((S' ++ [(hi + 1, x.2)]).map cz).flatten = (S'.map cz).flatten ++ cz (hi + 1, x.2) := by simp
    simp only [cj, jt, e1];exact (hw.b [ag b69 _ _, ag mT _ _, row _ _ v70 _ _, ag b7 _ _, dY D1, ag qb _ _, row _ _ _ _ _]).tail.tail
   refine z5 ?_;refine ⟨rs.length - (k + 1), oM, [(1000000000, _), (0, _), (1, _), (2, _), (7, _), (9, _), (27, _), (28, _), (29, iQ (k + 1 : Nat))], sB, k + 1, _, oM, rfl, rfl, ?_⟩;rw [gD, ae h6, my];exact (hw.b [ag mT _ _, row _ _ v2 _ _, ag b7 _ _, dY D1, ag qb _ _, row _ _ _ _ _]).tail
  have wg : k = rs.length := oM;subst wg;rw [uZ] at hS;obtain ⟨a1, c1, rfl⟩ := aM (hw.pick (A := row _ _ v1 _ _) pK);refine z7 ?_;refine bS (l' := [_]) rfl tV rfl rfl dA rfl hw pK rfl rfl rfl fun w hw => ?_;refine z3 ?_;refine lD gT hw ?_;refine I3 rfl kR rU kY rfl ?_;refine z3 ?_;refine bX rfl ?_;refine iq hw pK fun w hw => ?_;exact Jy rfl rfl (by
 refine ⟨⟨_, rfl⟩, .slice a1 S.length c1, ?_⟩;rw [<-hS];exact (hw.b [ag b7 _ _, row _ _ (.slice va rs.length vc) _ _, ag qb _ _, row _ _ (.slice a1 S.length c1) _ _]).tail.tail)
 ·
  clear hw; intro D w hw; exact (iA hw).elim fun _ h => h.1.elim
 intro id A hA; cases hA
end
structure GV where
 refs : Int
 counts : List Int
 cv : Value
 last : List Bool
 lv : Value
 fr : Option Addr
 t0 : Int
 t1 : Int
 t2 : Int
 t3 : Int
 t4 : Int
 av : Value
 na : Nat
 floor : Int
def GV.cells (p : GV) : List Value := [iQ p.refs, p.cv, p.lv, .pointer p.fr, iQ p.t0, iQ p.t1, iQ p.t2, iQ p.t3, iQ p.t4, p.av, iQ p.floor]
def zG (l : List Bool) : List Value := l.map (.bool ·)
theorem lr (l : List Bool) : (zG l).length = l.length := by simp [zG]
def GV.tal (p : GV) (k : Int) : Int := if k = 0 then p.t0 else if k = 1 then p.t1 else if k = 2 then p.t2 else if k = 3 then p.t3 else p.t4
abbrev bg (c : List Int) (n : Int) : Prop := 1 <= n /\ n <= (c.length : Int)
def iF (c : List Int) (n : Int) : Int := if bg c n then c.getD (n - 1).toNat 0 else 0
def rZ (c : List Int) (l : List Bool) (n : Int) : Int :=
 if bg c n then (if 0 < c.getD (n - 1).toNat 0 then (if l.getD (n - 1).toNat false = true then 4 else 3) else if l.getD (n - 1).toNat false = true then 2 else 1) else 0
theorem JF {c : List Int} {j : Nat} (h : j < c.length) : (bG c)[j]? = some (iQ (c.getD j 0)) := by
 simp only [bG, dB, List.getD];rw [cV h]; rfl
theorem Y2 {c : List Bool} {j : Nat} (h : j < c.length) : (zG c)[j]? = some (.bool (decide (c.getD j false = true))) := by
 have e : ∀ b : Bool, Value.bool (decide (b = true)) = .bool b := fun b => by cases b <;> rfl
 rw [e];simp only [zG, dB, List.getD, cV h];rfl
theorem Bu {v : Value} {c : List Int} {R : List az} : aX (row 3 1 v c.length (bG c) :: R) (tF v (bG c)) := by
 have h := (tF.row (T := 3) (v := v) (cs := bG c)).head R;rw [cC] at h;exact h
theorem abp {v : Value} {c : List Bool} {R : List az} : aX (row 4 1 v c.length (zG c) :: R) (tF v (zG c)) := by
 have h := (tF.row (T := 4) (v := v) (cs := zG c)).head R;rw [lr] at h;exact h
abbrev xJ (q : Nat) (p : GV) (L : List az) : List az := ag q p.cells 86 :: row 3 1 p.cv p.counts.length (bG p.counts) :: row 4 1 p.lv p.last.length (zG p.last) :: L
theorem tT {q : Nat} {p : GV} {G : Gh} {L : List az} {w : World} (hw : ar G (xJ q p L) w) : ∃ ca cc la lc, xJ q p L = (ag q [iQ p.refs, .slice ca p.counts.length cc, .slice la p.last.length lc, .pointer p.fr, iQ p.t0, iQ p.t1, iQ p.t2, iQ p.t3, iQ p.t4, p.av, iQ p.floor] 86 :: row 3 1 (.slice ca p.counts.length cc) p.counts.length (bG p.counts) :: row 4 1 (.slice la p.last.length lc) p.last.length (zG p.last) :: L) := by
 obtain ⟨ca, cc, h1⟩ := aM (hw.pick (A := row 3 1 p.cv _ _) (.there .here));obtain ⟨la, lc, h2⟩ := aM (hw.pick (A := row 4 1 p.lv _ _) (.there (.there .here)));exact ⟨ca, cc, la, lc, by unfold xJ; simp only [GV.cells, h1, h2]⟩
section
variable {G : Gh} {L R : List az} {w : World}
theorem Hy {n r : Int} (hw : ar G L w) : Calls prog 65 #[iQ n, iQ r] w (dv fun u w' => u = .bool (decide (1 <= n /\ n <= 65536 /\ 2 <= r /\ r < 65536)) /\ ar G L w') := by
 refine al (args := [_, _]) func65 rfl ntmps65 rfl rfl ?_;refine z9 ?_;refine bY (l1 := [3, 4, 5]) (l2 := [6, 7, 8, 9, 10, 11, 12, 13, 14]) rfl (d := 10) (1 <= n /\ n <= 65536) rfl ?_ ?_
 ·
  refine aE (d := 7) rfl (fun h1 => ?_) fun h1 => ?_
  ·
   refine z4 ?_;refine cQ ?_;exact dC
  refine z4 ?_;refine cQ ?_;exact dC
 refine z1 ?_;refine bY (l1 := [7, 8, 9]) (l2 := [10, 11, 12, 13, 14]) rfl (d := 14) (1 <= n /\ n <= 65536 /\ 2 <= r) rfl ?_ ?_
 ·
  refine aE (d := 11) rfl (fun h2 => ?_) fun h2 => ?_
  ·
   refine z4 ?_;refine cQ ?_;exact dC
  refine z4 ?_;refine cQ ?_;exact dC
 refine z1 ?_;refine bY (l1 := [11, 12, 13]) (l2 := [14]) rfl (d := 18) (1 <= n /\ n <= 65536 /\ 2 <= r /\ r < 65536) rfl ?_ ?_
 ·
  refine aE (d := 15) rfl (fun h3 => ?_) fun h3 => ?_
  ·
   refine z4 ?_;refine cQ ?_;exact dC
  refine z4 ?_;refine cQ ?_;exact dC
 refine z3 ?_;exact br rfl rfl rfl ⟨rfl, hw⟩
theorem qM {q : Nat} {p : GV} {n : Int} (hw : ar G (xJ q p L) w) : Calls prog 94 #[pQ q, iQ n] w (dv fun u w' => u = .bool (decide (bg p.counts n)) /\ ar G (xJ q p L) w') := by
 obtain ⟨ca, cc, la, lc, he⟩ := tT hw;rw [he] at hw;refine al (args := [_, _]) func94 rfl ntmps94 rfl rfl ?_;refine z9 ?_;refine bY (l1 := [3, 4, 5, 6, 7, 8, 9, 10]) (l2 := [11]) rfl (d := 15) (1 <= n /\ n <= (p.counts.length : Int)) rfl ?_ ?_
 ·
  refine aE (d := 7) rfl (fun h1 => ?_) fun h1 => ?_
  ·
   refine z2 ?_;refine C3 rfl rfl ?_;refine z1 ?_;refine lD dU hw ?_;refine dQ rfl kR bP rfl ?_;refine z3 ?_;refine cQ ?_;exact dC
  refine z9 ?_;refine cQ ?_;exact dC
 refine z3 ?_;exact br rfl rfl rfl ⟨rfl, by rw [he]; exact hw⟩
theorem BZ {q : Nat} {p : GV} (hw : ar G (xJ q p L) w) : Calls prog 59 #[pQ q] w (dv fun u w' => u = iQ p.counts.length /\ ar G (xJ q p L) w') := by
 obtain ⟨ca, cc, la, lc, he⟩ := tT hw;rw [he] at hw;refine al (args := [_]) func59 rfl ntmps59 rfl rfl ?_;refine z9 ?_;refine lD dU hw ?_;refine z4 ?_;exact br rfl rfl rfl ⟨rfl, by rw [he]; exact hw⟩
theorem qN {q : Nat} {p : GV} {n : Int} (hw : ar G (xJ q p L) w) (hl : p.counts.length <= 65536) : Calls prog 52 #[pQ q, iQ n] w (dv fun u w' => u = iQ (iF p.counts n) /\ ar G (xJ q p L) w') := by
 obtain ⟨ca, cc, la, lc, he⟩ := tT hw;refine al (args := [_, _]) func52 rfl ntmps52 rfl rfl ?_;refine z9 ?_;refine an rfl pX rfl (qM hw) rfl fun w v7 hv => ?_;obtain ⟨rfl, hw⟩ := hv;refine jX rfl rfl ?_;refine aH ?_;refine aS rfl (fun h1 => ?_) fun h1 => ?_
 ·
  have D4 : ¬ bg p.counts n := by simpa using h1
  refine z5 ?_;exact br rfl rfl rfl ⟨by unfold iF; rw [ae D4], hw⟩
 have D4 : bg p.counts n := by simpa using h1
 rw [he] at hw;have iu : aX (row 3 1 (.slice ca p.counts.length cc) p.counts.length (bG p.counts) :: row 4 1 (.slice la p.last.length lc) p.last.length (zG p.last) :: L) (tF (.slice ca p.counts.length cc) (bG p.counts)) := Bu;obtain ⟨bb, oo, rfl⟩ := ((iu.of sF).at hw).nn (by rw [cC]; omega);refine z6 ?_;refine lD dU hw ?_;refine z2 ?_;refine fk rfl bP cT rfl rfl ⟨oM, oM⟩ ?_;refine bt rfl rfl (aj.one ai (((iu.of sF).at hw).at (JF oM))) ?_;refine z3 ?_;exact br rfl rfl rfl ⟨by unfold iF; rw [ah D4], by rw [he]; exact hw⟩
theorem j8 {q : Nat} {p : GV} {n : Int} (hw : ar G (xJ q p L) w) (hl : p.counts.length <= 65536) (oW : p.last.length = p.counts.length) : Calls prog 133 #[pQ q, iQ n] w (dv fun u w' => u = iQ (rZ p.counts p.last n) /\ ar G (xJ q p L) w') := by
 obtain ⟨ca, cc, la, lc, he⟩ := tT hw;refine al (args := [_, _]) func133 rfl ntmps133 rfl rfl ?_;refine yb ?_;refine an rfl pX rfl (qM hw) rfl fun w v8 hv => ?_;obtain ⟨rfl, hw⟩ := hv;refine jX rfl rfl ?_;refine z2 ?_;refine aS rfl (fun h1 => ?_) fun h1 => ?_
 ·
  have D4 : ¬ bg p.counts n := by simpa using h1
  refine z5 ?_;exact br rfl rfl rfl ⟨by unfold rZ; rw [ae D4], hw⟩
 have D4 : bg p.counts n := by simpa using h1
 rw [he] at hw;have iu : aX (row 3 1 (.slice ca p.counts.length cc) p.counts.length (bG p.counts) :: row 4 1 (.slice la p.last.length lc) p.last.length (zG p.last) :: L) (tF (.slice ca p.counts.length cc) (bG p.counts)) := Bu;have S9 : aX (row 4 1 (.slice la p.last.length lc) p.last.length (zG p.last) :: L) (tF (.slice la p.last.length lc) (zG p.last)) := abp;obtain ⟨bb, oo, rfl⟩ := ((iu.of sF).at hw).nn (by rw [cC]; omega);obtain ⟨b2, o2, rfl⟩ := ((S9.of sF).at hw).nn (by rw [lr]; omega);obtain ⟨c, hc⟩ : ∃ c, c = p.counts.getD (n - 1).toNat 0 := ⟨_, rfl⟩;obtain ⟨b, hb⟩ : ∃ b, b = p.last.getD (n - 1).toNat false := ⟨_, rfl⟩;have gD : rZ p.counts p.last n = (if 0 < c then (if b = true then 4 else 3) else if b = true then 2 else 1) := by unfold rZ; rw [ah D4, hc, hb]
 have Bd : (bG p.counts)[(n - 1).toNat]? = some (iQ c) := by rw [hc]; exact JF oM
 have ue : (zG p.last)[(n - 1).toNat]? = some (.bool (decide (b = true))) := by rw [hb]; exact Y2 oM
 rw [gD];refine z5 ?_;refine lD dU hw ?_;refine z2 ?_;refine fk rfl bP cT rfl rfl ⟨oM, oM⟩ ?_;refine bt rfl rfl (aj.one ai (((iu.of sF).at hw).at Bd)) ?_;refine z2 ?_;refine bY (l1 := [10, 11, 12, 13, 14, 15, 16, 17, 18]) (l2 := [19]) rfl (d := 29) (0 < c /\ b = true) rfl ?_ ?_
 ·
  refine aE (d := 20) rfl (fun h2 => ?_) fun h2 => ?_
  ·
   refine z1 ?_;refine C3 rfl rfl ?_;refine z1 ?_;refine lD vQ hw ?_;refine z1 ?_;refine IY rfl rfl rfl oM ?_;refine fk rfl xA DT rfl rfl ⟨oM, oM⟩ ?_;refine bt rfl rfl (aj.one cr (((S9.of sF).at hw).at ue)) ?_;refine z2 ?_;refine cQ ?_
   first | exact cZ.2 ⟨fun h => ⟨h2, h⟩, fun h => h.2⟩ | exact (decide_eq_false (fun h => h2 h.1)).symm
  refine yb ?_;refine cQ ?_
  first | exact cZ.2 ⟨fun h => ⟨h2, h⟩, fun h => h.2⟩ | exact (decide_eq_false (fun h => h2 h.1)).symm
 refine z2 ?_;refine aS rfl (fun h3 => ?_) fun h3 => ?_
 ·
  refine z5 ?_;exact br rfl rfl rfl ⟨by rw [ah h3.1, ah h3.2], by rw [he]; exact hw⟩
 refine z5 ?_;refine lD dU hw ?_;refine z2 ?_;refine fk rfl bP cT rfl rfl ⟨oM, oM⟩ ?_;refine bt rfl rfl (aj.one ai (((iu.of sF).at hw).at Bd)) ?_;refine z3 ?_;refine aS rfl (fun h4 => ?_) fun h4 => ?_
 ·
  refine z5 ?_;exact br rfl rfl rfl ⟨by rw [ah h4, ae (fun h => h3 ⟨h4, h⟩)], by rw [he]; exact hw⟩
 refine z5 ?_;refine lD vQ hw ?_;refine z2 ?_;refine fk rfl xA DT rfl rfl ⟨oM, oM⟩ ?_;refine bt rfl rfl (aj.one cr (((S9.of sF).at hw).at ue)) ?_;refine z2 ?_;refine aS rfl (fun h5 => ?_) fun h5 => ?_
 ·
  refine z5 ?_;exact br rfl rfl rfl ⟨by rw [ae h4, ah h5], by rw [he]; exact hw⟩
 refine z6 ?_;exact br rfl rfl rfl ⟨by rw [ae h4, ae h5], by rw [he]; exact hw⟩
end
def Ou (x : Int) : Int := if 0 < x then 4 else 1
def lU (l : List Int) (k : Int) : Int := ((l.filter fun x => decide (Ou x = k)).length : Int)
theorem HX (l : List Int) (x k : Int) : lU (l ++ [x]) k = lU l k + (if Ou x = k then 1 else 0) := by
 unfold lU;rw [G3, cj]
 by_cases h : Ou x = k <;> simp [h]
theorem On (l : List Int) (k : Int) : 0 <= lU l k /\ lU l k <= l.length := by
 unfold lU;have := Nh (fun x => decide (Ou x = k)) l;omega
def L9 (s : Nat × List (Int × Int)) (x : Int) : Nat × List (Int × Int) := (s.1 + 1, if x = 0 then x8 s.2 ((s.1 : Int) + 1) ((s.1 : Int) + 1) else s.2)
def IE (l : List Int) : Nat × List (Int × Int) := l.foldl L9 (0, [])
def gV (l : List Int) : List (Int × Int) := (IE l).2
theorem QH (l : List Int) : (IE l).1 = l.length := by
 have : ∀ (l : List Int) (s : Nat × List (Int × Int)), (l.foldl L9 s).1 = s.1 + l.length := by
  intro l
  induction l with
  | nil => intro s; rfl
  | cons x l ih => intro s; rw [PL, ih]; simp only [L9, jO]; omega
 rw [IE, this]; simp
theorem zg (l : List Int) (x : Int) : gV (l ++ [x]) = if x = 0 then x8 (gV l) ((l.length : Int) + 1) ((l.length : Int) + 1) else gV l := by
 unfold gV;rw [show IE (l ++ [x]) = L9 (IE l) x by unfold IE; rw [List.foldl_append]; rfl];unfold L9;rw [QH]
theorem MG {lo hi : Int} : ∀ (rs : List (Int × Int)) (s : TS) (x : Int × Int), (x ∈ (rs.foldl gu s).below \/ x ∈ (rs.foldl gu s).dp) -> x ∈ s.below \/ x ∈ s.dp \/ x ∈ rs := by
 intro rs
 induction rs with
 | nil => intro s x h; rcases h with h | h; exact .inl h; exact .inr (.inl h)
 | cons y rs ih =>
  intro s x h;rw [PL] at h;rcases ih _ x h with h | h | h
  ·unfold gu at h;split at h
   ·rcases eu.1 h with h | h
    ·exact .inl h
    exact .inr (.inr (by simp at h; simp [h]))
   split at h <;> exact .inl h
  ·unfold gu at h;split at h
   ·exact .inr (.inl h)
   split at h
   ·rcases eu.1 h with h | h
    ·exact .inr (.inl h)
    exact .inr (.inr (by simp at h; simp [h]))
   exact .inr (.inl h)
  exact .inr (.inr (gF _ h))
theorem Wa {rs : List (Int × Int)} {lo hi : Int} (h : mf (lo, hi)) (GP : ∀ x ∈ rs, mf x) : (∀ x ∈ x8 rs lo hi, mf x) /\ (x8 rs lo hi).length <= rs.length + 1 := by
 have ha := W4 h GP rs.length (eW _);rw [uZ] at ha;refine ⟨fun x hx => ?_, ?_⟩
 ·unfold x8 at hx;rcases eu.1 hx with hx | hx
  ·rcases eu.1 hx with hx | hx
   ·rcases MG (lo := lo) (hi := hi) rs _ x (.inl hx) with h | h | h
    ·cases h
    ·cases h
    exact GP x h
   simp at hx; subst hx; exact ha.r
  rcases MG (lo := lo) (hi := hi) rs _ x (.inr hx) with h | h | h
  ·cases h
  ·cases h
  exact GP x h
 have := ha.b;unfold x8;simp only [cj, jt];omega
theorem Tv : ∀ (n : Nat) (l : List Int), l.length <= n -> n <= 1000000 -> (∀ x ∈ gV l, mf x) /\ (gV l).length <= l.length := by
 intro n
 induction n with
 | zero =>
  intro l hl _;have : l = [] := yS oM;subst this;exact ⟨fun x hx => (by cases hx), eW _⟩
 | succ n ih =>
  intro l hl hn;rcases l.eq_nil_or_concat with rfl | ⟨l', x, rfl⟩
  ·exact ⟨fun x hx => (by cases hx), fo _⟩
  simp only [List.concat_eq_append] at hl ⊢;rw [cj, jt] at hl ⊢
  obtain ⟨h1, h2⟩ := ih l' oM oM;rw [zg];split
  ·have h3 := Wa (rs := gV l') (lo := (l'.length : Int) + 1) (hi := (l'.length : Int) + 1) (by unfold mf; simp only; omega) h1;exact ⟨h3.1, oM⟩
  exact ⟨h1, oM⟩
section
variable {G : Gh} {L R : List az} {w : World}
theorem nE {q : Nat} {p : GV} (hw : ar G (xJ q p L) w) (CS : ∃ a c, p.av = .slice a p.na c) (hf : 0 <= p.floor /\ p.floor + p.na <= 1000000000000000) : Calls prog 129 #[pQ q] w (dv fun u w' => u = iQ (p.floor + p.na) /\ ar G (xJ q p L) w') := by
 obtain ⟨ca, cc, la, lc, he⟩ := tT hw;obtain ⟨aa, ac, CS⟩ := CS;rw [CS] at he;rw [he] at hw
 refine al (args := [_]) func129 rfl ntmps129 rfl rfl ?_;refine z5 ?_;refine bu [0, 1, 2, 3, 4, 5, 6, 7, 8, 9, 10] bK kR ?_;replace hw := hw.drawn (w.drawn + 1);refine z3 ?_;refine lD ai hw ?_;refine z3 ?_;refine lD eU hw ?_;refine dQ rfl kR kJ rfl ?_;refine z4 ?_;exact br rfl rfl rfl ⟨rfl, by rw [he]; exact hw⟩
theorem zo {q : Nat} {p : GV} {k : Int} (hw : ar G (xJ q p L) w) : Calls prog 18 #[pQ q, iQ k] w (dv fun u w' => u = iQ (if k < 1 \/ 4 < k then 0 else p.tal k) /\ ar G (xJ q p L) w') := by
 obtain ⟨ca, cc, la, lc, he⟩ := tT hw;rw [he] at hw;refine al (args := [_, _]) func18 rfl ntmps18 rfl rfl ?_;refine yb ?_;refine bY (l1 := [3, 4, 5]) (l2 := []) rfl (d := 10) (k < 1 \/ 4 < k) rfl ?_ ?_
 ·
  refine aE (d := 7) rfl (fun h1 => ?_) fun h1 => ?_
  ·
   refine z4 ?_;refine cQ ?_;exact dC
  refine z4 ?_;refine cQ ?_;exact dC
 refine aH ?_;refine aS rfl (fun h2 => ?_) fun h2 => ?_
 ·
  refine z5 ?_;exact br rfl rfl rfl ⟨by rw [ah h2], by rw [he]; exact hw⟩
 have h3 : k = 1 \/ k = 2 \/ k = 3 \/ k = 4 := oM;refine z7 ?_;refine yI rfl qT cT rfl rfl ⟨oM, oM⟩ ?_;refine bt rfl rfl (aj.bx (v := iQ (p.tal k)) ai hw pK (by rcases h3 with rfl | rfl | rfl | rfl <;> rfl)) ?_;refine z3 ?_;exact br rfl rfl rfl ⟨by rw [ae h2], by rw [he]; exact hw⟩
theorem tf {v : Value} {l : List Int} (hw : ar G L w) (ka : aX L (tF v (bG l))) (oW : l.length <= 1000000000) :
  Calls prog 23 #[v] w (dv fun r w' => ar G (row 3 1 r l.length (bG l) :: L) w') := by
 obtain ⟨a, cap, rfl⟩ := (ka.at hw).form;rw [cC];refine al (args := [_]) func23 rfl ntmps23 rfl rfl ?_;refine z8 ?_;refine zP rfl bP rfl ?_;refine aH ?_;refine fm rfl (fun h1 => ?_) fun h1 => ?_
 ·
  refine z5 ?_;exact br rfl rfl rfl (by
 rcases ka.at hw with ⟨-, h⟩ | ⟨b, o, cap, h, -⟩
 ·have : l = [] := by simpa [bG] using h
  subst this; exact cf hw _ _
 ·cases h; cases h1)
 obtain ⟨x, rfl⟩ : ∃ x, a = some x := by cases a with | none => cases h1 | some x => exact ⟨x, rfl⟩
 refine z3 ?_;refine Ef rfl bP cT hw rfl fun w b5 hw => ?_;have hw := jE (z := 1) (m := 0) hw rfl mL;have py : Rd w x (bG l) := by
  rcases (ka.cons (row 3 1 (sQ b5 0 0) 0 [])).at hw with ⟨-, h⟩ | ⟨b, o, cap, h, -, hR⟩
  ·rw [h]; exact Rd.nil
  cases h; exact hR
 refine z1 ?_;refine gP (m := 0) (k := l.length) (news := bG l) rfl bP cT qR k9 rfl rfl hw pK py (by rw [cC]; omega) (by intro u hu; obtain ⟨z, _, rfl⟩ := dd.1 hu; rfl) mL oM rfl (fun w v7 hw => ?_);refine z3 ?_;exact br rfl rfl rfl (by rw [r8, jG] at hw; exact hw)
theorem xV {q : Nat} {p : GV} (hw : ar G (xJ q p L) w) (hl : p.counts.length <= 65536) : Calls prog 8 #[pQ q] w (dv fun u w' => ar G (row 3 1 u p.counts.length (bG p.counts) :: xJ q p L) w') := by
 obtain ⟨ca, cc, la, lc, he⟩ := tT hw;rw [he] at hw;have iu : aX (row 3 1 (.slice ca p.counts.length cc) p.counts.length (bG p.counts) :: row 4 1 (.slice la p.last.length lc) p.last.length (zG p.last) :: L) (tF (.slice ca p.counts.length cc) (bG p.counts)) := Bu;refine al (args := [_]) func8 rfl ntmps8 rfl rfl ?_;refine z9 ?_;refine lD dU hw ?_;refine an rfl sw rfl (tf hw (iu.of sF) oM) rfl fun w v7 hv => ?_;refine z3 ?_;exact br rfl rfl rfl (by rw [he]; exact hv)
end
def oU (c : List Int) (l : List Bool) (k : Nat) : List Bool := (c.take k).map (fun x => decide (0 < x)) ++ l.drop k
theorem nw {c : List Int} {l : List Bool} {k : Nat} (h : l.length = c.length) (hk : k <= c.length) : (oU c l k).length = c.length := by
 unfold oU; simp only [cj, bA, fK, iC]; omega
theorem Ip {c : List Int} {l : List Bool} {k : Nat} {x : Int} (h : l.length = c.length) (hx : c[k]? = some x) : (oU c l k).set k (decide (0 < x)) = oU c l (k + 1) := by
 have hk : k < c.length := (nU.1 hx).1;unfold oU;rw [cP hx, il, K9 _ _ (by simp; omega)];rw [show k - (List.map (fun x => decide (0 < x)) (List.take k c)).length = 0 by simp; omega];rw [je]
 congr 1
 rw [PW (by omega : k < l.length)];rfl
theorem Sw {c : List Int} {l : List Bool} {k : Nat} {x : Int} (h : l.length = c.length) (hx : c[k]? = some x) : (oU c l (k + 1)).getD k false = decide (0 < x) := by
 have hk : k < c.length := (nU.1 hx).1;rw [<-Ip h hx, List.getD];rw [List.getElem?_set_self (by rw [nw h oM]; exact hk)];rfl
theorem Qb {c : List Int} {l : List Bool} (h : l.length = c.length) : oU c l c.length = c.map fun x => decide (0 < x) := by
 unfold oU; rw [uZ, u0 oM, my]
theorem KM {c : List Int} {l : List Bool} {k : Nat} {x : Int} (h : l.length = c.length) (hx : c[k]? = some x) : rZ c (oU c l (k + 1)) ((k : Int) + 1) = Ou x := by
 have hk : k < c.length := (nU.1 hx).1;unfold rZ Ou;rw [ah (by omega : bg c ((k : Int) + 1)), show ((k : Int) + 1 - 1).toNat = k by omega, Sw h hx];have hc : c.getD k 0 = x := by rw [List.getD, hx]; rfl
 rw [hc]
 by_cases h0 : 0 < x <;> simp [h0]
theorem Se {q : Nat} {p : GV} {G : Gh} {L : List az} {w : World} (hw : ar G (xJ q p L) w) : ∃ ca cc la lc, p.cv = .slice ca p.counts.length cc /\ p.lv = .slice la p.last.length lc /\ xJ q p L = (ag q [iQ p.refs, .slice ca p.counts.length cc, .slice la p.last.length lc, .pointer p.fr, iQ p.t0, iQ p.t1, iQ p.t2, iQ p.t3, iQ p.t4, p.av, iQ p.floor] 86 :: row 3 1 (.slice ca p.counts.length cc) p.counts.length (bG p.counts) :: row 4 1 (.slice la p.last.length lc) p.last.length (zG p.last) :: L) := by
 obtain ⟨ca, cc, h1⟩ := aM (hw.pick (A := row 3 1 p.cv _ _) (.there .here));obtain ⟨la, lc, h2⟩ := aM (hw.pick (A := row 4 1 p.lv _ _) (.there (.there .here)));exact ⟨ca, cc, la, lc, h1, h2, by unfold xJ; simp only [GV.cells, h1, h2]⟩
section
variable {G : Gh} {L R : List az} {w : World}
theorem pU {q : Nat} {p : GV} (hw : ar G (xJ q p L) w) (CS : ∃ a c, p.av = .slice a p.na c) (hf : 0 <= p.floor /\ p.floor + p.na <= 1000000000000000) (hl : p.counts.length <= 65536) (oW : p.last.length = p.counts.length) (IA : ∀ x ∈ p.counts, 0 <= x) :
  Calls prog 76 #[pQ q] w (dv fun u w' => u = .tuple #[] /\ ∃ (fq : Nat) (fv : Value), ar G (xJ q { p with last := p.counts.map (fun x => decide (0 < x)), fr := some ⟨fq, 0, none⟩, t0 := 0, t1 := lU p.counts 1, t2 := 0, t3 := 0, t4 := lU p.counts 4, av := nQ, na := 0, floor := p.floor + p.na } (ag fq [fv] 230 :: row 232 2 fv (gV p.counts).length ((gV p.counts).map cz).flatten :: L)) w') := by
 obtain ⟨ca, cc, la, lc, hcv, LW, he⟩ := Se hw;rw [oW] at he LW;refine al (args := [_]) func76 rfl ntmps76 rfl rfl ?_;refine z5 ?_;refine an rfl mI rfl (nE hw CS hf) rfl fun w v7 hv => ?_;obtain ⟨rfl, hw⟩ := hv;rw [he] at hw
 refine z2 ?_;refine bS (l' := [_, _, _, _, _, _, _, _, _, _, _]) rfl tV rfl rfl ai rfl hw pK rfl rfl rfl fun w hw => ?_;refine z2 ?_;refine bS (l' := [_, _, _, _, _, _, _, _, _, _, _]) rfl tV rfl rfl eU rfl hw pK rfl rfl rfl fun w hw => ?_;refine z4 ?_;refine an rfl B8 rfl (DE hw) rfl fun w Xm hv => ?_;obtain ⟨fq, rfl, hw⟩ := hv;refine z2 ?_;refine bS (l' := [_, _, _, _, _, _, _, _, _, _, _]) rfl tV rfl rfl eX rfl hw pK rfl rfl rfl fun w hw => ?_;refine z4 ?_;refine aQ (v := .agg #[iQ 0, iQ 0, iQ 0, iQ 0, iQ 0]) rfl rfl (fun w => kR) ?_;refine z2 ?_;refine aL (cs := [iQ 0, iQ 0, iQ 0, iQ 0, iQ 0]) (l' := [iQ p.refs, .slice ca p.counts.length cc, .slice la p.counts.length lc, pQ fq, iQ 0, iQ 0, iQ 0, iQ 0, iQ 0, nQ, iQ (p.floor + p.na)]) rfl tV rfl rfl Lr rfl (by intro u hu; simp at hu; subst hu; rfl) hw pK sM rfl kR (fun w hw => ?_);refine z6 ?_;refine lD dU hw ?_;refine z4 ?_;have hw := hw.b [ag q _ _, row 3 _ _ _ _, row 4 _ _ _ _, ag fq _ _, row 232 _ _ _ _];refine cO (fun m e w => ∃ (k : Nat) (fv : Value), k <= p.counts.length /\ m = p.counts.length - k /\ e = [(0, pQ q), (23, .slice ca p.counts.length cc), (24, iQ p.counts.length), (25, iQ k)] /\ ar G (ag q [iQ p.refs, .slice ca p.counts.length cc, .slice la p.counts.length lc, pQ fq, iQ 0, iQ (lU (p.counts.take k) 1), iQ 0, iQ 0, iQ (lU (p.counts.take k) 4), nQ, iQ (p.floor + p.na)] 86 :: row 3 1 (.slice ca p.counts.length cc) p.counts.length (bG p.counts) :: row 4 1 (.slice la p.counts.length lc) p.counts.length (zG (oU p.counts p.last k)) :: ag fq [fv] 230 :: row 232 2 fv (gV (p.counts.take k)).length ((gV (p.counts.take k)).map cz).flatten :: L) w)
  (m := p.counts.length) sB
  ⟨0, nQ, fo _, rfl, rfl, hw⟩ ?_
 rintro m e w ⟨k, fv, hk, rfl, rfl, hw⟩;refine z5 ?_;refine aS rfl (fun h1 => ?_) fun h1 => ?_
 ·
  have nS : k < p.counts.length := oM;obtain ⟨x, hx⟩ : ∃ x, p.counts[k]? = some x := ⟨_, cV nS⟩;have Qj := IA x (ed hx);have CM : (bG p.counts)[k]? = some (iQ x) := by simp only [bG, dB, hx]; rfl
  have iu : aX (row 3 1 (.slice ca p.counts.length cc) p.counts.length (bG p.counts) :: row 4 1 (.slice la p.counts.length lc) p.counts.length (zG (oU p.counts p.last k)) :: ag fq [fv] 230 :: row 232 2 fv (gV (p.counts.take k)).length ((gV (p.counts.take k)).map cz).flatten :: L) (tF (.slice ca p.counts.length cc) (bG p.counts)) := Bu;obtain ⟨bb, oo, rfl⟩ := ((iu.of sF).at hw).nn (by rw [cC]; omega);have Bb := Tv p.counts.length (p.counts.take k) (by rw [fK]; omega) oM;rw [fK] at Bb;have ZG : lU (p.counts.take (k + 1)) 1 = lU (p.counts.take k) 1 + (if Ou x = 1 then 1 else 0) := by rw [cP hx]; exact HX _ _ _
  have hT4 : lU (p.counts.take (k + 1)) 4 = lU (p.counts.take k) 4 + (if Ou x = 4 then 1 else 0) := by rw [cP hx]; exact HX _ _ _
  have acC := On (p.counts.take k) 1;have acB := On (p.counts.take k) 4;rw [fK] at acC acB;have Tf : gV (p.counts.take (k + 1)) = if x = 0 then x8 (gV (p.counts.take k)) ((k : Int) + 1) ((k : Int) + 1) else gV (p.counts.take k) := by rw [cP hx, zg, fK, Nc oM]
  refine z6 ?_;refine fk rfl bP cT rfl rfl ⟨oM, oM⟩ ?_;refine bt rfl rfl (aj.one ai (((iu.of sF).at hw).at (by rw [fQ]; exact CM))) ?_;refine z8 ?_;refine lD vQ hw ?_;have hw := hw.pick (A := row 4 _ _ _ _) pK;obtain ⟨-, lb, abx, rfl, O3, Kq, hl3, hw⟩ := ij hw oM;refine z3 ?_;refine fk rfl xA DT rfl rfl ⟨oM, oM⟩ ?_;refine bS (l' := zG (oU p.counts p.last (k + 1)) ++ abx) rfl tV rfl rfl cr rfl hw pK (by simp [lr, nw oW (by omega : k <= p.counts.length)]; omega) (by rw [r8, fQ, List.set_append_left _ _ (by rw [lr, nw oW oM]; exact nS), <-Ip oW hx]; simp [zG, tS]) rfl (fun w hw => ?_);have hle := nw (k := k + 1) oW oM;have hw := np (xs := zG (oU p.counts p.last (k + 1))) (m := p.counts.length) (z := 1) hw (by rw [lr, hle, KZ]) O3 Kq (by rw [<-hl3, cj, cj, lr, lr, hle, nw oW oM]);have hz := hw.b [ag q _ _, row 3 _ _ _ _, row 4 _ _ _ _];have ND : ar G (xJ q ⟨p.refs, p.counts, .slice (some ⟨bb, oo, none⟩) p.counts.length cc, oU p.counts p.last (k + 1), sQ lb p.counts.length lc, some ⟨fq, 0, none⟩, 0, (lU (p.counts.take k) 1), 0, 0, (lU (p.counts.take k) 4), nQ, 0, p.floor + p.na⟩ (ag fq [fv] 230 :: row 232 2 fv (gV (p.counts.take k)).length ((gV (p.counts.take k)).map cz).flatten :: L)) w := by
   show ar G (ag q _ _ :: row 3 1 _ _ _ :: row 4 1 _ (oU p.counts p.last (k + 1)).length _ :: _) w
   rw [hle];exact hz
  clear hw;have hw := ND;obtain ⟨sx, hsx⟩ : ∃ sx, sx = Ou x := ⟨_, rfl⟩;have Tu : sx = 1 \/ sx = 4 := by rw [hsx]; unfold Ou; split <;> simp
  obtain ⟨tx, ht1, ht4, G8⟩ : ∃ tx : Int, (sx = 1 -> tx = (lU (p.counts.take k) 1)) /\ (sx = 4 -> tx = (lU (p.counts.take k) 4)) /\ (0 <= tx /\ tx <= 65536) := by
   rcases Tu with h | h
   ·exact ⟨_, fun _ => rfl, fun h' => by omega, oM⟩
   exact ⟨_, fun h' => by omega, fun _ => rfl, oM⟩
  refine z2 ?_;refine bu [0, 1, 2, 3, 5, 6, 10, 11, 4, 7, 8, 9, 12, 13] bK kR ?_;replace hw := hw.drawn (w.drawn + 1);refine z8 ?_;refine an rfl fI rfl (j8 hw hl hle) kR fun w Zg hv => ?_;have hv : Zg = iQ sx /\ ar G (ag q [iQ p.refs, .slice (some ⟨bb, oo, none⟩) p.counts.length cc, sQ lb p.counts.length lc, pQ fq, iQ 0, iQ (lU (p.counts.take k) 1), iQ 0, iQ 0, iQ (lU (p.counts.take k) 4), nQ, iQ (p.floor + p.na)] 86 :: row 3 1 (.slice (some ⟨bb, oo, none⟩) p.counts.length cc) p.counts.length (bG p.counts) :: row 4 1 (sQ lb p.counts.length lc) p.counts.length (zG (oU p.counts p.last (k + 1))) :: ag fq [fv] 230 :: row 232 2 fv (gV (p.counts.take k)).length ((gV (p.counts.take k)).map cz).flatten :: L) w := by
   obtain ⟨h3, h4⟩ := hv;have h5 : ar G (ag q _ _ :: row 3 1 _ _ _ :: row 4 1 _ (oU p.counts p.last (k + 1)).length _ :: _) w := h4;rw [hle] at h5;exact ⟨by rw [hsx, <-KM oW hx]; exact h3, h5⟩
  obtain ⟨rfl, hw⟩ := hv;refine yI rfl qT cT rfl rfl ⟨oM, oM⟩ ?_;refine bt rfl rfl (aj.bx (v := iQ tx) ai hw pK (by rcases Tu with rfl | rfl; (rw [ht1 rfl]; rfl); (rw [ht4 rfl]; rfl))) ?_;refine z1 ?_;refine yI rfl qT cT rfl rfl ⟨oM, oM⟩ ?_;refine bS (l' := [iQ p.refs, .slice (some ⟨bb, oo, none⟩) p.counts.length cc, sQ lb p.counts.length lc, pQ fq, iQ 0, iQ (lU (p.counts.take (k + 1)) 1), iQ 0, iQ 0, iQ (lU (p.counts.take (k + 1)) 4), nQ, iQ (p.floor + p.na)]) rfl tV rfl rfl ai rfl hw pK (by rcases Tu with rfl | rfl <;> rfl) (by
   rw [ZG, hT4, <-hsx];rcases Tu with rfl | rfl
   ·rw [ht1 rfl]; rfl
   ·rw [ht4 rfl]; rfl) kR (fun w hw => ?_)
  refine z6 ?_;refine aS rfl (fun h2 => ?_) fun h2 => ?_
  ·
   refine z4 ?_;refine lD eX hw ?_;refine z4 ?_;refine an rfl ph rfl (pT (hw.b [ag fq _ _, row 232 _ _ _ _]) oM (by unfold mf; simp only; omega) Bb.1 oM) rfl (fun w v61 hv => ?_);obtain ⟨-, fv', hw⟩ := hv;refine z5 ?_;rw [ah h2] at Tf;refine ⟨p.counts.length - (k + 1), oM, [(0, _), (23, _), (24, _), (25, iQ (k + 1 : Nat))], sB, k + 1, fv', oM, rfl, rfl, ?_⟩;rw [Tf];exact hw.b [ag q _ _, row 3 _ _ _ _, row 4 _ _ _ _, ag fq _ _, row 232 _ _ _ _]
  refine z5 ?_;rw [ae h2] at Tf;refine ⟨p.counts.length - (k + 1), oM, [(0, _), (23, _), (24, _), (25, iQ (k + 1 : Nat))], sB, k + 1, fv, oM, rfl, rfl, ?_⟩;rw [Tf];exact hw
 refine z1 ?_;exact j7 rfl rfl (by
 have wg : k = p.counts.length := oM;subst wg;rw [uZ, Qb oW] at hw;refine ⟨rfl, fq, fv, ?_⟩
 show ar G (ag q _ _ :: row 3 1 _ _ _ :: row 4 1 _ (p.counts.map fun x => decide (0 < x)).length _ :: _) w
 rw [bA];simp only [GV.cells, hcv, LW];exact hw)
end
def Wq (refs : Int) (c : List Int) (cv lv : Value) (fq : Nat) : GV := ⟨refs, c, cv, c.map (fun x => decide (0 < x)), lv, some ⟨fq, 0, none⟩, 0, lU c 1, 0, 0, lU c 4, nQ, 0, 0⟩
abbrev M7 (fq : Nat) (fv : Value) (rs : List (Int × Int)) (L : List az) : List az := ag fq [fv] 230 :: row 232 2 fv rs.length (rs.map cz).flatten :: L
section
variable {G : Gh} {L R : List az} {w : World}
theorem J4 {refs : Int} {v : Value} {c : List Int} (hw : ar G (row 3 1 v c.length (bG c) :: L) w) (hl : c.length <= 65536) (IA : ∀ x ∈ c, 0 <= x) : Calls prog 66 #[iQ refs, v] w (dv fun r w' => ∃ q cv lv fq fv, r = pQ q /\ ar G (xJ q (Wq refs c cv lv fq) (M7 fq fv (gV c) L)) w') := by
 obtain ⟨a, cap, rfl⟩ := aM hw;refine al (args := [_, _]) func66 rfl ntmps66 rfl rfl ?_;refine yb ?_;refine KC rfl xA DT V5 Ri rfl rfl ⟨oM, oM⟩ oM oM hw rfl fun w qk hw => ?_;have hw : ar G (ag qk (zG (List.replicate c.length false)) 4 :: row 3 1 (.slice a c.length cap) c.length (bG c) :: L) w := by
  have e : zG (List.replicate c.length false) = rep c.length (.bool false) := by simp [zG, rep]
  rw [e]; exact hw
 have hw := jE (z := 1) (m := c.length) hw (by rw [lr, Ni, KZ]) mL;refine aQ (v := .agg #[iQ refs, .slice a c.length cap, sQ qk c.length c.length, .pointer none, iQ 0, iQ 0, iQ 0, iQ 0, iQ 0, nQ, iQ 0]) rfl rfl (fun w => kR) ?_;refine bE rfl rfl rfl hw rfl fun w TK hw => ?_;have ND : ar G (xJ TK ⟨refs, c, .slice a c.length cap, List.replicate c.length false, sQ qk c.length c.length, none, 0, 0, 0, 0, 0, nQ, 0, 0⟩ L) w := by
  have hz := hw.b [ag TK _ _, row 3 _ _ _ _, row 4 _ _ _ _]
  show ar G (ag TK _ _ :: row 3 1 _ _ _ :: row 4 1 _ (List.replicate c.length false).length _ :: _) w
  rw [Ni];exact hz
 refine z5 ?_;refine an rfl pj rfl (pU ND ⟨none, 0, rfl⟩ (show (0 : Int) <= 0 /\ (0 : Int) + ((0 : Nat) : Int) <= 1000000000000000 by decide) hl sM IA) rfl fun w QY hv => ?_;obtain ⟨-, fq, fv, hw⟩ := hv;refine z7 ?_;exact br rfl rfl rfl ⟨TK, _, _, fq, fv, rfl, hw⟩
theorem Mi {n refs : Int} (hw : ar G L w) : Calls prog 35 #[iQ n, iQ refs] w (dv fun r w' => (¬ (1 <= n /\ n <= 65536 /\ 2 <= refs /\ refs < 65536) /\ r = .tuple #[.pointer none, iQ 1] /\ ar G L w') ∨
  ((1 <= n /\ n <= 65536 /\ 2 <= refs /\ refs < 65536) /\ ∃ q cv lv fq fv, r = .tuple #[pQ q, iQ 0] /\ ar G (xJ q (Wq refs (List.replicate n.toNat 0) cv lv fq) (M7 fq fv (gV (List.replicate n.toNat 0)) L)) w')) := by
 refine al (args := [_, _]) func35 rfl ntmps35 rfl rfl ?_;refine yb ?_;refine an rfl Gp rfl (Hy hw) rfl fun w v8 hv => ?_;obtain ⟨rfl, hw⟩ := hv;refine jX rfl rfl ?_;refine aH ?_;refine aS rfl (fun h1 => ?_) fun h1 => ?_
 ·
  have D4 : ¬ (1 <= n /\ n <= 65536 /\ 2 <= refs /\ refs < 65536) := by simpa using h1
  refine z6 ?_;exact eK rfl rfl rfl rfl (.inl ⟨D4, rfl, hw⟩)
 have D4 : 1 <= n /\ n <= 65536 /\ 2 <= refs /\ refs < 65536 := by simpa using h1
 refine z5 ?_;refine KC rfl bP cT qR HS rfl rfl ⟨oM, oM⟩ oM oM hw rfl fun w TK hw => ?_;have hw : ar G (ag TK (bG (List.replicate n.toNat 0)) 3 :: L) w := by
  have e : bG (List.replicate n.toNat 0) = rep n.toNat (iQ 0) := by simp [bG, rep]
  rw [e]; exact hw
 have hw := jE (z := 1) (m := (List.replicate n.toNat (0 : Int)).length) hw (by rw [cC, KZ]) (by rw [Ni]; simp only [maxLen]; omega);refine an rfl HM rfl (J4 (v := sQ TK n.toNat n.toNat) (c := List.replicate n.toNat 0) (by rw [Ni] at hw ⊢; exact hw) (by rw [Ni]; omega) (by intro x hx; rw [PV hx]; decide)) rfl (fun w Xm hv => ?_);obtain ⟨q, cv, lv, fq, fv, rfl, hw⟩ := hv;refine z4 ?_;exact eK rfl rfl rfl rfl (.inr ⟨D4, q, cv, lv, fq, fv, rfl, hw⟩)
end
def Wh (pq : Nat) (om : Nat) (av : Value) (floor : Int) : List Value := [pQ pq, .map (some om), av, iQ floor]
def og (on : List (Int × bm)) : KV := on.map fun x => (x.1, gQ x.2.cells)
theorem Ii (n : Int) : ∀ on : List (Int × bm), fD (og on) n = (on.find? fun x => x.1 == n).map fun x => gQ x.2.cells
 | [] => rfl
 | x :: on => by
  have ih := Ii n on;simp only [og, cG, fD, Nd] at ih ⊢
  by_cases h : x.1 = n
  ·subst h; simp
  have h2 : (x.1 == n) = false := by simpa using h
  rw [h2];simp only [ih]
  first | rw [ae h] | rw [ae (fun e => h e.symm)]
section
variable {G : Gh} {L R : List az} {w : World}
theorem AG {n refs : Int} (hw : ar G L w) : Calls prog 15 #[iQ n, iQ refs] w (dv fun r w' => (¬ (1 <= n /\ n <= 65536 /\ 2 <= refs /\ refs < 65536) /\ r = .tuple #[.pointer none, iQ 1] /\ ar G L w') ∨
  ((1 <= n /\ n <= 65536 /\ 2 <= refs /\ refs < 65536) /\ ∃ vq om q cv lv fq fv, r = .tuple #[pQ vq, iQ 0] /\ ar G (ag vq (Wh q om (nQ) 0) 38 :: cX om (og []) :: xJ q (Wq refs (List.replicate n.toNat 0) cv lv fq) (M7 fq fv (gV (List.replicate n.toNat 0)) L)) w')) := by
 refine al (args := [_, _]) func15 rfl ntmps15 rfl rfl ?_;refine z9 ?_;refine an rfl J7 rfl (Mi hw) rfl fun w v11 hv => ?_;have hv : ∃ (pp : Option Addr) (er : Int), v11 = .tuple #[.pointer pp, iQ er] /\ ((er = 1 /\ ¬ (1 <= n /\ n <= 65536 /\ 2 <= refs /\ refs < 65536) /\ ar G L w) \/ (er = 0 /\ (1 <= n /\ n <= 65536 /\ 2 <= refs /\ refs < 65536) /\ ∃ q cv lv fq fv, pp = some ⟨q, 0, none⟩ /\ ar G (xJ q (Wq refs (List.replicate n.toNat 0) cv lv fq) (M7 fq fv (gV (List.replicate n.toNat 0)) L)) w)) := by
  rcases hv with ⟨h1, h2, h3⟩ | ⟨h1, q, cv, lv, fq, fv, h2, h3⟩
  ·exact ⟨none, 1, h2, .inl ⟨rfl, h1, h3⟩⟩
  exact ⟨some ⟨q, 0, none⟩, 0, h2, .inr ⟨rfl, h1, q, cv, lv, fq, fv, rfl, h3⟩⟩
 obtain ⟨pp, er, rfl, Iy⟩ := hv;refine KA ?_;refine aS rfl (fun h1 => ?_) fun h1 => ?_
 ·
  obtain ⟨rfl, hn, hw⟩ := Iy.resolve_right (fun h => h1 h.1);refine z7 ?_;exact eK rfl rfl rfl rfl (.inl ⟨hn, rfl, hw⟩)
 obtain ⟨rfl, hn, q, cv, lv, fq, fv, rfl, hw⟩ := Iy.resolve_left (fun h => h1 (by rw [h.1]; decide));refine z4 ?_;refine Rv rfl hw rfl fun w m18 hw => ?_;refine aQ (v := gQ (Wh q m18 (nQ) 0)) rfl rfl (fun w => kR) ?_;refine bE rfl rfl rfl hw rfl fun w b20 hw => ?_;refine z4 ?_;exact eK rfl rfl rfl rfl (.inr ⟨hn, b20, m18, q, cv, lv, fq, fv, rfl, hw⟩)
end
def pI (S : List bm) : az := aT (S.map aR)
theorem bm.Ok.lp {A M B C : List az} {p : bm} (h : p.Ok A) (e : M = B ++ (A ++ C)) : p.Ok [aT M] :=
 ⟨⟨h.its.sl.lp e, fun x hx => ⟨(h.its.it x hx).k.lp e, (h.its.it x hx).v.lp e, (h.its.it x hx).sk, (h.its.it x hx).sv⟩, h.its.len⟩, h.data.lp e, h.sd⟩
theorem bm.Ok.pick {A : az} {L R : List az} {p : bm} (h : p.Ok [A]) (q : dg A L R) : p.Ok L :=
 ⟨⟨(h.its.sl.head _).pick q, fun x hx => ⟨((h.its.it x hx).k.head _).pick q, ((h.its.it x hx).v.head _).pick q, (h.its.it x hx).sk, (h.its.it x hx).sv⟩, h.its.len⟩, (h.data.head _).pick q, h.sd⟩
theorem Bm {S : List bm} {p : bm} (hm : p ∈ S) (hs : p.Sm) {L R : List az} (q : dg (pI S) L R) : p.Ok L := by
 obtain ⟨B, C, rfl⟩ := PS hm;have h1 : p.Ok [aR p] := aB hs .here;exact (h1.lp (B := B.map aR) (C := C.map aR) sM).pick q
theorem cF {L : List az} {p : bm} {G : Gh} {w : World} (h : p.Ok L) (hw : ar G L w) : jN p.cells := fun u hu => by
 obtain ⟨a1, c1, a2, c2, h1, h2, gJ⟩ := h.form hw;rw [gJ] at hu;simp only [bB, cW, or_false] at hu
 rcases hu with rfl | rfl | rfl | rfl | rfl <;> rfl
def bI : bm := ⟨0, 0, [], nQ, nQ, [], 0⟩
def xK (on : List (Int × bm)) (n : Int) : Option bm := (on.find? fun x => x.1 == n).map (·.2)
theorem LF (on : List (Int × bm)) (n : Int) : fD (og on) n = (xK on n).map fun p => gQ p.cells := by
 rw [Ii, xK, Option.map_map]; rfl
abbrev vtP (vq pq om : Nat) (av : Value) (floor : Int) (p : GV) (on : List (Int × bm)) (S : List bm) (L : List az) : List az := ag vq (Wh pq om av floor) 38 :: cX om (og on) :: pI S :: xJ pq p L
theorem oL : (prog.info? 75).bind (·.zero) = some (.agg #[iQ 0, iQ 0, nQ, nQ, iQ 0]) := by kernel_rfl
section
variable {G : Gh} {L R : List az} {w : World}
theorem xS {vq pq om : Nat} {av : Value} {floor n : Int} {p : GV} {on : List (Int × bm)} {S : List bm} (hw : ar G (vtP vq pq om av floor p on S L) w) (hl : p.counts.length <= 65536)
  (O1 : iF p.counts n ≠ 0 -> ∃ pg, xK on n = some pg /\ pg ∈ S /\ pg.Sm) : Calls prog 28 #[pQ vq, iQ n] w (dv fun r w' =>
  (iF p.counts n = 0 /\ r = .tuple #[gQ bI.cells, iQ 15] /\ ar G (vtP vq pq om av floor p on S L) w') ∨
  (iF p.counts n ≠ 0 /\ ∃ pg p', xK on n = some pg /\ r = .tuple #[gQ p'.cells, iQ 0] /\ p'.pg = pg.pg /\ p'.Sm /\ ar G (aR p' :: vtP vq pq om av floor p on S L) w')) := by
 refine al (args := [_, _]) func28 rfl ntmps28 rfl rfl ?_;refine z2 ?_;refine aN rfl bf hw rfl fun w b4 hw => ?_;refine z8 ?_;refine lD bp hw ?_;refine z1 ?_;refine an rfl fJ rfl (qN (p := p) (q := pq) (hw.b [ag pq _ _, row 3 _ _ _ _, row 4 _ _ _ _]) hl) rfl fun w v11 hv => ?_;obtain ⟨rfl, hw⟩ := hv;refine z2 ?_;refine aS rfl (fun h1 => ?_) fun h1 => ?_
 ·
  refine z2 ?_;refine aQ (v := gQ bI.cells) rfl rfl (fun w => kR) ?_;refine aL (cs := bI.cells) (l' := bI.cells) rfl tV rfl rfl ad rfl (by intro u hu; simp only [bI, bm.cells, bB, cW, or_false] at hu; rcases hu with rfl | rfl | rfl | rfl | rfl <;> rfl) hw pK (by simp [bI, bm.cells]) rfl rfl (fun w hw => ?_);refine z3 ?_;exact eK rfl rfl ⟨_, rfl, (aj.cw ad hw pK rfl)⟩ rfl (.inl ⟨h1, rfl, (hw.b [ag b4 _ _, ag vq _ _, cX _ _, pI _, ag pq _ _, row 3 _ _ _ _, row 4 _ _ _ _]).tail⟩)
 obtain ⟨pg, re, Hd, GO⟩ := O1 h1;refine z6 ?_;refine lD dt hw ?_;refine z1 ?_;refine zO (v0 := gQ pg.cells) rfl dP kY oL rfl rfl hw pK (by rw [LF, re]; rfl) ?_;refine an rfl lI rfl (mi (p := pg) hw (Bm Hd GO pK)) rfl fun w v20 hv => ?_;obtain ⟨p', rfl, D3, ft, hw⟩ := hv;refine aL (cs := p'.cells) (l' := p'.cells) rfl tV rfl rfl ad rfl (cF (aB ft pK) hw) hw pK (by simp [bm.cells]) rfl rfl fun w hw => ?_;refine z3 ?_;exact eK rfl rfl ⟨_, rfl, (aj.cw ad hw pK rfl)⟩ rfl (.inr ⟨h1, pg, p', re, rfl, D3, ft, (hw.b [ag b4 _ _, aR _, ag vq _ _, cX _ _, pI _, ag pq _ _, row 3 _ _ _ _, row 4 _ _ _ _]).tail⟩)
end
def OM (c : List Int) : List Int -> List (Int × Pg) -> Int
 | _, [] => 0
 | seen, x :: r => if iF c x.1 = 0 then 15 else if x.1 ∈ seen then 10 else if bD x.2 ≠ 0 then bD x.2 else OM c (x.1 :: seen) r
def Lk (refs : Int) (c : List Int) : Int := if ¬ (1 <= (c.length : Int) /\ (c.length : Int) <= 65536 /\ 2 <= refs /\ refs < 65536) then 1 else if ¬ (∀ x ∈ c, 0 <= x /\ x <= refs) then 13 else 0
def pgs (l : List (Int × bm)) : List (Int × Pg) := l.map fun x => (x.1, x.2.pg)
theorem UY {on : List (Int × bm)} {n : Int} {p : bm} (h : xK on n = some p) : (n, p) ∈ on := by
 unfold xK at h;obtain ⟨x, hx, rfl⟩ := La.1 h;have h1 := List.find?_some hx;have h2 := UL hx;simp at h1
 rw [<-h1]; exact h2
theorem P5 (on : List (Int × bm)) : (og on).map (·.1) = on.map (·.1) := by simp [og, PK, Function.comp_def]
structure RvV where
 r : Int
 c : List Int
 cv : Value
 l : List Bool
 lv : Value
 p : List bm
 pv : Value
 av : Value
 floor : Int
 ac9 : Bool

theorem OP {l : List Int} {k : Nat} {x : Int} (h : l[k]? = some x) : (bG l)[k]? = some (iQ x) := by simp only [bG, dB, h]; rfl
section
variable {G : Gh} {L R : List az} {w : World}
theorem te {v u : Value} {l l' : List Int} (hw : ar G L w) (ka : aX L (tF v (bG l))) (kb : aX L (tF u (bG l'))) (hl : l.length <= 1000000000) : Calls prog 27 #[v, u] w (dv fun r w' => r = .bool (decide (l = l')) /\ ar G L w') := by
 obtain ⟨a, cap, rfl⟩ := (ka.at hw).form;obtain ⟨a', cap', rfl⟩ := (kb.at hw).form;rw [cC, cC];rw [cC] at ka kb;refine al (args := [_, _]) func27 rfl ntmps27 rfl rfl ?_;refine Zc ?_;refine aS rfl (fun h1 => ?_) fun h1 => ?_
 ·
  refine z5 ?_;exact br rfl rfl rfl ⟨congrArg Value.bool (decide_eq_false (fun h => by subst h; omega)).symm, hw⟩
 refine z9 ?_;refine cO (fun m e w => ∃ k : Nat, k <= l.length /\ m = l.length - k /\ e = [(0, .slice a l.length cap), (1, .slice a' l'.length cap'), (12, iQ l.length), (13, iQ k)] /\ l.take k = l'.take k /\ ar G L w)
  (m := l.length) sB
  ⟨0, fo _, rfl, rfl, rfl, hw⟩ ?_
 rintro m e w ⟨k, hk, rfl, rfl, hE, hw⟩;refine z5 ?_;refine aS rfl (fun h2 => ?_) fun h2 => ?_
 ·
  have nS : k < l.length := oM;obtain ⟨x, hx⟩ : ∃ x, l[k]? = some x := ⟨_, cV nS⟩;obtain ⟨y, hy⟩ : ∃ y, l'[k]? = some y := ⟨_, cV oM⟩;obtain ⟨bb, oo, rfl⟩ := (ka.at hw).nn (by rw [cC]; omega);obtain ⟨b2, o2, rfl⟩ := (kb.at hw).nn (by rw [cC]; omega);refine z9 ?_;refine bu [0, 1, 2, 3, 4, 5, 6, 7, 8] bK kR ?_;replace hw := hw.drawn (w.drawn + 1);refine z2 ?_;refine fk rfl bP cT rfl rfl ⟨oM, oM⟩ ?_;refine bt rfl rfl (aj.one ai ((ka.at hw).at (by rw [fQ]; exact OP hx))) ?_;refine z2 ?_;refine fk rfl bP cT rfl rfl ⟨oM, oM⟩ ?_;refine bt rfl rfl (aj.one ai ((kb.at hw).at (by rw [fQ]; exact OP hy))) ?_;refine z2 ?_;refine aS rfl (fun h3 => ?_) fun h3 => ?_
  ·
   refine z5 ?_;exact br rfl rfl rfl ⟨congrArg Value.bool (decide_eq_false (fun h => by
 subst h;rw [hx] at hy;exact h3 (Option.some.inj hy))).symm, hw⟩
  refine z5 ?_;exact ⟨l.length - (k + 1), oM, [(0, _), (1, _), (12, _), (13, iQ (k + 1 : Nat))], sB, k + 1, oM, rfl, rfl, by rw [cP hx, cP hy, hE, cJ.1 h3], hw⟩
 refine z6 ?_;exact br rfl rfl rfl ⟨congrArg Value.bool (decide_eq_true (by
 rw [vN oM, vN oM] at hE;exact hE)).symm, hw⟩
end
structure Tr where
 root : Int
 aK : Int
 items : Int
deriving DecidableEq
def aC (t : Tr) : List Value := [iQ t.root, iQ t.aK, iQ t.items]
def dR (x : Int × Tr) : List Value := [iQ x.1, iQ x.2.root, iQ x.2.aK, iQ x.2.items]
def r7 : Nat -> List Tr -> List (Int × Tr)
 | _, [] => []
 | i, t :: l => ((i : Int) + 1, t) :: r7 (i + 1) l
theorem CA : ∀ (l : List Tr) (i : Nat) (t : Tr), r7 i (l ++ [t]) = r7 i l ++ [(((i + l.length : Nat) : Int) + 1, t)]
 | [], i, t => by simp [r7]
 | x :: l, i, t => by
  simp only [j4, r7, CA l, jO];rw [show i + 1 + l.length = i + (l.length + 1) by omega]
theorem yh : ∀ (l : List Tr) (i : Nat), (r7 i l).length = l.length
 | [], _ => rfl
 | _ :: l, i => by simp [r7, yh l]
def eh (l : List Tr) : List (Int × Tr) := r7 0 l
theorem KU {l : List Tr} {k : Nat} {t : Tr} (h : l[k]? = some t) : eh (l.take (k + 1)) = eh (l.take k) ++ [((k : Int) + 1, t)] := by
 have hk := (nU.1 h).1;rw [cP h, eh, CA, fK, Nc oM, r8];rfl
section
variable {G : Gh} {L R : List az} {w : World}
theorem nH {v : Value} {l : List Tr} (hw : ar G L w) (ka : aX L (gC 3 v (l.map aC))) (hl : l.length <= 1000000000) : Calls prog 7 #[v] w (dv fun r w' => ar G (row 69 4 r l.length ((eh l).map dR).flatten :: L) w') := by
 obtain ⟨a, cap, h1, -, -⟩ := (ka.at hw).form;rw [bA] at h1;subst h1;refine al (args := [_]) func7 rfl ntmps7 rfl rfl ?_;refine W9 ?_;have hw := cf hw 69 4;refine cO (fun m e w => ∃ (k : Nat) (u : Value), k <= l.length /\ m = l.length - k /\ e = [(0, .slice a l.length cap), (3, u), (4, iQ k)] /\ ar G (row 69 4 u k ((eh (l.take k)).map dR).flatten :: L) w)
  (m := l.length) sB
  ⟨0, _, fo _, rfl, rfl, hw⟩ ?_
 rintro m e w ⟨k, u, hk, rfl, rfl, hw⟩;refine z5 ?_;refine dQ rfl kR aU rfl ?_;refine z2 ?_;refine aS rfl (fun h1 => ?_) fun h1 => ?_
 ·
  have nS : k < l.length := oM;obtain ⟨x, hx⟩ : ∃ x, l[k]? = some x := ⟨_, cV nS⟩;have vu : (l.map aC)[k]? = some (aC x) := by rw [dB, hx]; rfl
  obtain ⟨bb, oo, rfl⟩ := ((ka.of sF).at hw).nn (by rw [bA]; omega);refine z9 ?_;refine dD rfl aU bV rfl rfl ⟨oM, oM⟩ ?_;refine bt rfl rfl (aj.many aF rfl (by rw [fQ]; exact ((ka.of sF).at hw).at vu)) ?_;refine aQ (v := .agg (dR ((k : Int) + 1, x)).toArray) rfl rfl (fun w => kR) ?_;refine hY (cs := dR ((k : Int) + 1, x)) rfl fz jR ld dM rfl rfl rfl hw rfl fun w b19 hw => ?_;refine gP (m := k) (k := 1) (news := dR ((k : Int) + 1, x)) rfl fz jR wZ ld rfl rfl hw pK (Rd.nP hw pK) rfl (by intro u hu; simp [dR] at hu; rcases hu with rfl | rfl | rfl | rfl <;> rfl) mL oM rfl (fun w v20 hw => ?_);refine z7 ?_;have e1 : ((eh (l.take (k + 1))).map dR).flatten = ((eh (l.take k)).map dR).flatten ++ dR ((k : Int) + 1, x) := by rw [KU hx]; simp
  refine ⟨l.length - (k + 1), oM, [(0, _), (3, _), (4, iQ (k + 1 : Nat))], sB, k + 1, _, oM, rfl, rfl, ?_⟩;rw [e1];exact (hw.b [ag b19 _ _, row 69 _ _ _ _]).tail
 refine z7 ?_;exact br rfl rfl rfl (by
 have wg : k = l.length := oM;subst wg;rw [uZ] at hw;exact hw)
end
theorem abv {α β : Type} {f : α -> β} {l : List α} {a b c : β} (h : l.map f = [a, b, c]) : ∃ x y z, l = [x, y, z] /\ f x = a /\ f y = b /\ f z = c := by
 match l, h with
 | [x, y, z], h => simp at h; exact ⟨x, y, z, rfl, h.1, h.2.1, h.2.2⟩
theorem KR (d : Nat) (w : World) (a b : Tr) : (Op.equalIn (d + 2) 62 (gQ (aC a)) (gQ (aC b))).run prog w = .ok (decide (a.root = b.root /\ a.aK = b.aK /\ a.items = b.items)) w := by
 have hf : ((prog.fieldsOf 62).toList.map fun f => (f.name != "_", f.type, f.offset)) = [(true, 3, 0), (true, 3, 1), (true, 3, 2)] := by kernel_rfl
 obtain ⟨f1, f2, f3, h, h1, h2, h3⟩ := abv hf;have hu : prog.underlying 3 = some (.int .i64) := kY;have hi : (prog.info? 3).map (·.size) = some 1 := cT;simp only [Prod.mk.injEq, bne_iff_ne, ne_eq] at h1 h2 h3;have hp : ∀ (xs : Array Value) (o : Nat) (v : Value) (w : World), xs[o]? = some v -> (part 3 xs o).run prog w = .ok v w := by
  intro xs o v w hv;exact run_part_plain w kR hv
 rw [run_equalIn_agg _ _ _ _ _ kR kR, h];simp [Op.eqFields, h1, h2, h3, hp, aC, run_equalIn_int _ _ _ _ _ _ _ hu]
 by_cases e1 : a.root = b.root <;> by_cases e2 : a.aK = b.aK <;> by_cases e3 : a.items = b.items <;> simp [e1, e2, e3]
structure Rp where
 trees : Int
 pages : Int
 leaves : Int
 index : Int
 tz : Int
 items : Int
 bytes : Int
 bad : List Int
deriving DecidableEq
structure mY where
 r : Rp
 bv : Value
def mY.cells (a : mY) : List Value := [iQ a.r.trees, iQ a.r.pages, iQ a.r.leaves, iQ a.r.index, iQ a.r.tz, iQ a.r.items, iQ a.r.bytes, a.bv]
structure mY.Ok (L : List az) (a : mY) : Prop where
 bad : aX L (tF a.bv (bG a.r.bad))
 len : a.r.bad.length <= 1000000000
theorem LK {l : List Int} {k : Nat} (h : k < l.length) : (bG l)[(k : Int).toNat]? = some (iQ (l.getD k 0)) := by simp [bG, h]
theorem mY.Ok.of {L L' : List az} {a : mY} (h : a.Ok L) (s : Ps L L') : a.Ok L' := ⟨h.bad.of s, h.len⟩
theorem Wl (a b : Rp) : a = b ↔ (a.trees = b.trees /\ a.pages = b.pages /\ a.leaves = b.leaves /\ a.index = b.index /\ a.tz = b.tz /\ a.items = b.items /\ a.bytes = b.bytes) /\ a.bad = b.bad := by
 obtain ⟨a1, a2, a3, a4, a5, a6, a7, a8⟩ := a;obtain ⟨b1, b2, b3, b4, b5, b6, b7, b8⟩ := b;simp only [Rp.mk.injEq, and_assoc]
section
variable {G : Gh} {L R : List az} {w : World}
theorem DF {v v' : Value} {l l' : List Int} (hw : ar G L w) (ka : aX L (tF v (bG l))) (kb : aX L (tF v' (bG l'))) (hl : l.length <= 140737488355328) (NK : l'.length <= 140737488355328) :
  Calls prog 13 #[v, v'] w (dv fun r w' => r = .bool (decide (l = l')) /\ ar G L w') := by
 obtain ⟨a, cap, rfl⟩ := ((ka.of sF).at hw).form;obtain ⟨a', cap', rfl⟩ := ((kb.of sF).at hw).form;simp only [cC] at ka kb ⊢;refine al (args := [_, _]) func13 rfl ntmps13 rfl rfl ?_;refine Zc ?_;refine aS rfl (fun h1 => ?_) fun h1 => ?_
 ·
  have ly : ¬ l = l' := fun h => by subst h; omega
  refine z5 ?_;exact br rfl rfl rfl ⟨by simp [ly], hw⟩
 have oW : l.length = l'.length := oM;refine z7 ?_;refine cO (fun m e w => ∃ k : Nat, k <= l.length /\ m = l.length - k /\ e = [(0, .slice a l.length cap), (1, .slice a' l'.length cap'), (5, iQ k)] /\ (∀ j, j < k -> l.getD j 0 = l'.getD j 0) /\ ar G L w)
  (m := l.length) sB
  ⟨0, fo _, rfl, rfl, (fun j h => by omega), hw⟩ ?_
 rintro m e w ⟨k, hk, rfl, rfl, hci, hw⟩;refine z8 ?_;refine aS rfl (fun h2 => ?_) fun h2 => ?_
 ·
  have nS : k < l.length := oM;obtain ⟨b, o, rfl⟩ := ((ka.of sF).at hw).nn (by rw [cC]; omega);obtain ⟨b', o', rfl⟩ := ((kb.of sF).at hw).nn (by rw [cC]; omega);refine z4 ?_;refine bu [0, 1, 2, 3, 4, 5, 6, 7, 8] bK kR ?_;replace hw := hw.drawn (w.drawn + 1);refine z2 ?_;refine fk rfl bP cT rfl rfl ⟨oM, oM⟩ ?_;refine bt rfl rfl (aj.one ai (((ka.of sF).at hw).at (LK nS))) ?_;refine z2 ?_;refine fk rfl bP cT rfl rfl ⟨oM, oM⟩ ?_;refine bt rfl rfl (aj.one ai (((kb.of sF).at hw).at (LK (by omega : k < l'.length)))) ?_;refine z2 ?_;refine aS rfl (fun h3 => ?_) fun h3 => ?_
  ·
   have ly : ¬ l = l' := fun h => h3 (by rw [h])
   refine z5 ?_;exact br rfl rfl rfl ⟨by simp [ly], hw⟩
  refine z6 ?_;refine ⟨l.length - (k + 1), oM, [(0, _), (1, _), (5, iQ (k + 1 : Nat))], sB, k + 1, oM, rfl, rfl, fun j hj => ?_, hw⟩
  by_cases LZ : j = k
  ·subst LZ; exact cJ.1 h3
  exact hci j oM
 refine z6 ?_;exact br rfl rfl rfl (by
 have we : k = l.length := oM;have he : l = l' := by
  apply List.ext_getElem oW;intro j h1 h2;have := hci j oM
  simpa [h1, h2] using this
 exact ⟨by simp [he], hw⟩)
theorem AJ {a b : mY} (hw : ar G L w) (ha : a.Ok L) (hb : b.Ok L) : Calls prog 34 #[gQ a.cells, gQ b.cells] w (dv fun u w' => u = .bool (decide (a.r = b.r)) /\ ar G L w') := by
 have CU := ha.bad;have Q8 := hb.bad;have CT := ha.len;have WV := hb.len;refine al (args := [_, _]) func34 rfl ntmps34 rfl rfl ?_;refine z2 ?_;refine bE rfl rfl rfl hw rfl fun w b2 hw => ?_;refine bE rfl rfl rfl hw rfl fun w b3 hw => ?_;refine z5 ?_;refine lD ai hw ?_;refine z1 ?_;refine lD ai hw ?_;refine z2 ?_;refine bY (l1 := [6, 7, 8, 9, 10, 11]) (l2 := [12, 13, 14, 15, 16, 17, 18, 19, 20, 21, 22, 23, 24, 25, 26, 27, 28, 29, 30, 31, 32, 33, 34, 35, 36, 37, 38, 39, 40, 41, 42, 43, 44, 45, 46, 47, 48, 49, 50, 51, 52, 53, 54]) rfl (d := 16) (a.r.trees = b.r.trees /\ a.r.pages = b.r.pages) rfl ?_ ?_
 ·
  refine aE (d := 10) rfl (fun h1 => ?_) fun h1 => ?_
  ·
   refine z1 ?_;refine lD ai hw ?_;refine z1 ?_;refine lD ai hw ?_;refine z3 ?_;refine cQ ?_;exact dC
  refine z7 ?_;refine cQ ?_;exact dC
 refine z1 ?_;refine bY (l1 := [13, 14, 15, 16, 17, 18]) (l2 := [19, 20, 21, 22, 23, 24, 25, 26, 27, 28, 29, 30, 31, 32, 33, 34, 35, 36, 37, 38, 39, 40, 41, 42, 43, 44, 45, 46, 47, 48, 49, 50, 51, 52, 53, 54]) rfl (d := 23) (a.r.trees = b.r.trees /\ a.r.pages = b.r.pages /\ a.r.leaves = b.r.leaves) rfl ?_ ?_
 ·
  refine aE (d := 17) rfl (fun h2 => ?_) fun h2 => ?_
  ·
   refine z1 ?_;refine lD ai hw ?_;refine z1 ?_;refine lD ai hw ?_;refine z3 ?_;refine cQ ?_;exact dC
  refine z7 ?_;refine cQ ?_;exact dC
 refine z1 ?_;refine bY (l1 := [20, 21, 22, 23, 24, 25]) (l2 := [26, 27, 28, 29, 30, 31, 32, 33, 34, 35, 36, 37, 38, 39, 40, 41, 42, 43, 44, 45, 46, 47, 48, 49, 50, 51, 52, 53, 54]) rfl (d := 30) (a.r.trees = b.r.trees /\ a.r.pages = b.r.pages /\ a.r.leaves = b.r.leaves /\ a.r.index = b.r.index) rfl ?_ ?_
 ·
  refine aE (d := 24) rfl (fun h3 => ?_) fun h3 => ?_
  ·
   refine z1 ?_;refine lD ai hw ?_;refine z1 ?_;refine lD ai hw ?_;refine z3 ?_;refine cQ ?_;exact dC
  refine z7 ?_;refine cQ ?_;exact dC
 refine z1 ?_;refine bY (l1 := [27, 28, 29, 30, 31, 32]) (l2 := [33, 34, 35, 36, 37, 38, 39, 40, 41, 42, 43, 44, 45, 46, 47, 48, 49, 50, 51, 52, 53, 54]) rfl (d := 37) (a.r.trees = b.r.trees /\ a.r.pages = b.r.pages /\ a.r.leaves = b.r.leaves /\ a.r.index = b.r.index /\ a.r.tz = b.r.tz) rfl ?_ ?_
 ·
  refine aE (d := 31) rfl (fun h4 => ?_) fun h4 => ?_
  ·
   refine z1 ?_;refine lD ai hw ?_;refine z1 ?_;refine lD ai hw ?_;refine z3 ?_;refine cQ ?_;exact dC
  refine z7 ?_;refine cQ ?_;exact dC
 refine z1 ?_;refine bY (l1 := [34, 35, 36, 37, 38, 39]) (l2 := [40, 41, 42, 43, 44, 45, 46, 47, 48, 49, 50, 51, 52, 53, 54]) rfl (d := 44) (a.r.trees = b.r.trees /\ a.r.pages = b.r.pages /\ a.r.leaves = b.r.leaves /\ a.r.index = b.r.index /\ a.r.tz = b.r.tz /\ a.r.items = b.r.items) rfl ?_ ?_
 ·
  refine aE (d := 38) rfl (fun h5 => ?_) fun h5 => ?_
  ·
   refine z1 ?_;refine lD ai hw ?_;refine z1 ?_;refine lD ai hw ?_;refine z3 ?_;refine cQ ?_;exact dC
  refine z7 ?_;refine cQ ?_;exact dC
 refine z1 ?_;refine bY (l1 := [41, 42, 43, 44, 45, 46]) (l2 := [47, 48, 49, 50, 51, 52, 53, 54]) rfl (d := 51) (a.r.trees = b.r.trees /\ a.r.pages = b.r.pages /\ a.r.leaves = b.r.leaves /\ a.r.index = b.r.index /\ a.r.tz = b.r.tz /\ a.r.items = b.r.items /\ a.r.bytes = b.r.bytes) rfl ?_ ?_
 ·
  refine aE (d := 45) rfl (fun h6 => ?_) fun h6 => ?_
  ·
   refine z1 ?_;refine lD ai hw ?_;refine z1 ?_;refine lD ai hw ?_;refine z3 ?_;refine cQ ?_;exact dC
  refine z7 ?_;refine cQ ?_;exact dC
 refine z1 ?_;refine aE (d := 52) rfl (fun h7 => ?_) fun h7 => ?_
 ·
  refine z1 ?_;refine lD dU hw ?_;refine z1 ?_;refine lD dU hw ?_;refine an rfl B9 rfl (DF hw (CU.of sF) (Q8.of sF) oM oM) rfl fun w v57 hv => ?_;obtain ⟨rfl, hw⟩ := hv;refine z4 ?_;exact br rfl rfl rfl ⟨congrArg Value.bool (cZ.2 ((Wl a.r b.r).trans (and_iff_right h7)).symm), hw.tail.tail⟩
 refine z9 ?_;exact br rfl rfl rfl ⟨congrArg Value.bool (decide_eq_false (fun h => h7 ((Wl a.r b.r).1 h).1)).symm, hw.tail.tail⟩
theorem xW {a b : mY} (hw : ar G L w) (ha : a.Ok L) (hb : b.Ok L) : Calls prog 12 #[gQ a.cells, gQ b.cells] w (dv fun u w' => u = .bool (decide (a.r = b.r)) /\ ar G L w') := by
 refine al (args := [_, _]) func12 rfl ntmps12 rfl rfl ?_;refine z2 ?_;refine bE rfl rfl rfl hw rfl fun w b2 hw => ?_;refine bE rfl rfl rfl hw rfl fun w b3 hw => ?_;refine z4 ?_;refine lA ct hw ?_;refine lA ct hw ?_;refine an rfl zw rfl (AJ hw (ha.of sF) (hb.of sF)) rfl fun w v7 hv => ?_;obtain ⟨rfl, hw⟩ := hv;refine z3 ?_;exact br rfl rfl rfl ⟨rfl, hw.tail.tail⟩
end
section
variable {P : Program} {n : Nat} {ops : Array Oper} {dr : Bool} {done r : List Nat} {K : gj -> World -> Prop} {e : gj} {w : World} {i d : Nat} {t s T : TypeId} {p : String} {af : Array Edge} {g : Option (Nat × Bool)} {x y : Operand} {G : Gh} {L R : List az}
theorem Rn {b o cap m j : Nat} {v : Value} {xs xs' : List Value} (ho : ops[i]? = some ⟨none, .store s x y, t, p, af, g⟩) (hg : Gd ops e g) (hx : ev e x = some (.pointer (some ⟨b, o, none⟩))) (hy : ev e y = some v) (h1 : lE P s = true) (hv : v.oneCell' = true)
  (hw : ar G L w) (hp : dg (row T 1 (sQ b m cap) m xs) L R) (hj : j < m) (Q4 : o = j) (NC : xs.set j v = xs') (j6 : iI P ops dr done i = [])
  (h : ∀ w', ar G (row T 1 (sQ b m cap) m xs' :: R) w' -> XL P n ops dr (i :: done) r K e w') : XL P n ops dr done (i :: r) K e w := by
 subst Q4 NC;obtain ⟨hl, b', cur, hb, Bd, L4, Ud, oE⟩ := ij (hw.pick hp) oM;cases hb;have hlx : xs.length = m := oM;refine bS (l' := xs.set o v ++ cur) ho hg hx hy h1 hv oE .here ?_ ?_ j6 (fun w2 ND => h w2 ?_)
 ·rw [Nat.blt_eq, cj]; omega
 ·rw [List.set_append_left _ _ oM]
 exact np ND (by rw [qC]; exact hl) Bd L4 (by rw [<-Ud, cj, cj, qC])
end
theorem ui {z : Nat} : ∀ {rs : List (List Value)} {j : Nat} {cs cur : List Value}, (∀ r ∈ rs, r.length = z) -> cs.length = z -> j < rs.length -> (rs.flatten ++ cur).take (j * z) ++ cs ++ (rs.flatten ++ cur).drop (j * z + z) = (rs.set j cs).flatten ++ cur
 | [], j, cs, cur, _, _, hj => by simp at hj
 | r :: rs, 0, cs, cur, hz, hc, _ => by
  have hr := hz r (fp ..);simp only [C9, Nat.zero_mul, K6, jG, r8, UC];rw [je, <-hr, List.drop_left, je]
 | r :: rs, j + 1, cs, cur, hz, hc, hj => by
  have hr := hz r (fp ..);have ih := ui (rs := rs) (j := j) (cs := cs) (cur := cur) (fun r h => hz r (gF _ h)) hc (by simpa using hj);simp only [C9, PR, je] at ih ⊢;have e1 : (j + 1) * z = r.length + j * z := by rw [hr, yQ]; omega
  rw [e1, Nat.add_assoc, RY, vN oM, Nat.add_sub_cancel_left, PO, u0 oM, Nat.add_sub_cancel_left, jG, je, ih]
section
variable {P : Program} {n : Nat} {ops : Array Oper} {dr : Bool} {done r : List Nat} {K : gj -> World -> Prop} {e : gj} {w : World} {i d : Nat} {t s T : TypeId} {p : String} {af : Array Edge} {g : Option (Nat × Bool)} {x y : Operand} {G : Gh} {L R : List az}
theorem Rm {b o cap j z : Nat} {cs : List Value} {rs rs' : List (List Value)} (ho : ops[i]? = some ⟨none, .store s x y, t, p, af, g⟩) (hg : Gd ops e g) (hx : ev e x = some (.pointer (some ⟨b, o, none⟩))) (hy : ev e y = some (gQ cs)) (h1 : kV P s z = true) (hz : cs.length = z) (hv : jN cs)
  (hw : ar G L w) (hrz : ∀ r ∈ rs, r.length = z) (hp : dg (row T z (sQ b rs.length cap) rs.length rs.flatten) L R) (hj : j < rs.length) (Q4 : o = j * z) (GP : rs.set j cs = rs') (j6 : iI P ops dr done i = [])
  (h : ∀ w', ar G (row T z (sQ b rs.length cap) rs.length rs'.flatten :: R) w' -> XL P n ops dr (i :: done) r K e w') : XL P n ops dr done (i :: r) K e w := by
 subst Q4 GP;obtain ⟨hl, b', cur, hb, Bd, L4, Ud, oE⟩ := ij (hw.pick hp) oM;cases hb;have hjz : j * z + z <= rs.length * z := by
  have := UH z (show j + 1 <= rs.length from hj);rw [yQ, Nat.one_mul] at this; exact this
 have dm : ∀ r ∈ rs.set j cs, r.length = z := fun r hr => by
  rcases Sa hr with hr | hr
  ·exact hrz r hr
  rw [hr]; exact hz
 have ud : (rs.set j cs).flatten.length = rs.length * z := by rw [dk dm, qC]
 refine aL (l' := (rs.set j cs).flatten ++ cur) ho hg hx hy h1 hz hv oE .here ?_ (ui hrz hz hj) j6 (fun w2 ND => h w2 ?_)
 ·rw [cj, hl]; omega
 exact np ND ud Bd L4 (by rw [<-Ud, cj, cj, ud, hl])
end
section
variable {G : Gh} {L R : List az} {w : World}
theorem JX {fn : Fn} {v1 v2 : Array Value} (hw : ar G L w) : Calls prog 56 #[.func fn v1 v2] w (dv fun r w' => ∃ b1, r = .func (.func 104) #[] #[pQ b1] /\ ar G (ag b1 [.func fn v1 v2] 133 :: L) w') := by
 refine al (args := [_]) func56 rfl ntmps56 rfl rfl ?_;refine z2 ?_;refine bE rfl rfl rfl hw rfl fun w b1 hw => ?_;refine z4 ?_;refine mO (v1 := #[]) (v2 := #[pQ b1]) rfl (by intro z hz; simp at hz; subst hz; exact ⟨_, rfl⟩) sM (by simp only [oS, cG, j3]; rfl) ?_;refine z3 ?_;exact br rfl rfl rfl ⟨b1, rfl, hw⟩
theorem nW {a : Option Addr} {n c : Nat} (hw : ar G L w) : Calls prog 57 #[.slice a n c] w (dv fun r w' => ∃ b1, r = .func (.func 105) #[] #[pQ b1] /\ ar G (ag b1 [.slice a n c] 58 :: L) w') := by
 refine al (args := [_]) func57 rfl ntmps57 rfl rfl ?_;refine z2 ?_;refine bE rfl rfl rfl hw rfl fun w b1 hw => ?_;refine z4 ?_;refine mO (v1 := #[]) (v2 := #[pQ b1]) rfl (by intro z hz; simp at hz; subst hz; exact ⟨_, rfl⟩) sM (by simp only [oS, cG, j3]; rfl) ?_;refine z3 ?_;exact br rfl rfl rfl ⟨b1, rfl, hw⟩
end
def D2 (rs : List (Int × Int)) (n : Int) : Prop := ∃ x ∈ rs, x.1 <= n /\ n <= x.2
def nX : Int -> List (Int × Int) -> Prop
 | _, [] => True
 | b, x :: r => b <= x.1 /\ x.1 <= x.2 /\ nX (x.2 + 2) r
theorem nX.mono {b b' : Int} (h : b' <= b) : ∀ {rs : List (Int × Int)}, nX b rs -> nX b' rs
 | [], _ => trivial
 | x :: r, hr => ⟨by have := hr.1; omega, hr.2.1, hr.2.2⟩
theorem nX.ge : ∀ {b : Int} {rs : List (Int × Int)}, nX b rs -> ∀ {n : Int}, D2 rs n -> b <= n
 | _, [], _, _, ⟨_, hx, _⟩ => by cases hx
 | b, x :: r, h, n, ⟨y, hy, h1, h2⟩ => by
  rcases bB.1 hy with rfl | hy
  ·have := h.1; omega
  have := nX.ge h.2.2 ⟨y, hy, h1, h2⟩;have := h.1; have := h.2.1; omega
theorem nX.mem : ∀ {b : Int} {rs : List (Int × Int)}, nX b rs -> ∀ {x : Int × Int}, x ∈ rs -> b <= x.1 /\ x.1 <= x.2
 | _, [], _, _, hx => by cases hx
 | b, y :: r, h, x, hx => by
  rcases bB.1 hx with rfl | hx
  ·exact ⟨h.1, h.2.1⟩
  have := nX.mem h.2.2 hx;have := h.1; have := h.2.1; omega
theorem nX.len : ∀ {b m : Int} {rs : List (Int × Int)}, nX b rs -> (∀ n, D2 rs n -> n <= m) -> b <= m + 2 -> 2 * (rs.length : Int) <= m + 2 - b
 | b, m, [], _, _, hb => by simp; omega
 | b, m, x :: r, h, hm, hb => by
  have h1 : x.2 <= m := hm x.2 ⟨x, fp .., h.2.1, lV _⟩;have := nX.len (m := m) h.2.2 (fun n ⟨y, hy, h1, h2⟩ => hm n ⟨y, gF _ hy, h1, h2⟩) oM;have := h.1; have := h.2.1;simp only [jO]; omega
theorem oV {x : Int × Int} {r : List (Int × Int)} {n : Int} : D2 (x :: r) n ↔ (x.1 <= n /\ n <= x.2) \/ D2 r n := by
 unfold D2; simp only [bB, exists_eq_or_imp]
theorem Ap {n : Int} : ¬ D2 [] n := fun ⟨_, h, _⟩ => by cases h
def E' (a b : Int) : List (Int × Int) -> List (Int × Int)
 | [] => [(a, b)]
 | x :: r => if x.2 < a /\ x.2 + 1 < a then x :: E' a b r else if b < x.1 /\ b < x.1 - 1 then (a, b) :: x :: r else E' (min a x.1) (max b x.2) r
theorem MH : ∀ (rs : List (Int × Int)) (B A : List (Int × Int)) (a b c : Int), a <= b -> nX c rs -> b + 1 < c -> rs.foldl gu ⟨B, A, (a, b)⟩ = ⟨B, A ++ rs, (a, b)⟩
 | [], B, A, a, b, c, _, _, _ => by simp
 | x :: r, B, A, a, b, c, CU, h, hb => by
  have h1 := h.1; have h2 := h.2.1;rw [PL];have e : gu ⟨B, A, (a, b)⟩ x = ⟨B, A ++ [x], (a, b)⟩ := by
   unfold gu; simp only;rw [ae oM, ah oM]
  rw [e, MH r B (A ++ [x]) a b _ CU h.2.2 oM];simp
theorem N8 : ∀ (rs : List (Int × Int)) (B : List (Int × Int)) (a b c : Int), a <= b -> nX c rs -> (rs.foldl gu ⟨B, [], (a, b)⟩).below ++ [(rs.foldl gu ⟨B, [], (a, b)⟩).r] ++ (rs.foldl gu ⟨B, [], (a, b)⟩).dp = B ++ E' a b rs
 | [], B, a, b, c, _, _ => by simp [E']
 | x :: r, B, a, b, c, CU, h => by
  rw [PL, E']
  by_cases h1 : x.2 < a /\ x.2 + 1 < a
  ·have e : gu ⟨B, [], (a, b)⟩ x = ⟨B ++ [x], [], (a, b)⟩ := by unfold gu; simp only; rw [ah h1]
   rw [e, ah h1, N8 r (B ++ [x]) a b _ CU h.2.2]; simp
  rw [ae h1]
  by_cases h2 : b < x.1 /\ b < x.1 - 1
  ·have e : gu ⟨B, [], (a, b)⟩ x = ⟨B, [x], (a, b)⟩ := by unfold gu; simp only; rw [ae h1, ah h2]; rfl
   rw [e, ah h2, MH r B [x] a b _ CU h.2.2 (by have := h.2.1; omega)]; simp
  have e : gu ⟨B, [], (a, b)⟩ x = ⟨B, [], (min a x.1, max b x.2)⟩ := by unfold gu; simp only; rw [ae h1, ae h2]
  rw [e, ae h2, N8 r B _ _ _ oM h.2.2]
theorem GB {rs : List (Int × Int)} {a b c : Int} (CU : a <= b) (h : nX c rs) : x8 rs a b = E' a b rs := by
 unfold x8 w7; rw [N8 rs [] a b c CU h]; simp
theorem DZ : ∀ (rs : List (Int × Int)) (a b c : Int), a <= b -> nX c rs -> c <= a -> nX c (E' a b rs)
 | [], a, b, c, CU, _, hc => ⟨hc, CU, trivial⟩
 | x :: r, a, b, c, CU, h, hc => by
  have h1 := h.1; have h2 := h.2.1;rw [E'];split
  ·exact ⟨h1, h2, DZ r a b _ CU h.2.2 oM⟩
  split
  ·exact ⟨hc, CU, by simp only; omega, h2, h.2.2⟩
  exact DZ r _ _ _ oM (h.2.2.mono oM) oM
theorem D0 : ∀ (rs : List (Int × Int)) (a b c : Int), a <= b -> nX c rs -> ∀ n, D2 (E' a b rs) n ↔ (a <= n /\ n <= b) \/ D2 rs n
 | [], a, b, c, CU, _, n => by rw [E', oV]
 | x :: r, a, b, c, CU, h, n => by
  have h1 := h.1; have h2 := h.2.1;rw [E'];split
  ·rw [oV, oV, D0 r a b _ CU h.2.2 n]
   constructor
   ·rintro (h | h | h)
    ·exact .inr (.inl h)
    ·exact .inl h
    exact .inr (.inr h)
   rintro (h | h | h)
   ·exact .inr (.inl h)
   ·exact .inl h
   exact .inr (.inr h)
  split
  ·rw [oV]
  rw [D0 r _ _ _ oM h.2.2 n, oV]
  constructor
  ·rintro (h | h)
   ·by_cases hx : x.1 <= n /\ n <= x.2
    ·exact .inr (.inl hx)
    exact .inl oM
   exact .inr (.inr h)
  rintro (h | h | h)
  ·exact .inl oM
  ·exact .inl oM
  exact .inr h
theorem OD : ∀ (rs : List (Int × Int)) (k c : Int), nX c rs -> nX c (vJ rs k k)
 | [], _, _, _ => trivial
 | x :: r, k, c, h => by
  have h1 := h.1; have h2 := h.2.1;have ih := OD r k _ h.2.2;unfold vJ at ih ⊢;rw [ku];unfold vK
  repeat' split
  all_goals simp only [jG, UI, j4]
  ·exact ⟨h1, h2, ih⟩
  ·exact ⟨h1, by simp only; omega, by simp only; omega, by simp only; omega, ih⟩
  ·exact ⟨h1, by simp only; omega, ih.mono (by simp only; omega)⟩
  ·exact ⟨by simp only; omega, by simp only; omega, ih⟩
  exact ih.mono oM
theorem OE : ∀ (rs : List (Int × Int)) (k c : Int), nX c rs -> ∀ n, D2 (vJ rs k k) n ↔ D2 rs n /\ n ≠ k
 | [], _, _, _, n => ⟨fun h => absurd h Ap, fun h => absurd h.1 Ap⟩
 | x :: r, k, c, h, n => by
  have h2 := h.2.1;have ih := OE r k _ h.2.2 n;unfold vJ at ih ⊢;rw [ku, oV];have aa5 : ∀ (A B : List (Int × Int)), D2 (A ++ B) n ↔ D2 A n \/ D2 B n := fun A B => by
   unfold D2
   constructor
   ·rintro ⟨y, hy, h⟩;rcases eu.1 hy with hy | hy
    ·exact .inl ⟨y, hy, h⟩
    exact .inr ⟨y, hy, h⟩
   rintro (⟨y, hy, h⟩ | ⟨y, hy, h⟩)
   ·exact ⟨y, oT _ hy, h⟩
   exact ⟨y, qV _ hy, h⟩
  rw [aa5, ih];have h1 : D2 (vK k k x) n ↔ (x.1 <= n /\ n <= x.2) /\ n ≠ k := by
   unfold vK
   repeat' split
   all_goals simp only [aa5, oV, jG, UI, j4]
   all_goals (try simp only [Ap, or_false])
   all_goals (first | omega | exact ⟨fun h => h.elim, fun h => by omega⟩)
  rw [h1]
  constructor
  ·rintro (h | h)
   ·exact ⟨.inl h.1, h.2⟩
   exact ⟨.inr h.1, h.2⟩
  rintro ⟨h | h, h'⟩
  ·exact .inl ⟨h, h'⟩
  exact .inr ⟨h, h'⟩
theorem SG {x : Int × Int} {r : List (Int × Int)} {c : Int} (h : nX c (x :: r)) : D2 (x :: r) x.1 /\ ∀ n, D2 (x :: r) n -> x.1 <= n :=
 ⟨⟨x, fp .., lV _, h.2.1⟩, fun n hn => by
  rcases oV.1 hn with h' | h'
  ·exact h'.1
  ·have := nX.ge h.2.2 h';have := h.2.1; omega⟩
def I9 (x : Int) (b : Bool) : Int := if 0 < x then (if b = true then 4 else 3) else if b = true then 2 else 1
theorem HZ (x : Int) (b : Bool) : 1 <= I9 x b /\ I9 x b <= 4 := by unfold I9; cases b <;> by_cases h : 0 < x <;> simp [h]
def ri (k : Int) : List Int -> List Bool -> Int
 | x :: c, b :: l => (if I9 x b = k then 1 else 0) + ri k c l
 | _, _ => 0
theorem uv (k : Int) : ∀ (c : List Int) (l : List Bool), 0 <= ri k c l /\ ri k c l <= c.length
 | [], _ => by simp [ri]
 | x :: c, [] => by simp [ri]; omega
 | x :: c, b :: l => by
  have := uv k c l;simp only [ri, jO];split <;> omega
theorem Ml (k y : Int) : ∀ (c : List Int) (l : List Bool) (i : Nat), i < c.length -> l.length = c.length -> ri k (c.set i y) l = ri k c l - (if I9 (c.getD i 0) (l.getD i false) = k then 1 else 0) + (if I9 y (l.getD i false) = k then 1 else 0)
 | [], _, i, hi, _ => by simp at hi
 | x :: c, [], i, _, hl => by simp at hl
 | x :: c, b :: l, 0, _, _ => by simp only [UC, ri, R6]; omega
 | x :: c, b :: l, i + 1, hi, hl => by
  simp only [PR, ri, List.getD_cons_succ];rw [Ml k y c l i (by simpa using hi) (by simpa using hl)]; omega
theorem Gb (k : Int) : ∀ c : List Int, ri k c (c.map fun x => decide (0 < x)) = lU c k
 | [] => by simp [ri, lU]
 | x :: c => by
  have ih := Gb k c;have e : I9 x (decide (0 < x)) = Ou x := by unfold I9 Ou; by_cases h : 0 < x <;> simp [h]
  simp only [cG, ri, ih, e, lU, Ji]
  by_cases h : Ou x = k <;> simp [h] <;> omega
theorem zW {c : List Int} {l : List Bool} {n : Int} (h : bg c n) : rZ c l n = I9 (c.getD (n - 1).toNat 0) (l.getD (n - 1).toNat false) := by unfold rZ I9; rw [ah h]
structure Po where
 refs : Int
 c : List Int
 l : List Bool
 pa : List (Int × Int)
 pf : Int
def dI (c : List Int) (n b : Int) : List Int := c.set (n - 1).toNat (c.getD (n - 1).toNat 0 + b)
def lP (c : List Int) (pa : List (Int × Int)) : List Int := pa.foldr (fun a c => dI c a.1 (-a.2)) c
def Po.act (P : Po) (n b : Int) : Po := { P with c := dI P.c n b, pa := P.pa ++ [(n, b)] }
def Po.st (P : Po) (n : Int) : Int := rZ P.c P.l n
def Po.bw (P : Po) (n : Int) : Int := iF P.c n
def U9 (c : List Int) (l : List Bool) : Option Int := ((List.range c.length).find? fun (i : Nat) => rZ c l ((i : Int) + 1) == 1).map fun (i : Nat) => (i : Int) + 1
def Po.low (P : Po) : Option Int := U9 P.c P.l
def Po.GX (P : Po) (k : Nat) : Po := { P with c := lP P.c (P.pa.drop k), pa := P.pa.take k }
structure Po.Ok (P : Po) : Prop where
 len : P.c.length <= 65536
 last : P.l.length = P.c.length
 refs : 2 <= P.refs /\ P.refs < 65536
 Y' : ∀ a ∈ P.pa, bg P.c a.1 /\ (a.2 = 1 \/ a.2 = -1)
 NN : ∀ k, k <= P.pa.length -> ∀ x ∈ lP P.c (P.pa.drop k), 0 <= x /\ x <= P.refs
theorem iO (c : List Int) (n b : Int) : (dI c n b).length = c.length := by simp [dI]
theorem nh : ∀ (pa : List (Int × Int)) (c : List Int), (lP c pa).length = c.length
 | [], _ => rfl
 | a :: pa, c => by
  have := nh pa c;unfold lP at this ⊢;rw [List.foldr_cons, iO]; exact this
theorem gR {c : List Int} {n b m : Int} : bg (dI c n b) m ↔ bg c m := by unfold bg; rw [iO]
theorem ql {c : List Int} {n b : Int} {i : Nat} (h : bg c n) : (dI c n b).getD i 0 = if i = (n - 1).toNat then c.getD i 0 + b else c.getD i 0 := by
 unfold dI;simp only [qW, List.getElem?_set]
 by_cases e : i = (n - 1).toNat
 ·subst e;have iD : (n - 1).toNat < c.length := by unfold bg at h; omega
  rw [ah rfl, ah rfl, ah iD]; rfl
 rw [ae e, ae (fun h => e h.symm)]
theorem Em {c : List Int} {n b : Int} (h : bg c n) : dI (dI c n b) n (-b) = c := by
 refine List.ext_getElem (by rw [iO, iO]) fun i h1 h2 => ?_
 have e : ∀ (d : List Int) (hd : i < d.length), d[i] = d.getD i 0 := fun d hd => by simp [hd]
 rw [e _ h1, e _ h2, ql (gR.2 h), ql h];split <;> omega
theorem El (c : List Int) (pa : List (Int × Int)) (a : Int × Int) : lP c (pa ++ [a]) = lP (dI c a.1 (-a.2)) pa := by unfold lP; rw [List.foldr_append]; rfl
theorem Po.Ok.now {P : Po} (h : P.Ok) : ∀ x ∈ P.c, 0 <= x /\ x <= P.refs := by
 have := h.NN P.pa.length (eW _);rw [PN] at this;exact this
theorem Po.Ok.bw {P : Po} (h : P.Ok) (n : Int) : 0 <= P.bw n /\ P.bw n <= P.refs := by
 have hr := h.refs;unfold Po.bw iF;split
 ·rename_i hn;have iD : (n - 1).toNat < P.c.length := by unfold bg at hn; omega
  have : P.c.getD (n - 1).toNat 0 ∈ P.c := by
   rw [qW, cV iD]; exact PM iD
  exact h.now _ this
 omega
theorem Po.Ok.act {P : Po} (h : P.Ok) {n b : Int} (hn : bg P.c n) (hb : b = 1 \/ b = -1) (hc : 0 <= P.bw n + b /\ P.bw n + b <= P.refs) : (P.act n b).Ok := by
 refine ⟨by simp only [Po.act, iO]; exact h.len, by simp only [Po.act, iO]; exact h.last, h.refs, fun a ha => ?_, fun k hk x hx => ?_⟩
 ·simp only [Po.act] at ha ⊢;rcases eu.1 ha with ha | ha
  ·exact ⟨gR.2 (h.Y' a ha).1, (h.Y' a ha).2⟩
  simp at ha; subst ha; exact ⟨gR.2 hn, hb⟩
 simp only [Po.act, cj, jt] at hk hx ⊢
 by_cases wg : k = P.pa.length + 1
 ·subst wg;rw [u0 sM] at hx;simp only [lP, List.foldr_nil] at hx
  unfold dI at hx;rcases Sa hx with hx | hx
  ·exact h.now x hx
  rw [hx];have : P.bw n = P.c.getD (n - 1).toNat 0 := by unfold Po.bw iF; rw [ah hn]
  omega
 rw [List.drop_append_of_le_length oM, El] at hx;simp only at hx
 rw [Em hn] at hx;exact h.NN k oM x hx
theorem Ak {c : List Int} {l : List Bool} : (∃ n, U9 c l = some n /\ bg c n /\ rZ c l n = 1 /\ ∀ m, rZ c l m = 1 -> n <= m) \/ (U9 c l = none /\ ∀ m, rZ c l m ≠ 1) := by
 unfold U9;cases h : (List.range c.length).find? fun (i : Nat) => rZ c l ((i : Int) + 1) == 1 with
 | none =>
  refine .inr ⟨rfl, fun m hm => ?_⟩;have Ql : bg c m := by
   unfold rZ at hm; split at hm
   ·assumption
   cases hm
  have := UD.1 h (m - 1).toNat (sL.2 (by unfold bg at Ql; omega));rw [show (((m - 1).toNat : Nat) : Int) + 1 = m by unfold bg at Ql; omega] at this;simp [hm] at this
 | some i =>
  have h1 := List.find?_some h;simp only [beq_iff_eq] at h1;have h2 := sL.1 (UL h);refine .inl ⟨(i : Int) + 1, rfl, by unfold bg; omega, h1, fun m hm => ?_⟩;have Ql : bg c m := by
   unfold rZ at hm; split at hm
   ·assumption
   cases hm
  unfold bg at Ql;refine sN fun iD => ?_
  obtain ⟨h3, la, lb, h4, h5⟩ := List.find?_eq_some_iff_append.1 h;have Hd : (m - 1).toNat ∈ la := by
   have Dk : (m - 1).toNat ∈ List.range c.length := sL.2 oM;rw [h4] at Dk;rcases eu.1 Dk with h | h
   ·exact h
   exfalso;have hs : (la ++ i :: lb).Pairwise (· < ·) := by rw [<-h4]; exact List.pairwise_lt_range
   have vw := (List.pairwise_append.1 hs).2.1;rcases bB.1 h with h | h
   ·omega
   have := (Jl.1 vw).1 _ h; omega
  have := h5 _ Hd;rw [show (((m - 1).toNat : Nat) : Int) + 1 = m by omega] at this;simp [hm] at this
theorem zV {c : List Int} {l : List Bool} {n b : Int} (h : bg c n) {m : Int} (hm : m ≠ n) : rZ (dI c n b) l m = rZ c l m := by
 unfold rZ
 by_cases h1 : bg c m
 ·have ly : ¬ (m - 1).toNat = (n - 1).toNat := by unfold bg at h h1; omega
  have e := ql (b := b) (i := (m - 1).toNat) h;rw [ae ly] at e;rw [ah h1, ah (gR.2 h1), e]
 rw [ae h1, ae (fun h => h1 (gR.1 h))]
def rz {α : Type} (f : Int -> Option α) (n : Int) (x : Option α) : Int -> Option α := fun m => if m = n then x else f m
theorem RF {α : Type} (f : Int -> Option α) (n : Int) : rz f n (f n) = f := by funext m; unfold rz; split <;> simp_all
theorem Uw {α : Type} (f : Int -> Option α) (n : Int) (x y : Option α) : rz (rz f n x) n y = rz f n y := by funext m; unfold rz; split <;> simp_all
def yL {α : Type} (f : Int -> Option α) (was : List (Int × Option α)) : Int -> Option α := was.foldr (fun a f => rz f a.1 a.2) f
theorem KH {α : Type} (f : Int -> Option α) (was : List (Int × Option α)) (a : Int × Option α) : yL f (was ++ [a]) = yL (rz f a.1 a.2) was := by unfold yL; rw [List.foldr_append]; rfl
structure Va where
 po : Po
 on : Int -> Option Pg
 va : List (Int × List (Int × Option Pg))
 vf : Int
def Va.bw (V : Va) (n : Int) : Int := V.po.bw n
def Va.st (V : Va) (n : Int) : Int := V.po.st n
def Va.pg (V : Va) (n : Int) : Pg := (V.on n).getD bI.pg
structure Vw where
 v : Va
 was : List (Int × Option Pg)
def Vw.note (x : Vw) (n : Int) : Vw := { x with was := x.was ++ [(n, x.v.on n)] }
def Vw.put (x : Vw) (n : Int) (p : Option Pg) : Vw := ⟨{ x.v with on := rz x.v.on n p }, x.was ++ [(n, x.v.on n)]⟩
def Vw.act (x : Vw) (n b : Int) : Vw := { x with v := { x.v with po := x.v.po.act n b } }
def Vw.free (x : Vw) (n : Int) : Vw := if x.v.st n = 1 then x.put n none else x
structure lx (V0 : Va) (x : Vw) : Prop where
 va : x.v.va = V0.va
 vf : x.v.vf = V0.vf
 on : yL x.v.on x.was = V0.on
 pf : x.v.po.pf = V0.po.pf
 l : x.v.po.l = V0.po.l
 refs : x.v.po.refs = V0.po.refs
 pa : ∃ more, x.v.po.pa = V0.po.pa ++ more /\ lP x.v.po.c more = V0.po.c
theorem lx.refl (V : Va) : lx V ⟨V, []⟩ := ⟨rfl, rfl, rfl, rfl, rfl, rfl, [], by simp, rfl⟩
theorem lx.put {V : Va} {x : Vw} (h : lx V x) (n : Int) (p : Option Pg) : lx V (x.put n p) :=
 ⟨h.va, h.vf, by
  show yL (rz x.v.on n p) (x.was ++ [(n, x.v.on n)]) = V.on
  rw [KH, Uw, RF]; exact h.on, h.pf, h.l, h.refs, h.pa⟩
theorem lx.act {V : Va} {x : Vw} (h : lx V x) {n b : Int} (hn : bg x.v.po.c n) : lx V (x.act n b) := by
 obtain ⟨more, h1, h2⟩ := h.pa;refine ⟨h.va, h.vf, h.on, h.pf, h.l, h.refs, more ++ [(n, b)], ?_, ?_⟩
 ·show x.v.po.pa ++ [(n, b)] = _
  rw [h1, je]
 show lP (dI x.v.po.c n b) (more ++ [(n, b)]) = _
 rw [El, Em hn, h2]
def Va.back (V : Va) (mark : Int) (was : List (Int × Option Pg)) : Va := { V with po := V.po.GX (mark - V.po.pf).toNat, on := yL V.on was }
def Po.mark (P : Po) : Int := P.pf + P.pa.length
theorem lx.back {V : Va} {x : Vw} (h : lx V x) : x.v.back V.po.mark x.was = V := by
 obtain ⟨more, h1, h2⟩ := h.pa;have hm : (V.po.mark - x.v.po.pf).toNat = V.po.pa.length := by unfold Po.mark; rw [h.pf]; omega
 unfold Va.back Po.GX;rw [hm];have e1 : x.v.po.pa.drop V.po.pa.length = more := by rw [h1]; simp
 have e2 : x.v.po.pa.take V.po.pa.length = V.po.pa := by rw [h1]; simp
 rw [e1, e2, h2, h.on];have e3 := h.pf; have e4 := h.l; have e5 := h.refs; have e6 := h.va; have e7 := h.vf;rcases x with ⟨⟨⟨r, c, l, pa, pf⟩, on, va, vf⟩, was⟩;rcases V with ⟨⟨r', c', l', pa', pf'⟩, zE, va', vf'⟩;simp only at e3 e4 e5 e6 e7 ⊢;subst e3 e4 e5 e6 e7;rfl
theorem FA : ∀ (n : Nat) (c : List Int), c.length = n -> nX 1 (gV c) /\ ∀ k, D2 (gV c) k ↔ bg c k /\ c.getD (k - 1).toNat 0 = 0 := by
 intro n
 induction n with
 | zero =>
  intro c hc;have : c = [] := yS hc;subst this;exact ⟨trivial, fun k => ⟨fun h => absurd h Ap, fun h => by unfold bg at h; simp at h; omega⟩⟩
 | succ n ih =>
  intro c hc;rcases c.eq_nil_or_concat with rfl | ⟨c', x, rfl⟩
  ·simp at hc
  simp only [List.concat_eq_append] at hc ⊢;have hl : c'.length = n := by simpa using hc
  obtain ⟨h1, h2⟩ := ih c' hl;have hg : ∀ k, bg (c' ++ [x]) k /\ (c' ++ [x]).getD (k - 1).toNat 0 = 0 ↔ (bg c' k /\ c'.getD (k - 1).toNat 0 = 0) \/ (k = n + 1 /\ x = 0) := fun k => by
   unfold bg;rw [cj, jt, hl]
   by_cases hk : (k - 1).toNat < n
   ·have e : (c' ++ [x]).getD (k - 1).toNat 0 = c'.getD (k - 1).toNat 0 := by simp only [qW]; rw [List.getElem?_append_left oM]
    rw [e]
    constructor
    ·rintro ⟨h3, h4⟩; exact .inl ⟨oM, h4⟩
    rintro (⟨h3, h4⟩ | ⟨h3, h4⟩)
    ·exact ⟨oM, h4⟩
    omega
   by_cases iX : (k - 1).toNat = n
   ·have e : (c' ++ [x]).getD (k - 1).toNat 0 = x := by rw [iX, <-hl]; simp
    rw [e]
    constructor
    ·rintro ⟨h3, h4⟩; exact .inr ⟨oM, h4⟩
    rintro (⟨h3, h4⟩ | ⟨h3, h4⟩)
    ·omega
    exact ⟨oM, h4⟩
   constructor
   ·rintro ⟨h3, h4⟩; omega
   rintro (⟨h3, h4⟩ | ⟨h3, h4⟩) <;> omega
  rw [zg];split
  ·rename_i hx;rw [hl, GB (lV _) h1];refine ⟨DZ _ _ _ _ (lV _) h1 oM, fun k => ?_⟩;rw [D0 _ _ _ _ (lV _) h1, h2, hg]
   constructor
   ·rintro (h | h)
    ·exact .inr ⟨oM, hx⟩
    exact .inl h
   rintro (h | h)
   ·exact .inr h
   exact .inl oM
  rename_i hx;refine ⟨h1, fun k => ?_⟩;rw [h2, hg]
  constructor
  ·exact .inl
  rintro (h | h)
  ·exact h
  exact absurd h.2 hx
theorem ik {P : Program} {f : FuncId} {a : Array Value} {w : World} {Q Q' : Value -> World -> Prop} (h : Calls P f a w (dv Q)) (hq : ∀ v w', Q v w' -> Q' v w') : Calls P f a w (dv Q') :=
 h.mono fun e w' ⟨v, he, hR⟩ => ⟨v, he, hq v w' hR⟩
abbrev HR := (Nat × Nat × Nat) × (Int × Int)
def vO (a : HR) : Value := .func (.func 164) #[] #[.pointer (some ⟨a.1.1, 0, none⟩), .pointer (some ⟨a.1.2.1, 0, none⟩), .pointer (some ⟨a.1.2.2, 0, none⟩)]
def lC (q : Nat) (a : HR) : List az := [ag a.1.1 [pQ q] 34, ag a.1.2.1 [iQ a.2.1] 3, ag a.1.2.2 [iQ a.2.2] 3]
structure TN where
 cv : Value
 lv : Value
 fq : Nat
 fv : Value
 av : Value
 rs : List (Int × Int)
 fu : List HR
def HW (c : List Int) (l : List Bool) (k : Int) : Int := if k = 0 then 0 else ri k c l
abbrev H9 (P : Po) (m : TN) (T : Int -> Int) : GV := ⟨P.refs, P.c, m.cv, P.l, m.lv, some ⟨m.fq, 0, none⟩, T 0, T 1, T 2, T 3, T 4, m.av, P.pa.length, P.pf⟩
abbrev Ia (q : Nat) (fu : List HR) : az := aT (fu.flatMap (lC q))
abbrev XA (q : Nat) (n : Nat) (m : TN) (L : List az) : List az := M7 m.fq m.fv m.rs (row 227 1 m.av n (m.fu.map vO) :: Ia q m.fu :: L)
abbrev QZ (q : Nat) (P : Po) (m : TN) (L : List az) : List az := xJ q (H9 P m (HW P.c P.l)) (XA q P.pa.length m L)
structure TO (P : Po) (m : TN) : Prop where
 fu : m.fu.map (·.2) = P.pa
 rs : nX 1 m.rs
 fr : ∀ n, D2 m.rs n ↔ rZ P.c P.l n = 1
def gZ (q : Nat) (P : Po) : az := ex fun m : TN => dH (TO P m) (aT (QZ q P m []))
theorem jH {q : Nat} {P : Po} {G : Gh} {L : List az} {w : World} (h : ar G (gZ q P :: L) w) : ∃ m, TO P m /\ ar G (QZ q P m L) w := by
 obtain ⟨m, h⟩ := h.iv;obtain ⟨hf, h⟩ := h.dx;exact ⟨m, hf, h.cD⟩
theorem fT {q : Nat} {P : Po} {m : TN} {G : Gh} {L : List az} {w : World} (hf : TO P m) (h : ar G (QZ q P m L) w) : ar G (gZ q P :: L) w :=
 ar.jq m (ar.iR hf (ar.bH (M := QZ q P m []) h))
theorem TO.rsn {P : Po} {m : TN} (h : TO P m) (hl : P.c.length <= 65536) : m.rs.length <= 65536 /\ ∀ x ∈ m.rs, mf x := by
 have Ua : ∀ n, D2 m.rs n -> n <= 65536 := fun n hn => by
  have := (h.fr n).1 hn;unfold rZ at this;split at this
  ·rename_i hh; unfold bg at hh; omega
  cases this
 refine ⟨by have := nX.len h.rs Ua oM; omega, fun x hx => ?_⟩;have h1 := nX.mem h.rs hx;have h2 := Ua x.2 ⟨x, hx, h1.2, lV _⟩;unfold mf; omega
theorem RI {c : List Int} {l : List Bool} {n b : Int} (hn : bg c n) (oW : l.length = c.length) {k : Int} (hk : 1 <= k /\ k <= 4) :
  HW (dI c n b) l k = (if k = rZ c l n then HW c l k - 1 else HW c l k) + (if k = rZ (dI c n b) l n then 1 else 0) := by
 have hi : (n - 1).toNat < c.length := by unfold bg at hn; omega
 have h0 : ¬ k = 0 := oM;unfold HW;rw [ae h0, ae h0, zW hn, zW (gR.2 hn), ql hn, ah rfl];unfold dI;rw [Ml k _ c l _ hi oW];simp only [eq_comm (a := k)];split <;> split <;> omega
theorem Px {c : List Int} {l : List Bool} (hl : c.length <= 65536) (k : Int) : 0 <= HW c l k /\ HW c l k <= 65536 := by
 unfold HW;split
 ·omega
 have := uv k c l; omega
section
variable {G : Gh} {L R : List az} {w : World}
theorem rL {q : Nat} {P : Po} {m : TN} {n b : Int} (hw : ar G (QZ q P m L) w) (hf : TO P m) (hl : P.c.length <= 65536) (oW : P.l.length = P.c.length) (hn : bg P.c n) (hb : b = 1 \/ b = -1) (hc : -1000000 <= P.c.getD (n - 1).toNat 0 /\ P.c.getD (n - 1).toNat 0 <= 1000000) :
  Calls prog 163 #[pQ q, iQ n, iQ b] w (dv fun r w' => r = .tuple #[] /\ ∃ m', TO { P with c := dI P.c n b } m' /\ m'.fu = m.fu /\ m'.av = m.av /\ ar G (QZ q { P with c := dI P.c n b } m' L) w') := by
 have GP := hf.rsn hl;have GN := fun k => Px (l := P.l) hl k
 have XW := fun k => RI (b := b) (k := k) hn oW
 obtain ⟨fu, rs, fr⟩ := hf;rcases m with ⟨cv, lv, fq, fv, av, rr, GU⟩;rcases P with ⟨refs, c, l, pa, pf⟩;simp only at *;have Q5 := hn.1;have hn2 := hn.2;obtain ⟨ca, cc, rfl⟩ := aM (hw.pick (A := row 3 1 cv c.length (bG c)) (.there .here));obtain ⟨-, cb, _, rfl, -⟩ := ij (hw.pick (A := row 3 1 (.slice ca c.length cc) c.length (bG c)) (.there .here)) oM;obtain ⟨sb, T5⟩ : ∃ sb, sb = rZ c l n := ⟨_, rfl⟩;obtain ⟨sn, T3⟩ : ∃ sn, sn = rZ (dI c n b) l n := ⟨_, rfl⟩;have Yb : sb = 1 \/ sb = 2 \/ sb = 3 \/ sb = 4 := by rw [T5, zW hn]; have := HZ (c.getD (n - 1).toNat 0) (l.getD (n - 1).toNat false); omega
 have X3 : sn = 1 \/ sn = 2 \/ sn = 3 \/ sn = 4 := by rw [T3, zW (gR.2 hn)]; have := HZ ((dI c n b).getD (n - 1).toNat 0) (l.getD (n - 1).toNat false); omega
 rw [<-T5, <-T3] at XW;have IB := iO c n b;obtain ⟨T, hT⟩ : ∃ T, T = HW c l := ⟨_, rfl⟩;rw [<-hT] at GN XW
 replace hw : ar G (xJ q (H9 ⟨refs, c, l, pa, pf⟩ ⟨sQ cb c.length cc, lv, fq, fv, av, rr, GU⟩ T) (XA q pa.length ⟨sQ cb c.length cc, lv, fq, fv, av, rr, GU⟩ L)) w := by rw [hT]; exact hw
 refine al (args := [_, _, _]) func163 rfl ntmps163 rfl rfl ?_;refine z4 ?_;refine an rfl fI rfl (j8 (q := q) (p := H9 ⟨refs, c, l, pa, pf⟩ ⟨sQ cb c.length cc, lv, fq, fv, av, rr, GU⟩ T) hw hl oW) rfl fun w v10 hv => ?_;obtain ⟨SR, hw⟩ := hv;have SR : v10 = iQ sb := by rw [T5]; exact SR
 subst SR;replace hw : ar G (ag q (H9 ⟨refs, c, l, pa, pf⟩ ⟨sQ cb c.length cc, lv, fq, fv, av, rr, GU⟩ T).cells 86 :: row 3 1 (sQ cb c.length cc) c.length (bG c) :: row 4 1 lv l.length (zG l) :: XA q pa.length ⟨sQ cb c.length cc, lv, fq, fv, av, rr, GU⟩ L) w := hw;refine z7 ?_;refine lD dU hw ?_;refine z2 ?_;refine fk rfl bP cT rfl rfl ⟨oM, oM⟩ ?_;refine bt rfl rfl (aj.one ai ((Bu (c := c).at hw.tail).at (JF oM))) ?_;refine z2 ?_;refine fk rfl bP cT rfl rfl ⟨oM, oM⟩ ?_;refine Rn (xs' := bG (dI c n b)) (m := c.length) (j := (n - 1).toNat) rfl tV rfl rfl ai rfl hw pK oM (r8 _) (by simp [bG, dI, tS]) rfl fun w hw => ?_;have hz := hw.b [ag q _ _, row 3 1 _ _ _, row 4 _ _ _ _];clear hw;have hw : ar G (xJ q (H9 ⟨refs, dI c n b, l, pa, pf⟩ ⟨sQ cb c.length cc, lv, fq, fv, av, rr, GU⟩ T) (XA q pa.length ⟨sQ cb c.length cc, lv, fq, fv, av, rr, GU⟩ L)) w := by
  show ar G (ag q _ _ :: row 3 1 _ (dI c n b).length _ :: _) w
  rw [IB]; exact hz
 refine z5 ?_;refine an rfl fI rfl (j8 (q := q) (p := H9 ⟨refs, dI c n b, l, pa, pf⟩ ⟨sQ cb c.length cc, lv, fq, fv, av, rr, GU⟩ T) hw (by show (dI c n b).length <= _; omega) (by show l.length = (dI c n b).length; omega)) rfl (fun w MN hv => ?_);obtain ⟨SR, hw⟩ := hv;have SR : MN = iQ sn := by rw [T3]; exact SR
 subst SR;replace hw : ar G (ag q (H9 ⟨refs, dI c n b, l, pa, pf⟩ ⟨sQ cb c.length cc, lv, fq, fv, av, rr, GU⟩ T).cells 86 :: row 3 1 (sQ cb c.length cc) (dI c n b).length (bG (dI c n b)) :: row 4 1 lv l.length (zG l) :: XA q pa.length ⟨sQ cb c.length cc, lv, fq, fv, av, rr, GU⟩ L) w := hw;obtain ⟨T1, ZG⟩ : ∃ T1 : Int -> Int, T1 = fun k => if k = sb then T k - 1 else T k := ⟨_, rfl⟩
 have ue : ∀ k, -1 <= T1 k /\ T1 k <= 65536 := fun k => by have := GN k; rw [ZG]; simp only; split <;> omega
 obtain ⟨T2, VE⟩ : ∃ T2 : Int -> Int, T2 = fun k => if k = sn then T1 k + 1 else T1 k := ⟨_, rfl⟩
 have adg : (4 + sb.toNat) < 11 := oM;have hts := GN sb;have ht1 := ue sn;refine z3 ?_;refine bu [0, 1, 2, 3, 4, 5, 6, 7, 8, 9, 10] bK kR ?_;replace hw := hw.drawn (w.drawn + 1);refine z4 ?_;refine yI rfl qT cT rfl rfl ⟨oM, oM⟩ ?_;refine bt rfl rfl (aj.bx (v := iQ (T sb)) ai hw pK (by rcases Yb with rfl | rfl | rfl | rfl <;> rfl)) ?_;refine z3 ?_;refine yI rfl qT cT rfl rfl ⟨oM, oM⟩ ?_;refine bS (l' := (H9 ⟨refs, dI c n b, l, pa, pf⟩ ⟨sQ cb c.length cc, lv, fq, fv, av, rr, GU⟩ T1).cells) rfl tV rfl rfl ai rfl hw pK (by rcases Yb with h | h | h | h <;> (rw [h]; rfl)) (by rw [ZG]; rcases Yb with h | h | h | h <;> (rw [h]; rfl)) kR (fun w hw => ?_);refine z2 ?_;refine bu [0, 1, 2, 3, 4, 5, 6, 7, 8, 9, 10] bK kR ?_;replace hw := hw.drawn (w.drawn + 1);refine z4 ?_;refine yI rfl qT cT rfl rfl ⟨oM, oM⟩ ?_;refine bt rfl rfl (aj.bx (v := iQ (T1 sn)) ai hw pK (by rcases X3 with h | h | h | h <;> (rw [h]; rfl))) ?_;refine z3 ?_;refine yI rfl qT cT rfl rfl ⟨oM, oM⟩ ?_;refine bS (l' := (H9 ⟨refs, dI c n b, l, pa, pf⟩ ⟨sQ cb c.length cc, lv, fq, fv, av, rr, GU⟩ T2).cells) rfl tV rfl rfl ai rfl hw pK (by rcases X3 with h | h | h | h <;> (rw [h]; rfl)) (by rw [VE]; rcases X3 with h | h | h | h <;> (rw [h]; rfl)) kR (fun w hw => ?_);have hTT : H9 ⟨refs, dI c n b, l, pa, pf⟩ ⟨sQ cb c.length cc, lv, fq, fv, av, rr, GU⟩ T2 = H9 ⟨refs, dI c n b, l, pa, pf⟩ ⟨sQ cb c.length cc, lv, fq, fv, av, rr, GU⟩ (HW (dI c n b) l) := by
  have hk : ∀ k, 1 <= k /\ k <= 4 -> T2 k = HW (dI c n b) l k := fun k hk => by
   rw [XW k hk, VE, ZG]; simp only;split <;> split <;> omega
  have h0 : T2 0 = HW (dI c n b) l 0 := by
   rw [VE, ZG, hT]; simp only;rw [ae oM, ae oM];rfl
  unfold H9;rw [hk 1 oM, hk 2 oM, hk 3 oM, hk 4 oM, h0]
 rw [hTT] at hw;clear hTT;refine z8 ?_;refine aS rfl (fun h1 => ?_) fun h1 => ?_
 ·
  refine rm ?_;have hz := hw.b [ag q _ _, row 3 1 _ _ _, row 4 _ _ _ _, ag fq _ _];exact j7 rfl rfl ⟨rfl, ⟨sQ cb c.length cc, lv, fq, fv, av, rr, GU⟩, ⟨fu, rs, fun k => (by
   show D2 rr k ↔ rZ (dI c n b) l k = 1
   by_cases hk : k = n
   ·subst hk; rw [<-T3, fr, <-T5, h1]
   ·rw [zV hn hk]; exact fr k)⟩, rfl, rfl, hz⟩
 refine z7 ?_;refine aS rfl (fun h2 => ?_) fun h2 => ?_
 ·
  refine z4 ?_;refine lD eX hw ?_;refine z2 ?_;refine an rfl tn rfl (uo (lo := n) (hi := n) (hw.b [ag fq _ _, row 232 _ _ _ _]) (lV _) (by unfold mf; simp only; omega) (show rr.length <= 100000 by omega)) rfl (fun w v56 hv => ?_);obtain ⟨-, fv', hw⟩ := hv;refine z6 ?_;refine aS rfl (fun h3 => ?_) fun h3 => ?_
  ·
   exact absurd (h2.trans h3.symm) h1
  refine eH ?_;have hz := hw.b [ag q _ _, row 3 1 _ _ _, row 4 _ _ _ _, ag fq _ _];exact j7 rfl rfl ⟨rfl, ⟨sQ cb c.length cc, lv, fq, fv', av, vJ rr n n, GU⟩, ⟨fu, OD _ _ _ rs, fun k => (by
     show D2 (vJ rr n n) k ↔ rZ (dI c n b) l k = 1
     rw [OE _ _ _ rs, fr]
     by_cases hk : k = n
     ·subst hk; rw [<-T3];exact ⟨fun h => absurd rfl h.2, fun h => absurd h h3⟩
     ·rw [zV hn hk]; exact ⟨fun h => h.1, fun h => ⟨h, hk⟩⟩)⟩, rfl, rfl, hz⟩
 refine z6 ?_;refine aS rfl (fun h4 => ?_) fun h4 => ?_
 ·
  refine z4 ?_;refine lD eX hw ?_;refine z2 ?_;refine an rfl ph rfl (pT (lo := n) (hi := n) (hw.b [ag fq _ _, row 232 _ _ _ _]) (lV _) (by unfold mf; simp only; omega) GP.2 (show rr.length <= 100000 by omega)) rfl (fun w v65 hv => ?_);obtain ⟨-, fv', hw⟩ := hv;refine aH ?_;have hz := hw.b [ag q _ _, row 3 1 _ _ _, row 4 _ _ _ _, ag fq _ _];exact j7 rfl rfl ⟨rfl, ⟨sQ cb c.length cc, lv, fq, fv', av, x8 rr n n, GU⟩, ⟨fu, (by rw [GB (lV _) rs]; exact DZ _ _ _ _ (lV _) rs Q5), fun k => (by
     show D2 (x8 rr n n) k ↔ rZ (dI c n b) l k = 1
     rw [GB (lV _) rs, D0 _ _ _ _ (lV _) rs, fr]
     by_cases hk : k = n
     ·subst hk; rw [<-T3];exact ⟨fun _ => h4, fun _ => .inl ⟨lV _, lV _⟩⟩
     ·rw [zV hn hk]; exact ⟨fun h => h.resolve_left oM, .inr⟩)⟩, rfl, rfl, hz⟩
 refine eH ?_;have hz := hw.b [ag q _ _, row 3 1 _ _ _, row 4 _ _ _ _, ag fq _ _];exact j7 rfl rfl ⟨rfl, ⟨sQ cb c.length cc, lv, fq, fv, av, rr, GU⟩, ⟨fu, rs, fun k => (by
     show D2 rr k ↔ rZ (dI c n b) l k = 1
     rw [fr]
     by_cases hk : k = n
     ·subst hk; rw [<-T3, <-T5];exact ⟨fun h => absurd h h2, fun h => absurd h h4⟩
     ·rw [zV hn hk])⟩, rfl, rfl, hz⟩
end
theorem OC {T z m c : Nat} {A : Option Addr} {xs : List Value} {G : Gh} {L : List az} {w : World} (hw : ar G (row T z (.slice A m c) m xs :: L) w) : m <= c := by
 obtain ⟨hh, ⟨_, h | ⟨b, cap, cur, hv, _, h1, _, _⟩⟩, _⟩ := iA hw
 ·cases h.1; omega
 cases hv; exact h1
theorem Jc {T m c j : Nat} {A : Option Addr} {xs : List Value} {G : Gh} {L : List az} {w : World} (hw : ar G (row T 1 (.slice A m c) m xs :: L) w) (hj : j <= m) : ar G (row T 1 (.slice A j c) j (xs.take j) :: L) w := by
 refine hw.iL fun h ⟨hl, hh⟩ => ?_
 rw [KZ] at hl;refine ⟨by rw [fK]; omega, ?_⟩;rcases hh with ⟨h1, h2⟩ | ⟨b, cap, cur, hv, hb, h1, h2, h3⟩
 ·subst h2; have : j = 0 := oM;subst this; exact .inl ⟨h1, rfl⟩
 cases hv;refine .inr ⟨b, c, xs.drop j ++ cur, rfl, ?_, oM, h2, ?_⟩
 ·rw [<-je, qd]; exact hb
 rw [<-je, qd]; exact h3
theorem Si {q : Nat} {fu : List HR} {a : HR} {G : Gh} {R : List az} {w : World} (hw : ar G (Ia q fu :: ag a.1.1 [pQ q] 34 :: ag a.1.2.1 [iQ a.2.1] 3 :: ag a.1.2.2 [iQ a.2.2] 3 :: R) w) : ar G (Ia q (fu ++ [a]) :: R) w := by
 have h := hw.lM.lM.lM;have e : (fu ++ [a]).flatMap (lC q) = fu.flatMap (lC q) ++ [ag a.1.1 [pQ q] 34] ++ [ag a.1.2.1 [iQ a.2.1] 3] ++ [ag a.1.2.2 [iQ a.2.2] 3] := by
  simp [Ac, lC]
 unfold Ia; rw [e]; exact h
theorem Sh {q : Nat} {fu : List HR} {G : Gh} {R : List az} {w : World} (hw : ar G (Ia q fu :: R) w) (j : Nat) : ar G (Ia q (fu.take j) :: R) w := by
 refine hw.iL fun h hh => ?_
 have e : fu.flatMap (lC q) = (fu.take j).flatMap (lC q) ++ (fu.drop j).flatMap (lC q) := by rw [<-Ac, qd]
 have h1 : all ((fu.take j).flatMap (lC q) ++ (fu.drop j).flatMap (lC q)) h := by rw [<-e]; exact hh
 obtain ⟨x1, x2, _, hu, h2, _⟩ := (kg _ _ _).2 h1;exact MF (fun b o hb => hu b o (eI hb)) h2
theorem P3 {q : Nat} {fu : List HR} {a : HR} {L R : List az} (ha : a ∈ fu) (hp : dg (Ia q fu) L R) : aX L fun w =>
  w.cell? ⟨a.1.1, 0, none⟩ = some (pQ q) /\ w.cell? ⟨a.1.2.1, 0, none⟩ = some (iQ a.2.1) /\ w.cell? ⟨a.1.2.2, 0, none⟩ = some (iQ a.2.2) := by
 have k : aX (lC q a) fun w => w.cell? ⟨a.1.1, 0, none⟩ = some (pQ q) /\ w.cell? ⟨a.1.2.1, 0, none⟩ = some (iQ a.2.1) /\ w.cell? ⟨a.1.2.2, 0, none⟩ = some (iQ a.2.2) :=
  fun g w hw => ⟨wN hw .here, wN hw (.there .here), wN hw (.there (.there .here))⟩
 obtain ⟨B, C, rfl⟩ := PS ha;exact ((k.lp (M := (B ++ a :: C).flatMap (lC q)) (B := B.flatMap (lC q)) (C := C.flatMap (lC q)) sM).head _).pick hp
theorem XF {P : Po} {m : TN} (h : TO P m) : P.low = m.rs.head?.map (·.1) := by
 cases hr : m.rs with
 | nil =>
  rcases Ak (c := P.c) (l := P.l) with ⟨n, _, _, h2, _⟩ | ⟨h1, _⟩
  ·have := (h.fr n).2 h2;rw [hr] at this; exact absurd this Ap
  exact h1
 | cons x r =>
  have GP := h.rs;rw [hr] at GP;have hh := SG GP;have h1 := (h.fr x.1).1 (by rw [hr]; exact hh.1);rcases Ak (c := P.c) (l := P.l) with ⟨n, h0, _, h2, h3⟩ | ⟨_, h2⟩
  ·have h4 := h3 _ h1;have h5 := hh.2 n (by have := (h.fr n).2 h2; rw [hr] at this; exact this);have : n = x.1 := oM;subst this; exact h0
  exact absurd h1 (h2 _)
def Po.qZ (P : Po) (n : Int) : Int := if P.bw n = 0 then 15 else if P.bw n = P.refs then 13 else 0
def Po.inc (P : Po) (n : Int) : Po := if P.qZ n = 0 then P.act n 1 else P
def Po.dec (P : Po) (n : Int) : Po := if P.bw n = 0 then P else P.act n (-1)
theorem cg {c : List Int} {n : Int} (h : iF c n ≠ 0) : bg c n := by
 unfold iF at h;split at h
 ·assumption
 exact absurd rfl h
theorem xw {c : List Int} {n : Int} (h : bg c n) : iF c n = c.getD (n - 1).toNat 0 := by unfold iF; rw [ah h]
section
variable {G : Gh} {L R : List az} {w : World}
theorem nF {q : Nat} {P : Po} {n : Int} (hw : ar G (gZ q P :: L) w) (aJ : P.Ok) : Calls prog 52 #[pQ q, iQ n] w (dv fun u w' => u = iQ (P.bw n) /\ ar G (gZ q P :: L) w') := by
 obtain ⟨m, hf, hw⟩ := jH hw;exact ik (qN hw aJ.len) fun v w' h => ⟨h.1, fT hf h.2⟩
theorem ur {q : Nat} {P : Po} {n : Int} (hw : ar G (gZ q P :: L) w) (aJ : P.Ok) : Calls prog 133 #[pQ q, iQ n] w (dv fun u w' => u = iQ (P.st n) /\ ar G (gZ q P :: L) w') := by
 obtain ⟨m, hf, hw⟩ := jH hw;exact ik (j8 hw aJ.len aJ.last) fun v w' h => ⟨h.1, fT hf h.2⟩
theorem NY {q : Nat} {P : Po} (hw : ar G (gZ q P :: L) w) : Calls prog 59 #[pQ q] w (dv fun u w' => u = iQ P.c.length /\ ar G (gZ q P :: L) w') := by
 obtain ⟨m, hf, hw⟩ := jH hw;exact ik (BZ hw) fun v w' h => ⟨h.1, fT hf h.2⟩
theorem Mj {q : Nat} {P : Po} (hw : ar G (gZ q P :: L) w) (MS : 0 <= P.pf /\ P.pf + P.pa.length <= 1000000000000000) : Calls prog 129 #[pQ q] w (dv fun u w' => u = iQ P.mark /\ ar G (gZ q P :: L) w') := by
 obtain ⟨m, hf, hw⟩ := jH hw;obtain ⟨a, c, CS⟩ := aM (hw.pick (A := row 227 1 m.av _ _) pK);exact ik (nE hw ⟨a, c, CS⟩ MS) fun v w' h => ⟨h.1, fT hf h.2⟩
theorem HA {q : Nat} {P : Po} (hw : ar G (gZ q P :: L) w) (aJ : P.Ok) : Calls prog 8 #[pQ q] w (dv fun u w' => ar G (row 3 1 u P.c.length (bG P.c) :: gZ q P :: L) w') := by
 obtain ⟨m, hf, hw⟩ := jH hw;exact ik (xV hw aJ.len) fun v w' h => (fT hf (h.b [ag q _ _, row 3 1 m.cv P.c.length (bG P.c), row 4 _ _ _ _, ag m.fq _ _, row 232 _ _ _ _, row 227 _ _ _ _, Ia q m.fu])).b [row 3 1 v _ _, gZ q P]
end
section
variable {G : Gh} {L R : List az} {w : World}
theorem ou {q : Nat} {P : Po} {n b : Int} (hw : ar G (gZ q P :: L) w) (aJ : P.Ok) (hn : bg P.c n) (hb : b = 1 \/ b = -1) (dm : P.pa.length <= 10000000000000) :
  Calls prog 130 #[pQ q, iQ n, iQ b] w (dv fun r w' => r = .tuple #[] /\ ar G (gZ q (P.act n b) :: L) w') := by
 obtain ⟨m, hf, hw⟩ := jH hw;have xt := aJ.bw n;have hrf := aJ.refs;unfold Po.bw at xt;rw [xw hn] at xt
 refine al (args := [_, _, _]) func130 rfl ntmps130 rfl rfl ?_;refine z2 ?_;refine bE rfl rfl rfl hw rfl fun w b3 hw => ?_;refine bE rfl rfl rfl hw rfl fun w b4 hw => ?_;refine bE rfl rfl rfl hw rfl fun w b5 hw => ?_;refine z3 ?_;refine lD bp hw ?_;refine lD ai hw ?_;refine lD ai hw ?_;refine an rfl qQ rfl (rL (P := P) (m := m) (b := b) (hw.b [ag q _ _, row 3 1 _ _ _, row 4 _ _ _ _, ag m.fq _ _, row 232 _ _ _ _, row 227 _ _ _ _, Ia q m.fu]) hf aJ.len aJ.last hn hb oM) rfl fun w v9 hv => ?_;obtain ⟨rfl, m', Q6, has, CS, hw⟩ := hv;refine aH ?_;refine bu [0, 1, 2, 3, 4, 5, 6, 7, 8, 9, 10, 11] bK kR ?_;replace hw := hw.drawn (w.drawn + 1);refine lD bp hw ?_;refine lD bp hw ?_;refine z2 ?_;refine lD eU hw ?_;refine mO (v1 := #[]) (v2 := #[pQ b3, pQ b4, pQ b5]) rfl (by intro z hz; simp at hz; rcases hz with rfl | rfl | rfl <;> exact ⟨_, rfl⟩) sM (by simp only [oS, cG, j3]; rfl) ?_;refine aQ (v := .agg #[vO ((b3, b4, b5), (n, b))]) rfl rfl (fun w => kR) ?_;refine vA rfl kJ vF Cp dM rfl rfl rfl hw (fun w b17 hw q' hq => ?_) fun w b17 hw => ?_
 ·
  have hq := a9 (l := [4, 1, 0]) kR hq;simp only [bB, cW, or_false] at hq;rcases hq with rfl | rfl | rfl
  ·exact aV rfl rfl rfl (aj.bx eU hw pK rfl)
  ·exact aV rfl rfl rfl (aj.bx bp hw pK rfl)
  exact aV rfl rfl rfl (aj.bx bp hw pK rfl)
 refine Xg (m := P.pa.length) (k := 1) (news := [vO ((b3, b4, b5), (n, b))]) rfl kJ vF Mv Cp rfl rfl hw pK (Rd.nP hw pK) rfl (by intro u hu; simp at hu; subst hu; rfl) mL oM (fun w TV hw q' hq => ?_) (fun w TV hw => ?_)
 ·
  have hq := a9 (l := [0]) kR hq;simp only [bB, cW, or_false] at hq;subst hq;exact aV rfl rfl rfl (aj.bx bp hw pK rfl)
 obtain ⟨va, vc, rfl⟩ := aM hw;refine z2 ?_;refine bS (l' := [_, _, _, _, _, _, _, _, _, _, _]) rfl tV rfl rfl eU rfl hw pK rfl rfl kR fun w hw => ?_;refine aH ?_;have hz := hw.b [Ia q m'.fu, ag b3 _ _, ag b4 _ _, ag b5 _ _];have hz := Si (a := ((b3, b4, b5), (n, b))) hz;have hz := hz.b [ag q _ _, row 3 1 _ _ _, row 4 _ _ _ _, ag m'.fq _ _, row 232 _ _ _ _, row 227 _ _ _ _, Ia q _, ag b17 _ _];exact j7 rfl rfl ⟨rfl, fT (m := ⟨m'.cv, m'.lv, m'.fq, m'.fv, .slice va (P.pa.length + 1) vc, m'.rs, m'.fu ++ [((b3, b4, b5), (n, b))]⟩) ⟨by simp only [il, Q6.fu]; rfl, Q6.rs, Q6.fr⟩ (by
  have e1 : (m'.fu ++ [((b3, b4, b5), (n, b))]).map vO = m'.fu.map vO ++ [vO ((b3, b4, b5), (n, b))] := by simp
  have e2 : (P.act n b).pa.length = P.pa.length + 1 := by simp [Po.act]
  unfold QZ XA;rw [e1, e2];exact hz.b [ag q _ _, row 3 1 _ _ _, row 4 _ _ _ _, ag m'.fq _ _, row 232 _ _ _ _, row 227 _ _ _ _, Ia q _] |>.drop (A := ag b17 _ _) pK)⟩
end
theorem KS {T z m c : Nat} {A : Option Addr} {xs : List Value} {G : Gh} {L : List az} {w : World} (hw : ar G (row T z (.slice A m c) m xs :: L) w) : ∀ a, A = some a -> a.spot = none := by
 obtain ⟨hh, ⟨_, h | ⟨b, cap, cur, hv, _, h1, _, _⟩⟩, _⟩ := iA hw
 ·cases h.1; intro a ha; cases ha
 cases hv; intro a ha; cases ha; rfl
section
variable {P : Program} {n : Nat} {ops : Array Oper} {dr : Bool} {done r : List Nat} {K : gj -> World -> Prop} {e : gj} {w : World} {i d : Nat} {t s : TypeId} {p : String} {af : Array Edge} {g : Option (Nat × Bool)} {x : Operand} {a : Int}
theorem Xb (ho : ops[i]? = some ⟨some d, .unOp .neg s x, t, p, af, g⟩) (hx : ev e x = some (iQ a)) (hb : -9223372036854775807 <= a /\ a <= 9223372036854775807)
  (h : XL P n ops dr (i :: done) r K ((d, iQ (-a)) :: e) w) (hd : Nat.blt d n = true := by exact rfl) (hg : Gd ops e g := by first | trivial | exact ⟨_, rfl, rfl⟩) : XL P n ops dr done (i :: r) K e w := ZX (hd := hd) (hg := hg) ho hx (by rw [Eg oM, Int.zero_sub]; exact h)
end
section
variable {G : Gh} {L R : List az} {w : World}
theorem zq {q : Nat} {P : Po} (hw : ar G (gZ q P :: L) w) (aJ : P.Ok) (dm : P.pa.length <= 10000000000000) :
  Calls prog 143 #[pQ q] w (dv fun r w' => (P.low = none /\ r = .tuple #[iQ 0, iQ 12] /\ ar G (gZ q P :: L) w') \/ (∃ n, P.low = some n /\ r = .tuple #[iQ n, iQ 0] /\ ar G (gZ q (P.act n 1) :: L) w')) := by
 obtain ⟨m, hf, hw⟩ := jH hw;have Vp := XF hf;refine al (args := [_]) func143 rfl ntmps143 rfl rfl ?_;refine yb ?_;refine lD eX hw ?_;refine an rfl tr rfl (uq (hw.b [ag m.fq _ _, row 232 _ _ _ _])) rfl fun w v11 hv => ?_;obtain ⟨rfl, hw⟩ := hv;have hw := hw.b [ag q _ _, row 3 1 _ _ _, row 4 _ _ _ _, ag m.fq _ _, row 232 _ _ _ _, row 227 _ _ _ _, Ia q m.fu];have hw := fT hf hw;have hv : ∃ (n : Int) (b : Bool), aak m.rs = .tuple #[iQ n, .bool b] /\ ((b = false /\ P.low = none) \/ (b = true /\ P.low = some n)) := by
  cases hr : m.rs with
  | nil => rw [hr] at Vp; exact ⟨0, false, rfl, .inl ⟨rfl, Vp⟩⟩
  | cons x r => rw [hr] at Vp; exact ⟨x.1, true, rfl, .inr ⟨rfl, Vp⟩⟩
 obtain ⟨n, b, hlr, hb⟩ := hv;rw [hlr];refine yb ?_;refine nY rfl rfl ?_;refine aH ?_;refine fm rfl (fun h1 => ?_) fun h1 => ?_
 ·
  have hb := hb.resolve_right (fun h => by rw [h.1] at h1; simp at h1);refine z6 ?_;exact eK rfl rfl rfl rfl (.inl ⟨hb.2, rfl, hw⟩)
 obtain ⟨rfl, oF⟩ := hb.resolve_left (fun h => by rw [h.1] at h1; simp at h1);refine z5 ?_;refine an rfl nM rfl (ou (b := 1) hw aJ (by
 rcases Ak (c := P.c) (l := P.l) with ⟨k, h0, h2, _, _⟩ | ⟨h0, _⟩
 ·have : k = n := by have := h0.symm.trans oF; simpa using this
  subst this; exact h2
 ·rw [show P.low = none from h0] at oF; cases oF) (.inl rfl) dm) rfl (fun w TV hv => ?_)
 obtain ⟨rfl, hw⟩ := hv;refine z8 ?_;exact eK rfl rfl rfl rfl (.inr ⟨n, oF, rfl, hw⟩)
theorem ti {q : Nat} {P : Po} {n : Int} (hw : ar G (gZ q P :: L) w) (aJ : P.Ok) (dm : P.pa.length <= 10000000000000) :
  Calls prog 72 #[pQ q, iQ n] w (dv fun r w' => r = iQ (P.qZ n) /\ ar G (gZ q (P.inc n) :: L) w') := by
 refine al (args := [_, _]) func72 rfl ntmps72 rfl rfl ?_;refine z9 ?_;refine an rfl fJ rfl (nF hw aJ) rfl fun w v7 hv => ?_;obtain ⟨rfl, hw⟩ := hv;refine z7 ?_;refine aS rfl (fun h1 => ?_) fun h1 => ?_
 ·
  refine z5 ?_;exact br rfl rfl rfl (by
 have e : P.qZ n = 15 := ah h1;unfold Po.inc; rw [e]; exact ⟨rfl, hw⟩)
 obtain ⟨m, hf, hw⟩ := jH hw;refine z5 ?_;refine lD ai hw ?_;refine z3 ?_;refine aS rfl (fun h2 => ?_) fun h2 => ?_
 ·
  refine z5 ?_;exact br rfl rfl rfl (by
 have e : P.qZ n = 13 := by unfold Po.qZ; rw [ae h1, ah h2]
 unfold Po.inc; rw [e]; exact ⟨rfl, fT hf hw⟩)
 have hw := fT hf hw;have e : P.qZ n = 0 := by unfold Po.qZ; rw [ae h1, ae h2]
 refine z5 ?_;refine an rfl nM rfl (ou (b := 1) hw aJ (cg h1) (.inl rfl) dm) rfl fun w TV hv => ?_;obtain ⟨rfl, hw⟩ := hv;refine z6 ?_;exact br rfl rfl rfl (by unfold Po.inc; rw [e]; exact ⟨rfl, hw⟩)
theorem tj {q : Nat} {P : Po} {n : Int} (hw : ar G (gZ q P :: L) w) (aJ : P.Ok) (dm : P.pa.length <= 10000000000000) :
  Calls prog 131 #[pQ q, iQ n] w (dv fun r w' => r = .tuple #[iQ (if P.bw n = 0 then 0 else P.bw n - 1), iQ (if P.bw n = 0 then 15 else 0)] /\ ar G (gZ q (P.dec n) :: L) w') := by
 refine al (args := [_, _]) func131 rfl ntmps131 rfl rfl ?_;refine yb ?_;refine an rfl fJ rfl (nF hw aJ) rfl fun w v8 hv => ?_;obtain ⟨rfl, hw⟩ := hv;refine z2 ?_;refine aS rfl (fun h1 => ?_) fun h1 => ?_
 ·
  refine z6 ?_;exact eK rfl rfl rfl rfl (by unfold Po.dec; rw [ah h1, ah h1, ah h1]; exact ⟨rfl, hw⟩)
 have Ql := cg h1;have xt := aJ.bw n;refine z5 ?_;refine an rfl nM rfl (ou (b := -1) hw aJ Ql (.inr rfl) dm) rfl fun w v12 hv => ?_;obtain ⟨rfl, hw⟩ := hv;have Hb := aJ.act (b := -1) Ql (.inr rfl) (by have : P.bw n ≠ 0 := h1; omega);refine z5 ?_;refine an rfl fJ rfl (nF (n := n) hw Hb) rfl fun w Uv hv => ?_;have e : (P.act n (-1)).bw n = P.bw n - 1 := by
  unfold Po.bw Po.act;simp only;rw [xw (gR.2 Ql), xw Ql, ql Ql, ah rfl]; rfl
 rw [e] at hv;obtain ⟨rfl, hw⟩ := hv;refine z4 ?_;exact eK rfl rfl rfl rfl (by unfold Po.dec; rw [ae h1, ae h1, ae h1]; exact ⟨rfl, hw⟩)
theorem zn {q b1 b2 b3 : Nat} {n b : Int} {P : Po} {m : TN} (hw : ar G (QZ q P m L) w) (hf : TO P m) (ha : ((b1, b2, b3), (n, b)) ∈ m.fu) (hl : P.c.length <= 65536) (oW : P.l.length = P.c.length) (hn : bg P.c n) (hb : b = 1 \/ b = -1) (hc : -1000000 <= P.c.getD (n - 1).toNat 0 /\ P.c.getD (n - 1).toNat 0 <= 1000000) :
  Calls prog 164 #[pQ b1, pQ b2, pQ b3] w (dv fun r w' => r = .tuple #[] /\ ∃ m', TO { P with c := dI P.c n (-b) } m' /\ m'.fu = m.fu /\ m'.av = m.av /\ ar G (QZ q { P with c := dI P.c n (-b) } m' L) w') := by
 have hbx : w.cell? ⟨b1, 0, none⟩ = some (pQ q) /\ w.cell? ⟨b2, 0, none⟩ = some (iQ n) /\ w.cell? ⟨b3, 0, none⟩ = some (iQ b) := (P3 ha (L := [Ia q m.fu]) .here).at ((hw.pick (A := Ia q m.fu) pK).head);refine al (args := [_, _, _]) func164 rfl ntmps164 rfl rfl ?_;refine z1 ?_;refine bt rfl rfl (aj.one bp hbx.1) ?_;refine bt rfl rfl (aj.one ai hbx.2.1) ?_;refine bt rfl rfl (aj.one ai hbx.2.2) ?_;refine Xb rfl rfl oM ?_;refine an rfl qQ rfl (rL (b := -b) hw hf hl oW hn oM hc) rfl fun w v7 hv => ?_;refine aH ?_;exact j7 rfl rfl ⟨rfl, hv.2⟩
theorem AN {q : Nat} {P : Po} {mk : Int} (hw : ar G (gZ q P :: L) w) (aJ : P.Ok) (MS : 0 <= P.pf /\ P.pf + P.pa.length <= 1000000000000000) : Calls prog 140 #[pQ q, iQ mk] w (dv fun r w' =>
  (¬ (P.pf <= mk /\ mk <= P.mark) /\ r = .bool false /\ ar G (gZ q P :: L) w') \/ (P.pf <= mk /\ mk <= P.mark /\ r = .bool true /\ ar G (gZ q (P.GX (mk - P.pf).toNat) :: L) w')) := by
 obtain ⟨m, hf, hw⟩ := jH hw;obtain ⟨aa, ac, CS⟩ := aM (hw.pick (A := row 227 1 m.av _ _) pK);have YI : P.pa.length <= ac := by
  have h := hw.pick (A := row 227 1 m.av _ _) pK;rw [CS] at h; exact OC h
 have tC : ∀ a, aa = some a -> a.spot = none := by
  have h := hw.pick (A := row 227 1 m.av _ _) pK;rw [CS] at h; exact KS h
 have acy : m.fu.length = P.pa.length := by have := congrArg List.length hf.fu; simpa using this
 refine al (args := [_, _]) func140 rfl ntmps140 rfl rfl ?_;refine Oc ?_;refine lD (v := iQ P.pf) ai hw ?_;refine z2 ?_;refine aE (d := 12) rfl (fun h1 => ?_) fun h1 => ?_
 ·
  refine z6 ?_;refine eg rfl ?_;refine z5 ?_;exact br rfl rfl rfl (.inl ⟨oM, rfl, fT hf hw⟩)
 refine z2 ?_;refine an rfl mI rfl (nE hw ⟨aa, ac, CS⟩ MS) rfl fun w Uv hv => ?_;obtain ⟨rfl, hw⟩ := hv;refine z3 ?_;refine aS rfl (fun h2 => ?_) fun h2 => ?_
 ·
  have NT : P.pf + P.pa.length < mk := h2;refine z5 ?_;exact br rfl rfl rfl (.inl ⟨by unfold Po.mark; omega, rfl, fT hf hw⟩)
 have NT : ¬ P.pf + P.pa.length < mk := h2;refine z7 ?_;refine bt rfl rfl (aj.bx (v := .slice aa P.pa.length ac) eU hw pK (by show some m.av = _; rw [CS])) ?_;refine dQ rfl kR kJ rfl ?_;refine z4 ?_;obtain ⟨as0, VA⟩ : ∃ x, x = m.fu := ⟨_, rfl⟩;obtain ⟨av0, QA⟩ : ∃ x, x = m.av := ⟨_, rfl⟩;have OU : lP P.c (P.pa.drop P.pa.length) = P.c := by rw [PN]; rfl
 refine cO (fun m e w => ∃ (j : Nat) (m' : TN), (mk - P.pf).toNat <= j /\ j <= P.pa.length /\ m = j + 1 /\ e = [(0, pQ q), (1, iQ mk), (5, iQ ((j : Int) - 1))] /\ (TO { P with c := lP P.c (P.pa.drop j) } m' /\ m'.fu = as0 /\ m'.av = av0) /\ ar G (QZ q { P with c := lP P.c (P.pa.drop j) } m' L) w)
  (m := P.pa.length + 1) sB
  ⟨P.pa.length, m, oM, eW _, rfl, rfl, ⟨by rw [OU]; exact hf, VA.symm, QA.symm⟩, by rw [OU]; exact hw⟩ ?_
 rintro m e w ⟨j, m', hj1, hj2, rfl, rfl, ⟨Q6, VB, QB⟩, hw⟩;refine z8 ?_;refine lD (v := iQ P.pf) ai hw ?_;refine z3 ?_;refine aS rfl (fun h3 => ?_) fun h3 => ?_
 ·
  have hj : (mk - P.pf).toNat < j := oM;obtain ⟨⟨⟨b1, b2, b3⟩, n, b⟩, ha⟩ : ∃ a, as0[j - 1]? = some a := ⟨_, cV (by rw [VA]; omega)⟩;obtain ⟨a, Ue⟩ : ∃ a : HR, a = ((b1, b2, b3), (n, b)) := ⟨_, rfl⟩;rw [<-Ue] at ha;have hpa : P.pa[j - 1]? = some (n, b) := by rw [<-hf.fu, dB, <-VA, ha, Ue]; rfl
  have VD := aJ.Y' _ (ed hpa);obtain ⟨-, ab, _, CU, -⟩ := ij (m := P.pa.length) (A := aa) (c := ac) (by have h := hw.pick (A := row 227 1 m'.av _ _) pK; rw [QB, QA, CS] at h; exact h) oM;subst CU;have ma : tF (sQ ab P.pa.length ac) (as0.map vO) w := by
   have h := (Wm (cs := m'.fu.map vO) (T := 227) (n := P.pa.length) (v := m'.av) (by rw [bA, VB, VA, acy]) pK).at hw;rw [VB, QB, QA, CS] at h; exact h
  refine z7 ?_;refine bt rfl rfl (aj.bx (v := sQ ab P.pa.length ac) eU hw pK (by show some m'.av = _; rw [QB, QA, CS])) ?_;refine z1 ?_;refine fk rfl kJ vF rfl rfl ⟨oM, oM⟩ ?_;refine cy rfl yn rfl ?_;refine bt rfl rfl (aj.one (v := .func (.func 164) #[] #[pQ b1, pQ b2, pQ b3]) So (ma.at (by rw [show ((j : Int) - 1).toNat = j - 1 by omega, dB, ha, Ue]; rfl))) ?_;refine iN rfl rfl x6 rfl rfl (zn (b1 := b1) (b2 := b2) (b3 := b3) (n := n) (b := b) hw Q6 (by rw [VB, <-Ue]; exact ed ha) (by rw [nh]; exact aJ.len) (by rw [nh]; exact aJ.last) (by unfold bg at VD ⊢; rw [nh]; exact VD.1) VD.2 (by
     have iD : (n - 1).toNat < (lP P.c (P.pa.drop j)).length := by rw [nh]; unfold bg at VD; omega
     have := aJ.NN j hj2 _ (PM iD);have hr := aJ.refs;rw [qW, cV iD]
     show _ <= (lP P.c (P.pa.drop j))[_] /\ (lP P.c (P.pa.drop j))[_] <= _
     omega)) rfl (fun w Zg hv => ?_)
  obtain ⟨rfl, m2, MX, acz, acx, hw⟩ := hv;have gD : dI (lP P.c (P.pa.drop j)) n (-b) = lP P.c (P.pa.drop (j - 1)) := by
   have := dG hpa;rw [this, show j - 1 + 1 = j by omega]; rfl
  rw [gD] at MX hw;refine z6 ?_;exact ⟨j - 1 + 1, oM, [(0, _), (1, _), (5, iQ (((j - 1 : Nat) : Int) - 1))], by rw [show (((j - 1 : Nat) : Int) - 1) = (j : Int) - 1 - 1 by omega]; exact sB, j - 1, m2, oM, oM, rfl, rfl, ⟨MX, by rw [acz]; exact VB, by rw [acx]; exact QB⟩, hw⟩
 have hj : j = (mk - P.pf).toNat := oM;refine z2 ?_;refine bu [0, 1, 2, 3, 4, 5, 6, 7, 8, 9, 10, 11, 12, 13, 14] bK kR ?_;replace hw := hw.drawn (w.drawn + 1);refine z4 ?_;refine bt rfl rfl (aj.bx (v := .slice aa P.pa.length ac) eU hw pK (by show some m'.av = _; rw [QB, QA, CS])) ?_;refine z4 ?_;refine lD (v := iQ P.pf) ai hw ?_;refine z1 ?_;refine rX rfl kJ I6 rfl tC rfl ⟨oM, oM⟩ ?_;refine z2 ?_;refine bS (l' := [_, _, _, _, _, _, _, _, _, _, _]) rfl tV rfl rfl eU rfl hw pK rfl rfl kR fun w hw => ?_;refine z6 ?_;exact br rfl rfl rfl (.inr ⟨oM, by unfold Po.mark; omega, rfl, by
 have hz := hw.b [row 227 _ _ _ _];rw [QB, QA, CS] at hz;have hz := Jc hz hj2;have hz := hz.b [Ia q m'.fu];have hz := Sh hz j;have hz := hz.b [ag q _ _, row 3 1 _ _ _, row 4 _ _ _ _, ag m'.fq _ _, row 232 _ _ _ _, row 227 _ _ _ _, Ia q _];rw [<-hj];refine fT (P := P.GX j) (m := ⟨m'.cv, m'.lv, m'.fq, m'.fv, .slice aa j ac, m'.rs, m'.fu.take j⟩) ⟨?_, Q6.rs, Q6.fr⟩ ?_
 ·show (m'.fu.take j).map (·.2) = P.pa.take j
  rw [K5, Q6.fu]
 ·have e : (P.GX j).pa.length = j := by simp only [Po.GX, fK]; omega
  unfold QZ XA;rw [e, K5];have ej : ((mk - P.pf).toNat) = j := hj.symm;rw [ej] at hz;exact hz⟩)
end
abbrev DP := Int × bm × Bool
def rY (x : DP) : List Value := iQ x.1 :: x.2.1.cells ++ [.bool x.2.2]
theorem Xi (l : List DP) : ∀ r ∈ l.map rY, r.length = 7 := fun r hr => by obtain ⟨x, _, rfl⟩ := dd.1 hr; rfl
def GF (S : List bm) (y : DP) : Prop := (y.2.2 = true -> y.2.1 ∈ S) /\ (y.2.2 = false -> y.2.1 = bI)
theorem GF.app {S : List bm} {y : DP} (h : GF S y) (T : List bm) : GF (S ++ T) y := ⟨fun e => oT _ (h.1 e), h.2⟩
def pA (x : DP) : Int × Option Pg := (x.1, if x.2.2 = true then some x.2.1.pg else none)
abbrev QW := Int × Value × List DP
def Ci (a : QW) : List Value := [iQ a.1, a.2.1]
theorem TL (l : List QW) : ∀ r ∈ l.map Ci, r.length = 2 := fun r hr => by obtain ⟨x, _, rfl⟩ := dd.1 hr; rfl
abbrev kM (a : QW) : az := row 212 7 a.2.1 a.2.2.length (a.2.2.map rY).flatten
def MI (a : QW) : Int × List (Int × Option Pg) := (a.1, a.2.2.map pA)
structure N9 where
 q : Nat
 om : Nat
 av : Value
 on : List (Int × bm)
 S : List bm
 fu : List QW
abbrev Ze (vq : Nat) (V : Va) (m : N9) (L : List az) : List az := ag vq (Wh m.q m.om m.av V.vf) 38 :: cX m.om (og m.on) :: pI m.S :: row 170 2 m.av m.fu.length (m.fu.map Ci).flatten :: aT (m.fu.map kM) :: gZ m.q V.po :: L
structure Wc (V : Va) (m : N9) : Prop where
 on : ∀ n, (xK m.on n).map bm.pg = V.on n
 Ih : ∀ n p, xK m.on n = some p -> p ∈ m.S
 sm : ∀ p ∈ m.S, p.Sm
 fu : m.fu.map MI = V.va
 HP : ∀ a ∈ m.fu, ∀ x ∈ a.2.2, GF m.S x
def aZ (vq : Nat) (V : Va) : az := ex fun m : N9 => dH (Wc V m) (aT (Ze vq V m []))
theorem lg {vq : Nat} {V : Va} {G : Gh} {L : List az} {w : World} (h : ar G (aZ vq V :: L) w) : ∃ m, Wc V m /\ ar G (Ze vq V m L) w := by
 obtain ⟨m, h⟩ := h.iv;obtain ⟨hf, h⟩ := h.dx;exact ⟨m, hf, h.cD⟩
theorem ie {vq : Nat} {V : Va} {m : N9} {G : Gh} {L : List az} {w : World} (hf : Wc V m) (h : ar G (Ze vq V m L) w) : ar G (aZ vq V :: L) w :=
 ar.jq m (ar.iR hf (ar.bH (M := Ze vq V m []) h))
structure ZS where
 m : N9
 sv : Value
 ws : List DP
abbrev QX (vq b : Nat) (mk : Int) (x : Vw) (m : ZS) (L : List az) : List az := ag b [iQ mk, m.sv] 170 :: row 212 7 m.sv m.ws.length (m.ws.map rY).flatten :: Ze vq x.v m.m L
structure Ui (x : Vw) (m : ZS) : Prop where
 f : Wc x.v m.m
 ws : m.ws.map pA = x.was
 Us : ∀ y ∈ m.ws, GF m.m.S y
def sH (vq b : Nat) (mk : Int) (x : Vw) : az := ex fun m : ZS => dH (Ui x m) (aT (QX vq b mk x m []))
theorem jB {vq b : Nat} {mk : Int} {x : Vw} {G : Gh} {L : List az} {w : World} (h : ar G (sH vq b mk x :: L) w) : ∃ m, Ui x m /\ ar G (QX vq b mk x m L) w := by
 obtain ⟨m, h⟩ := h.iv;obtain ⟨hf, h⟩ := h.dx;exact ⟨m, hf, h.cD⟩
theorem gK {vq b : Nat} {mk : Int} {x : Vw} {m : ZS} {G : Gh} {L : List az} {w : World} (hf : Ui x m) (h : ar G (QX vq b mk x m L) w) : ar G (sH vq b mk x :: L) w :=
 ar.jq m (ar.iR hf (ar.bH (M := QX vq b mk x m []) h))
theorem bF : jN bI.cells := by intro u hu; simp only [bI, bm.cells, bB, cW, or_false] at hu; rcases hu with rfl | rfl | rfl | rfl | rfl <;> rfl
theorem DX {V : Va} {m : N9} (hf : Wc V m) (n : Int) {G : Gh} {L R : List az} {w : World} (hw : ar G L w) (hp : dg (pI m.S) L R) : ∃ (p0 : bm) (b0 : Bool),
  (fD (og m.on) n).getD (gQ bI.cells) = gQ p0.cells /\ (fD (og m.on) n).isSome = b0 /\ jN p0.cells /\ (if b0 = true then some p0.pg else none) = V.on n /\ (b0 = true -> p0 ∈ m.S) /\ (b0 = false -> p0 = bI) /\ p0.pg = V.pg n := by
 have O1 := hf.on n;rw [LF];cases h : xK m.on n with
 | none => rw [h] at O1; exact ⟨bI, false, rfl, rfl, bF, O1, (fun h => by cases h), fun _ => rfl, by unfold Va.pg; rw [<-O1]; rfl⟩
 | some p =>
  rw [h] at O1;have hS := hf.Ih n p h;exact ⟨p, true, rfl, rfl, cF (Bm hS (hf.sm p hS) hp) hw, O1, fun _ => hS, (fun h => by cases h), by unfold Va.pg; rw [<-O1]; rfl⟩
theorem OJ {on : List (Int × bm)} {n : Int} {p : bm} : ∃ zE, og zE = oh (og on) n (gQ p.cells) /\ ∀ k, xK zE k = if k = n then some p else xK on k := by
 induction on with
 | nil => exact ⟨[(n, p)], rfl, fun k => by
   unfold xK
   by_cases h : k = n
   ·subst h; simp
   ·have h2 : (n == k) = false := by simpa using fun e => h e.symm
    simp [h, h2]⟩
 | cons x on ih =>
  obtain ⟨zE, h1, h2⟩ := ih
  by_cases hx : x.1 = n
  ·refine ⟨(n, p) :: on, ?_, fun k => ?_⟩
   ·simp only [og, cG, oh];rw [ah hx.symm, hx]
   unfold xK;simp only [Nd]
   by_cases h : k = n
   ·subst h; simp
   have e1 : (n == k) = false := by simpa using fun e => h e.symm
   have e2 : (x.1 == k) = false := by rw [hx]; exact e1
   simp [h, e1, e2]
  refine ⟨x :: zE, ?_, fun k => ?_⟩
  ·simp only [og, cG, oh] at h1 ⊢;rw [ae (fun e => hx e.symm), h1]
  have h3 := h2 k;unfold xK at h3 ⊢;simp only [Nd]
  by_cases h : x.1 = k
  ·have e1 : (x.1 == k) = true := by simpa using h
   have : ¬ k = n := fun e => hx (h.trans e)
   simp [e1, this]
  have e1 : (x.1 == k) = false := by simpa using h
  simp only [e1];exact h3
theorem Jq {on : List (Int × bm)} (hn : ((og on).map (·.1)).Nodup) {n : Int} : ∃ zE, og zE = xN (og on) n /\ ∀ k, xK zE k = if k = n then none else xK on k := by
 induction on with
 | nil => exact ⟨[], rfl, fun k => by unfold xK; simp⟩
 | cons x on ih =>
  have hn2 : x.1 ∉ (og on).map (·.1) /\ ((og on).map (·.1)).Nodup := by simpa [og] using hn
  by_cases hx : x.1 = n
  ·refine ⟨on, ?_, fun k => ?_⟩
   ·simp only [og, cG, xN];rw [ah hx.symm]
   unfold xK;simp only [Nd]
   by_cases h : k = n
   ·subst h;rw [ah rfl];have : on.find? (fun y => y.1 == k) = none := by
     rw [UD];intro y hy;have : y.1 ≠ k := fun e => hn2.1 (by rw [hx, <-e, P5]; exact dd.2 ⟨y, hy, rfl⟩)
     simpa using this
    rw [this]; rfl
   have e2 : (x.1 == k) = false := by simpa using fun e => h (e.symm.trans hx)
   rw [ae h];simp [e2]
  obtain ⟨zE, h1, h2⟩ := ih hn2.2;refine ⟨x :: zE, ?_, fun k => ?_⟩
  ·simp only [og, cG, xN] at h1 ⊢;rw [ae (fun e => hx e.symm), h1]
  have h3 := h2 k;unfold xK at h3 ⊢;simp only [Nd]
  by_cases h : x.1 = k
  ·have e1 : (x.1 == k) = true := by simpa using h
   have : ¬ k = n := fun e => hx (h.trans e)
   simp [e1, this]
  have e1 : (x.1 == k) = false := by simpa using h
  simp only [e1];exact h3
theorem yY {m : Nat} {kv : KV} {G : Gh} {L R : List az} {w : World} (hw : ar G L w) (hp : dg (cX m kv) L R) : (kv.map (·.1)).Nodup := by
 obtain ⟨es, ck, hf, _⟩ := qp (hw.pick hp);exact hf.keys
theorem Ui.len {x : Vw} {m : ZS} (h : Ui x m) : m.ws.length = x.was.length := by have := congrArg List.length h.ws; simpa using this
section
variable {G : Gh} {L R : List az} {w : World}
theorem pN {vq b : Nat} {mk n : Int} {x : Vw} (hw : ar G (sH vq b mk x :: L) w) (dm : x.was.length <= 1000000000000) :
  Calls prog 165 #[pQ vq, pQ b, iQ n] w (dv fun r w' => r = .tuple #[] /\ ar G (sH vq b mk (x.note n) :: L) w') := by
 obtain ⟨m, hf, hw⟩ := jB hw;have hlen := hf.len;obtain ⟨p0, b0, S4, hb0, kP, hlk, hS, hZ, -⟩ := DX hf.f n hw (L := QX vq b mk x m L) pK;refine al (args := [_, _, _]) func165 rfl ntmps165 rfl rfl ?_;refine z5 ?_;refine lD dt hw ?_;refine z1 ?_;refine Z1 (v0 := gQ p0.cells) (b0 := b0) rfl dP kY oL rfl rfl hw pK S4 hb0 ?_;refine z3 ?_;refine aN rfl bf hw rfl fun w b6 hw => ?_;refine aL (cs := p0.cells) (l' := p0.cells) rfl tV rfl rfl ad rfl kP hw pK (by simp [bm.cells]) rfl rfl fun w hw => ?_;refine z2 ?_;refine bu [0, 1, 2, 3, 4, 5, 6, 7, 8, 9, 10, 11, 12, 13] bK kR ?_;replace hw := hw.drawn (w.drawn + 1);refine z4 ?_;refine lD g8 hw ?_;refine z1 ?_;refine lA ad hw ?_;refine z1 ?_;refine aQ (v := gQ (rY (n, p0, b0))) rfl rfl (fun w => kR) ?_;refine vA rfl nR tI zH dM rfl rfl rfl hw (fun w b26 hw q' hq => ?_) fun w b26 hw => ?_
 ·
  have hq := a9 (l := [4]) kR hq;simp only [bB, cW, or_false] at hq;subst hq;exact aV rfl rfl rfl (aj.bx g8 hw pK rfl)
 refine gP (m := m.ws.length) (k := 1) (news := rY (n, p0, b0)) rfl nR tI J9 zH rfl rfl hw pK (Rd.nP hw pK) rfl (by intro u hu; unfold rY at hu; rcases bB.1 hu with rfl | hu; rfl; rcases eu.1 hu with hu | hu; exact kP u hu; simp at hu; subst hu; rfl) mL oM kR (fun w Xj hw => ?_);obtain ⟨va, vc, rfl⟩ := aM hw;refine z2 ?_;refine bS (l' := [_, _]) rfl tV rfl rfl g8 rfl hw pK rfl rfl kR fun w hw => ?_;refine aH ?_;have hz := (hw.b [ag b6 _ _, ag b26 _ _, ag b _ _, row 212 _ _ _ _, ag vq _ _]).tail.tail;refine j7 rfl rfl ⟨rfl, gK (x := x.note n) (m := ⟨m.m, .slice va (m.ws.length + 1) vc, m.ws ++ [(n, p0, b0)]⟩) ⟨hf.f, ?_, ?_⟩ ?_⟩
 ·show (m.ws ++ [(n, p0, b0)]).map pA = x.was ++ [(n, x.v.on n)]
  rw [il, hf.ws, <-hlk]; rfl
 ·intro y hy;rcases eu.1 hy with hy | hy
  ·exact hf.Us y hy
  simp at hy; subst hy; exact ⟨hS, hZ⟩
 have e : ((m.ws ++ [(n, p0, b0)]).map rY).flatten = (m.ws.map rY).flatten ++ rY (n, p0, b0) := by simp
 unfold QX;simp only [e, cj, jt];exact hz
theorem mE {vq b : Nat} {mk n : Int} {x : Vw} {p : bm} (hw : ar G (sH vq b mk x :: aR p :: L) w) (hp : p.Sm) (dm : x.was.length <= 1000000000000) :
  Calls prog 144 #[pQ vq, pQ b, iQ n, gQ p.cells] w (dv fun r w' => r = .tuple #[] /\ ar G (sH vq b mk (x.put n (some p.pg)) :: L) w') := by
 refine al (args := [_, _, _, _]) func144 rfl ntmps144 rfl rfl ?_;refine z2 ?_;refine bE rfl rfl rfl hw rfl fun w b7 hw => ?_;refine z6 ?_;refine an rfl o5 rfl (pN (n := n) (hw.b [sH vq b mk x]) dm) rfl fun w v11 hv => ?_;obtain ⟨rfl, hw⟩ := hv;obtain ⟨m, hf, hw⟩ := jB hw;refine aH ?_;refine bu [0, 1, 2, 3, 4, 5, 6] bK kR ?_;replace hw := hw.drawn (w.drawn + 1);refine z3 ?_;refine lD dt hw ?_;refine z1 ?_;refine lA ad hw ?_;refine Ru rfl tV dP kY rfl rfl rfl hw pK kR fun w hw => ?_;refine aH ?_;obtain ⟨zE, xr, sg⟩ := OJ (on := m.m.on) (n := n) (p := p);rw [<-xr] at hw;have hz := (hw.b [pI m.m.S, aR p]).lM;have e : m.m.S.map aR ++ [aR p] = (m.m.S ++ [p]).map aR := by simp
 rw [e] at hz;have hz := (hz.b [ag b7 _ _, ag b _ _, row 212 _ _ _ _, ag vq _ _, cX _ _, aT ((m.m.S ++ [p]).map aR), row 170 _ _ _ _, aT _, gZ _ _]).tail;refine j7 rfl rfl ⟨rfl, gK (x := x.put n (some p.pg)) (m := ⟨⟨m.m.q, m.m.om, m.m.av, zE, m.m.S ++ [p], m.m.fu⟩, m.sv, m.ws⟩) ⟨⟨?_, ?_, ?_, hf.f.fu, ?_⟩, hf.ws, ?_⟩ hz⟩
 ·intro k
  show (xK zE k).map bm.pg = rz x.v.on n (some p.pg) k
  rw [sg]; unfold rz;split
  ·rfl
  exact hf.f.on k
 ·intro k q hq;rw [sg] at hq;split at hq
  ·simp at hq; subst hq; exact qV _ (Jj.2 rfl)
  exact oT _ (hf.f.Ih k q hq)
 ·intro q hq;rcases eu.1 hq with hq | hq
  ·exact hf.f.sm q hq
  simp at hq; subst hq; exact hp
 ·exact fun a ha y hy => (hf.f.HP a ha y hy).app _
 exact fun y hy => (hf.Us y hy).app _
theorem pO {vq b : Nat} {mk n : Int} {x : Vw} (hw : ar G (sH vq b mk x :: L) w) (aJ : x.v.po.Ok) (dm : x.was.length <= 1000000000000) :
  Calls prog 132 #[pQ vq, pQ b, iQ n] w (dv fun r w' => r = .tuple #[] /\ ar G (sH vq b mk (x.free n) :: L) w') := by
 obtain ⟨m, hf, hw⟩ := jB hw;refine al (args := [_, _, _]) func132 rfl ntmps132 rfl rfl ?_;refine z5 ?_;refine lD bp hw ?_;refine z1 ?_;refine an rfl fI rfl (ur (n := n) (hw.b [gZ m.m.q x.v.po]) aJ) rfl fun w v11 hv => ?_;obtain ⟨rfl, hw⟩ := hv;have hw := gK hf (hw.b [ag b _ _, row 212 _ _ _ _, ag vq _ _, cX _ _, pI _, row 170 _ _ _ _, aT (m.m.fu.map kM), gZ _ _]);refine z2 ?_;refine aS rfl (fun h1 => ?_) fun h1 => ?_
 ·
  have Bb : x.free n = x.put n none := by unfold Vw.free Va.st; rw [ah h1]
  refine z5 ?_;refine an rfl o5 rfl (pN (n := n) hw dm) rfl fun w v16 hv => ?_;obtain ⟨rfl, hw⟩ := hv;clear hf;obtain ⟨m, hf, hw⟩ := jB hw;have GQ := yY hw (m := m.m.om) (kv := og m.m.on) pK;refine z5 ?_;refine lD dt hw ?_;refine z1 ?_;refine Rw rfl tV rfl dP kY rfl rfl hw pK rfl fun w hw => ?_;refine aH ?_;obtain ⟨zE, xr, sg⟩ := Jq GQ (n := n);rw [<-xr] at hw;rw [Bb];have hz := hw.b [ag b _ _, row 212 _ _ _ _, ag vq _ _];refine j7 rfl rfl ⟨rfl, gK (x := x.put n none) (m := ⟨⟨m.m.q, m.m.om, m.m.av, zE, m.m.S, m.m.fu⟩, m.sv, m.ws⟩) ⟨⟨?_, ?_, hf.f.sm, hf.f.fu, hf.f.HP⟩, hf.ws, hf.Us⟩ hz⟩
  ·intro k
   show (xK zE k).map bm.pg = rz x.v.on n none k
   rw [sg]; unfold rz;split
   ·rfl
   exact hf.f.on k
  intro k q hq;rw [sg] at hq;split at hq
  ·cases hq
  exact hf.f.Ih k q hq
 have Bb : x.free n = x := by unfold Vw.free Va.st; rw [ae h1]
 refine eH ?_;exact j7 rfl rfl ⟨rfl, by rw [Bb]; exact hw⟩
end
def acT (l : List DP) (k : Nat) (args : List Value) (_ : List az) : Prop := ∃ x, l[l.length - 1 - k]? = some x /\ args = [iQ ((l.length : Int) - 1 - k), gQ (rY x)]
theorem RA {S : List bm} {y : DP} (h : GF S y) (hs : ∀ p ∈ S, p.Sm) {G : Gh} {L R : List az} {w : World} (hw : ar G L w) (hp : dg (pI S) L R) : jN (rY y) := by
 have hc : jN y.2.1.cells := by
  cases hb : y.2.2 with
  | true => exact cF (Bm (h.1 hb) (hs _ (h.1 hb)) hp) hw
  | false => rw [h.2 hb]; exact bF
 intro u hu;unfold rY at hu;rcases bB.1 hu with rfl | hu
 ·rfl
 rcases eu.1 hu with hu | hu
 ·exact hc u hu
 simp at hu; subst hu; rfl
def rR (V : Va) (was : List (Int × Option Pg)) (k : Nat) : Va := { V with on := yL V.on (was.drop (was.length - k)) }
theorem N4 {V : Va} {was : List (Int × Option Pg)} {k : Nat} {x : Int × Option Pg} (hk : k < was.length) (hx : was[was.length - 1 - k]? = some x) : rR V was (k + 1) = { V with on := rz (rR V was k).on x.1 x.2 } := by
 unfold rR;have h1 : was.length - (k + 1) = was.length - 1 - k := oM;rw [h1, dG hx, show was.length - 1 - k + 1 = was.length - k by omega];rfl
abbrev Zd (vq : Nat) (V : Va) (m : N9) (L : List az) : List az := ag vq (Wh m.q m.om m.av V.vf) 38 :: cX m.om (og m.on) :: pI m.S :: gZ m.q V.po :: L
structure W6 (V : Va) (m : N9) : Prop where
 on : ∀ n, (xK m.on n).map bm.pg = V.on n
 Ih : ∀ n p, xK m.on n = some p -> p ∈ m.S
 sm : ∀ p ∈ m.S, p.Sm
theorem Wc.g {V : Va} {m : N9} (h : Wc V m) : W6 V m := ⟨h.on, h.Ih, h.sm⟩
abbrev ZK (vq b2 : Nat) (V : Va) (m : N9) : az := ex fun on : List (Int × bm) => dH (W6 V { m with on := on }) (aT (ag b2 [pQ vq] 28 :: Zd vq V { m with on := on } []))
theorem D9 {vq b2 : Nat} {V : Va} {m : N9} {G : Gh} {L : List az} {w : World} (h : ar G (ZK vq b2 V m :: L) w) : ∃ on, W6 V { m with on := on } /\ ar G (ag b2 [pQ vq] 28 :: Zd vq V { m with on := on } L) w := by
 obtain ⟨on, h⟩ := h.iv;obtain ⟨hf, h⟩ := h.dx;exact ⟨on, hf, h.cD⟩
theorem A2 {vq b2 : Nat} {V : Va} {m : N9} {on : List (Int × bm)} {G : Gh} {L : List az} {w : World} (hf : W6 V { m with on := on }) (h : ar G (ag b2 [pQ vq] 28 :: Zd vq V { m with on := on } L) w) : ar G (ZK vq b2 V m :: L) w :=
 ar.jq on (ar.iR hf (ar.bH (M := ag b2 [pQ vq] 28 :: Zd vq V { m with on := on } []) h))
section
variable {G : Gh} {L R : List az} {w : World}
theorem ll {a : Option Addr} {n c : Nat} (hw : ar G L w) : Calls prog 141 #[.slice a n c] w (dv fun r w' => ∃ b1, r = .func (.func 172) #[] #[pQ b1] /\ ar G (ag b1 [.slice a n c] 168 :: L) w') := by
 refine al (args := [_]) func141 rfl ntmps141 rfl rfl ?_;refine z2 ?_;refine bE rfl rfl rfl hw rfl fun w b1 hw => ?_;refine z4 ?_;refine mO (v1 := #[]) (v2 := #[pQ b1]) rfl (by intro z hz; simp at hz; subst hz; exact ⟨_, rfl⟩) sM (by simp only [oS, cG, j3]; rfl) ?_;refine z3 ?_;exact br rfl rfl rfl ⟨b1, rfl, hw⟩
theorem De {l : List DP} {v : Value} {b1 : Nat} (kl : aX L (gC 7 v (l.map rY))) (oW : l.length <= 10000000000000) : A8 prog 172 [pQ b1] G (ag b1 [v] 168 :: L) w l.length (acT l) (ag b1 [v] 168 :: L) := by
 intro lq J Jx w hy hw;obtain ⟨sa, sc, h1, -, -⟩ := ((kl.of sF).at hw).form;rw [bA] at h1;subst h1;refine al (args := [_, _]) func172 rfl ntmps172 rfl rfl ?_;refine z2 ?_;refine lD g8 hw ?_;refine dQ rfl kR nR rfl ?_;refine z1 ?_;have e0 : (l.length : Int) - 1 = (l.length : Int) - 1 - (0 : Nat) := by simp
 rw [e0];refine z3 ?_;refine cO (fun m e w => ∃ k : Nat, k <= l.length /\ m = l.length - k /\ e = [(0, .func (.yield lq) #[] #[]), (1, pQ b1), (3, iQ ((l.length : Int) - 1 - k))] /\ ar G (J k :: ag b1 [.slice sa l.length sc] 168 :: L) w)
  (m := l.length) sB
  ⟨0, fo _, rfl, rfl, hw⟩ ?_
 rintro m e w ⟨k, hk, rfl, rfl, hw⟩;refine z6 ?_;refine aS rfl (fun h1 => ?_) fun h1 => ?_
 ·
  have nS : k < l.length := oM;obtain ⟨x, hx⟩ : ∃ x, l[l.length - 1 - k]? = some x := ⟨_, cV oM⟩;have vu : (l.map rY)[l.length - 1 - k]? = some (rY x) := by rw [dB, hx]; rfl
  obtain ⟨bb, oo, rfl⟩ := ((kl.of sF).at hw).nn (by rw [bA]; omega);have hi : ((l.length : Int) - 1 - k).toNat = l.length - 1 - k := oM;refine z7 ?_;refine lD g8 hw ?_;refine z1 ?_;refine dD rfl nR tI rfl rfl ⟨oM, oM⟩ ?_;refine bt rfl rfl (aj.many vT rfl (by rw [hi]; exact ((kl.of sF).at hw).at vu)) ?_;refine p9 rfl rfl rfl (hy k _ _ w nS ⟨x, hx, rfl⟩ hw) rfl fun w Xl hv => ?_;obtain ⟨bq, rfl, ue, Be⟩ := oN hv;refine nY rfl rfl ?_;refine aH ?_;refine fm rfl (fun h2 => ?_) fun h2 => ?_
  ·
   refine rm ?_;exact j7 rfl rfl (.inr (Be (by simpa using h2)))
  refine z6 ?_;have hw := ue (by simpa using h2);refine ⟨l.length - (k + 1), oM, [(0, _), (1, _), (3, iQ ((l.length : Int) - 1 - (k + 1 : Nat)))], ?_, k + 1, oM, rfl, rfl, hw⟩;rw [show ((l.length : Int) - 1 - (k + 1 : Nat)) = (l.length : Int) - 1 - k - 1 by omega];exact sB
 refine z1 ?_;exact j7 rfl rfl (.inl (by
 have wg : k = l.length := oM;subst wg; exact hw))
theorem pR {vq : Nat} {V : Va} {m : N9} {mk : Int} {sv : Value} {ws : List DP} (hw : ar G (Zd vq V m L) w) (hf : W6 V m) (kw : aX L (gC 7 sv (ws.map rY))) (Iw : ∀ y ∈ ws, GF m.S y) (oW : ws.length <= 10000000000000) (aJ : V.po.Ok) (MS : 0 <= V.po.pf /\ V.po.pf + V.po.pa.length <= 1000000000000000) (GR : V.po.pf <= mk /\ mk <= V.po.mark) :
  Calls prog 81 #[pQ vq, .agg #[iQ mk, sv]] w (dv fun r w' => r = .tuple #[] /\ ∃ on, W6 (V.back mk (ws.map pA)) { m with on := on } /\ ar G (Zd vq (V.back mk (ws.map pA)) { m with on := on } L) w') := by
 obtain ⟨sa, sc, Qm, -, -⟩ := (kw.at (by (repeat replace hw := hw.tail); exact hw)).form;subst Qm;rw [bA] at *;refine al (args := [_, _]) func81 rfl ntmps81 rfl rfl ?_;refine z2 ?_;refine bE rfl rfl rfl hw rfl fun w b2 hw => ?_;refine bE rfl rfl rfl hw rfl fun w b3 hw => ?_;refine z2 ?_;refine bu [0, 1, 2, 3, 4, 5, 6] bK kR ?_;replace hw := hw.drawn (w.drawn + 1);refine lD au hw ?_;refine z2 ?_;refine lD bp hw ?_;refine z1 ?_;refine lD ai hw ?_;refine an rfl zz rfl (AN (mk := mk) (hw.b [gZ m.q V.po]) aJ MS) kR fun w v12 hv => ?_;have hv := hv.resolve_left (fun h => h.1 GR);obtain ⟨-, -, rfl, hw⟩ := hv;refine z4 ?_;refine lD g8 hw ?_;refine an rfl k6 rfl (ll hw) rfl fun w Uv hv => ?_;obtain ⟨b1, rfl, hw⟩ := hv;refine z2 ?_;obtain ⟨V1, Dl⟩ : ∃ V1 : Va, V1 = { V with po := V.po.GX (mk - V.po.pf).toNat } := ⟨_, rfl⟩;have hfV : W6 V1 { m with on := m.on } := by rw [Dl]; exact ⟨hf.on, hf.Ih, hf.sm⟩
 have hlw : (ws.map pA).length = ws.length := bA ..;have hz := hw.b [ag b2 _ _, ag vq _ _, cX _ _, pI _, gZ _ _, ag b1 _ _, ag b3 _ _];clear hw;have A9 : W6 (rR V1 (ws.map pA) 0) { m with on := m.on } := by
  have : rR V1 (ws.map pA) 0 = V1 := by unfold rR; rw [Nat.sub_zero, PN]; rfl
  rw [this]; exact hfV
 have hw : ar G (ZK vq b2 (rR V1 (ws.map pA) 0) m :: ag b1 _ 168 :: ag b3 _ 170 :: L) w := A2 A9 (by
  have : rR V1 (ws.map pA) 0 = V1 := by unfold rR; rw [Nat.sub_zero, PN]; rfl
  rw [this, Dl]; exact hz)
 refine ru (e₀ := [(2, pQ b2)]) (fun k => ZK vq b2 (rR V1 (ws.map pA) k) m) (fun _ => False) [] rfl kE rfl sG rfl hw (fun k args M h => by obtain ⟨x, _, rfl⟩ := h; rfl) (De (l := ws) (kw.of sF) oW) ?_ ?_ ?_ ?_
 ·
  clear hw;intro l D1 o k args M w hk pD hw;obtain ⟨x, hx, rfl⟩ := pD;obtain ⟨on, L2, hw⟩ := D9 hw;have GQ := yY hw (m := m.om) (kv := og on) pK;have ot := Iw x (ed hx);have hxp : (ws.map pA)[(ws.map pA).length - 1 - k]? = some (pA x) := by rw [hlw, dB, hx]; rfl
  have gD := N4 (V := V1) (by rw [hlw]; exact hk) hxp;refine z1 ?_;refine aN rfl Kx hw rfl fun w b5 hw => ?_;refine aL (cs := rY x) (l' := rY x) rfl tV rfl rfl vT rfl (RA ot hf.sm hw pK) hw pK (by simp [rY, bm.cells]) rfl rfl fun w hw => ?_;refine aH ?_;refine ⟨_, hw.pick (A := pt l o) pK, fun o' w hw => ?_⟩;refine z4 ?_;refine lD (v := .bool x.2.2) cr hw ?_;refine aH ?_;refine fm rfl (fun h1 => ?_) fun h1 => ?_
  ·
   refine bu [0, 1, 2, 3, 4, 5, 6, 7, 8] bK kR ?_;replace hw := hw.drawn (w.drawn + 1);refine lD au hw ?_;refine z2 ?_;refine lD dt hw ?_;refine z1 ?_;refine lD (v := iQ x.1) ai hw ?_;refine z1 ?_;refine bt rfl rfl (aj.Kb (cs := x.2.1.cells) ad hw pK rfl rfl) ?_;refine Ru rfl tV dP kY rfl rfl rfl hw pK kR fun w hw => ?_;refine aH ?_;obtain ⟨zE, xr, sg⟩ := OJ (on := on) (n := x.1) (p := x.2.1);rw [<-xr] at hw;have hz := (hw.b [ag b5 _ _, ag b2 _ _, ag vq _ _, cX _ _, pI _, gZ _ _]).tail;refine A2 (on := zE) ⟨?_, ?_, hf.sm⟩ (by rw [gD]; exact hz)
   ·intro n;rw [gD]
    show (xK zE n).map bm.pg = rz (rR V1 (ws.map pA) k).on x.1 (pA x).2 n
    rw [sg]; unfold rz pA;split
    ·first | rfl | (rw [h1]; rfl) | (rw [ah h1]; rfl)
    exact L2.on n
   intro n q hq;have hq : xK zE n = some q := hq;rw [sg] at hq;split at hq
   ·simp at hq; subst hq; exact ot.1 h1
   exact L2.Ih n q hq
  refine bu [0, 1, 2, 3, 4, 5, 6] bK kR ?_;replace hw := hw.drawn (w.drawn + 1);refine lD au hw ?_;refine z2 ?_;refine lD dt hw ?_;refine z1 ?_;refine lD (v := iQ x.1) ai hw ?_;refine Rw rfl tV rfl dP kY rfl rfl hw pK kR fun w hw => ?_;refine aH ?_;obtain ⟨zE, xr, sg⟩ := Jq GQ (n := x.1);rw [<-xr] at hw;have hz := (hw.b [ag b5 _ _, ag b2 _ _, ag vq _ _, cX _ _, pI _, gZ _ _]).tail;refine A2 (on := zE) ⟨?_, ?_, hf.sm⟩ (by rw [gD]; exact hz)
  ·intro n;rw [gD]
   show (xK zE n).map bm.pg = rz (rR V1 (ws.map pA) k).on x.1 (pA x).2 n
   rw [sg]; unfold rz pA;split
   ·simp [h1]
   exact L2.on n
  intro n q hq;have hq : xK zE n = some q := hq;rw [sg] at hq;split at hq
  ·cases hq
  exact L2.Ih n q hq
 ·
  clear hw;intro D1 w hw;obtain ⟨on, L2, hw⟩ := D9 hw;have BP : rR V1 (ws.map pA) ws.length = V.back mk (ws.map pA) := by unfold rR; rw [hlw, Ab, List.drop_zero, Dl]; rfl
  rw [BP] at L2 hw;have hz := (hw.b [ag b2 _ _, dY D1, ag b1 _ _, ag b3 _ _]);refine bX rfl ?_;refine iq hw pK fun w hw => ?_;exact y7 rfl ⟨rfl, on, L2, by
 have hz := (hw.b [ag b2 _ _, ag b1 _ _, ag b3 _ _]).tail.tail.tail;exact hz⟩
 ·
  clear hw; intro D w hw; exact (iA hw).elim fun _ h => h.1.elim
 intro id A hA; cases hA
end
def Va.pop (V : Va) : Va := match V.va.getLast? with
 | some a => { V.back a.1 a.2 with va := V.va.dropLast }
 | none => V
def Va.popN : Nat -> Va -> Va
 | 0, V => V
 | k + 1, V => V.pop.popN k
structure Va.Km (V : Va) : Prop where
 po : V.po.Ok
 pf : 0 <= V.po.pf
 vf : 0 <= V.vf
 on : ∀ n p, V.on n = some p -> bD p = 0
 th : ∀ n, V.po.bw n ≠ 0 -> V.on n ≠ none
 mrk : ∀ a, V.va.getLast? = some a -> V.po.pf <= a.1 /\ a.1 <= V.po.mark
 wl : ∀ a ∈ V.va, a.2.length <= 1000000000000
structure Va.Ok (V : Va) : Prop extends Va.Km V where
 NN : ∀ k, k <= V.va.length -> (V.popN k).Km
def Va.sz (V : Va) : Int := V.po.pf + V.po.pa.length + V.vf + V.va.length
def Va.done (V0 : Va) (x : Vw) : Va := { x.v with va := x.v.va ++ [(V0.po.mark, x.was)] }
def Va.mark (V : Va) : Int := V.vf + V.va.length
theorem Wc.len {V : Va} {m : N9} (h : Wc V m) : m.fu.length = V.va.length := by have := congrArg List.length h.fu; simpa using this
theorem Ui.act {x : Vw} {m : ZS} (h : Ui x m) (n b : Int) : Ui (x.act n b) m := ⟨⟨h.f.on, h.f.Ih, h.f.sm, h.f.fu, h.f.HP⟩, h.ws, h.Us⟩
theorem lx.Wp {V : Va} {x : Vw} (h : lx V x) : V.po.pf <= x.v.po.pf /\ V.po.pf + V.po.pa.length <= x.v.po.mark /\ x.v.po.pf <= V.po.mark := by
 obtain ⟨more, h1, _⟩ := h.pa;unfold Po.mark;rw [h.pf, h1, cj]; omega
theorem Va.F2 {V : Va} {x : Vw} (hg : lx V x) : (V.done x).pop = V := by
 have hb := hg.back;have h1 : (V.done x).va.getLast? = some (V.po.mark, x.was) := by unfold Va.done; simp
 unfold Va.pop;rw [h1];simp only;have h2 : (V.done x).va.dropLast = V.va := by unfold Va.done; simp [hg.va]
 rw [h2];have h3 : (V.done x).back V.po.mark x.was = { x.v.back V.po.mark x.was with va := (V.done x).va } := rfl;rw [h3, hb]
theorem Va.D5 {V : Va} {x : Vw} (aJ : V.Ok) (hg : lx V x) (hb : (V.done x).Km) : (V.done x).Ok := ⟨hb, fun k hk => by
 cases k with
 | zero => exact hb
 | succ k =>
  show ((V.done x).pop.popN k).Km
  rw [Va.F2 hg];refine aJ.NN k ?_;unfold Va.done at hk;simp only [cj, jt] at hk
  rw [hg.va] at hk; omega⟩
theorem RB {sv : Value} {ws : List DP} {R : List az} : aX (row 212 7 sv ws.length (ws.map rY).flatten :: R) (gC 7 sv (ws.map rY)) := (gC.row sM (Xi ws)).head R
section
variable {G : Gh} {L R : List az} {w : World}
theorem gE {vq : Nat} {V : Va} {fn : Nat} {caps : Array Value} {Q : Int -> Vw -> List az -> Prop} (hw : ar G (aZ vq V :: L) w) (aJ : V.Ok) (dm : V.sz <= 1000000000000) (Qx : aw prog fn)
  (hq : ∀ w b, ar G (sH vq b V.po.mark ⟨V, []⟩ :: L) w -> Calls prog fn (pQ b :: caps.toList).toArray w (dv fun r w' => ∃ e x L', r = iQ e /\ lx V x /\ x.v.po.Ok /\ x.v.sz <= 1000000000000000 /\ x.was.length <= 1000000000000 /\ Q e x L' /\ ar G (sH vq b V.po.mark x :: L') w')) :
  Calls prog 70 #[pQ vq, .func (.func fn) #[] caps] w (dv fun r w' => ∃ e x L', r = iQ e /\ lx V x /\ Q e x L' /\ ((e ≠ 0 /\ ar G (aZ vq V :: L') w') \/ (e = 0 /\ ar G (aZ vq (V.done x) :: L') w'))) := by
 obtain ⟨m, hf, hw⟩ := lg hw;have MS : 0 <= V.po.pf /\ V.po.pf + V.po.pa.length <= 1000000000000000 := ⟨aJ.pf, by have := aJ.vf; unfold Va.sz at dm; omega⟩;refine al (args := [_, _]) func70 rfl ntmps70 rfl rfl ?_;refine z9 ?_;refine lD bp hw ?_;refine an rfl mI rfl (Mj (hw.b [gZ m.q V.po]) MS) rfl fun w v11 hv => ?_;obtain ⟨rfl, hw⟩ := hv;refine aQ (v := .agg #[iQ V.po.mark, nQ]) rfl rfl (fun w => kR) ?_;refine aN rfl Ky hw rfl fun w b5 hw => ?_;refine aL (cs := [iQ V.po.mark, nQ]) (l' := [iQ V.po.mark, nQ]) rfl tV rfl rfl nv rfl (by intro u hu; simp at hu; rcases hu with rfl | rfl <;> rfl) hw pK sM rfl rfl (fun w hw => ?_);have hz := (cf hw 212 7).b [ag b5 _ _, row 212 _ _ _ _, ag vq _ _, cX _ _, pI _, row 170 _ _ _ _, aT (m.fu.map kM), gZ _ _];have hw := gK (x := ⟨V, []⟩) (m := ⟨m, nQ, []⟩) ⟨hf, rfl, (fun y hy => by cases hy)⟩ hz;refine z5 ?_;refine iN rfl rfl Qx rfl rfl (hq _ _ hw) rfl fun w QY hv => ?_;clear hf hw hz;obtain ⟨e, x, L', rfl, hg, ot, NC, hxw, hQ, hw⟩ := hv;obtain ⟨m', hf, hw⟩ := jB hw;have hlen := hf.len;have kA := hg.Wp;have Vi : x.v.po.pf + x.v.po.pa.length <= 1000000000000000 /\ m'.m.fu.length <= 1000000000000 /\ 0 <= x.v.po.pf := by
  have h1 := hf.f.len;have h2 := hg.va;have h3 := hg.vf;have h4 := aJ.vf;have h5 := aJ.pf;rw [h2] at h1;unfold Va.sz at NC dm
  omega
 refine z7 ?_;refine aS rfl (fun h1 => ?_) fun h1 => ?_
 ·
  refine z3 ?_;refine lA nv hw ?_;refine an rfl o8 rfl (pR (V := x.v) (m := m'.m) (mk := V.po.mark) (ws := m'.ws) (hw.b [ag vq _ _, cX _ _, pI _, gZ _ _, row 212 _ _ _ _]) hf.f.g RB hf.Us oM ot ⟨Vi.2.2, Vi.1⟩ ⟨kA.2.2, kA.2.1⟩) rfl fun w RD hv => ?_;obtain ⟨rfl, on, MX, hw⟩ := hv;rw [hf.ws, hg.back] at MX hw;refine z7 ?_;exact br rfl rfl rfl ⟨e, x, L', rfl, hg, hQ, .inl ⟨h1, ie (m := { m'.m with on := on }) ⟨MX.on, MX.Ih, MX.sm, by rw [<-hg.va]; exact hf.f.fu, hf.f.HP⟩ (by
 have hz := (hw.b [row 212 _ _ _ _, ag b5 _ _, ag vq _ _, cX _ _, pI _, row 170 _ _ _ _, aT (m'.m.fu.map kM), gZ _ _]).tail.tail;exact hz)⟩⟩
 have h1 : e = 0 := cJ.1 h1;subst h1;obtain ⟨sa, sc, Qm⟩ := aM (hw.pick (A := row 212 7 m'.sv _ _) pK);have abN : m'.sv.oneCell' = true := by rw [Qm]; rfl
 refine z2 ?_;refine bu [0, 1, 2, 3, 4, 5, 6, 7, 8, 9, 10] bK kR ?_;replace hw := hw.drawn (w.drawn + 1);refine z4 ?_;refine lD ez hw ?_;refine lA nv hw ?_;refine vA rfl jM tJ zI dM rfl rfl rfl hw (fun w b27 hw q' hq => ?_) fun w b27 hw => ?_
 ·
  have hq := a9 (l := [4]) kR hq;simp only [bB, cW, or_false] at hq;subst hq;exact aV rfl rfl rfl (aj.bx ez hw pK rfl)
 refine gP (m := m'.m.fu.length) (k := 1) (news := [iQ V.po.mark, m'.sv]) rfl jM tJ J' zI rfl rfl hw pK (Rd.nP hw pK) rfl (by intro u hu; simp at hu; rcases hu with rfl | rfl; rfl; exact abN) mL oM kR (fun w v28 hw => ?_);obtain ⟨va, vc, rfl⟩ := aM hw;refine z2 ?_;refine bS (l' := [_, _, _, _]) rfl tV rfl rfl ez rfl hw pK rfl rfl kR fun w hw => ?_;refine z6 ?_;have hz := (hw.b [aT (m'.m.fu.map kM), row 212 _ _ _ _]).lM;have hz := (hz.b [ag b27 _ _, ag b5 _ _, ag vq _ _, cX _ _, pI _, row 170 _ _ _ _]).tail.tail;refine br rfl rfl rfl ⟨0, x, L', rfl, hg, hQ, .inr ⟨rfl, ie (V := V.done x) (m := ⟨m'.m.q, m'.m.om, .slice va (m'.m.fu.length + 1) vc, m'.m.on, m'.m.S, m'.m.fu ++ [(V.po.mark, m'.sv, m'.ws)]⟩) ⟨hf.f.on, hf.f.Ih, hf.f.sm, ?_, ?_⟩ ?_⟩⟩
 ·show (m'.m.fu ++ [(V.po.mark, m'.sv, m'.ws)]).map MI = x.v.va ++ [(V.po.mark, x.was)]
  rw [il, hf.f.fu, <-hf.ws]; rfl
 ·intro a ha y hy;rcases eu.1 ha with ha | ha
  ·exact hf.f.HP a ha y hy
  simp at ha; subst ha; exact hf.Us y hy
 have e1 : ((m'.m.fu ++ [(V.po.mark, m'.sv, m'.ws)]).map Ci).flatten = (m'.m.fu.map Ci).flatten ++ Ci (V.po.mark, m'.sv, m'.ws) := by simp
 have e2 : (m'.m.fu ++ [(V.po.mark, m'.sv, m'.ws)]).map kM = m'.m.fu.map kM ++ [kM (V.po.mark, m'.sv, m'.ws)] := by simp
 unfold Ze;simp only [e1, e2, cj, jt];exact hz
theorem fH {vq : Nat} {V : Va} (hw : ar G (aZ vq V :: L) w) (Vk : 0 <= V.vf /\ V.vf + V.va.length <= 1000000000000000) : Calls prog 42 #[pQ vq] w (dv fun r w' => r = iQ V.mark /\ ar G (aZ vq V :: L) w') := by
 obtain ⟨m, hf, hw⟩ := lg hw;have hlen := hf.len;obtain ⟨aa, ac, CS⟩ := aM (hw.pick (A := row 170 2 m.av m.fu.length _) pK);refine al (args := [_]) func42 rfl ntmps42 rfl rfl ?_;refine z5 ?_;refine bu [0, 1, 2, 3, 4, 5, 6, 7, 8, 9, 10] bK kR ?_;replace hw := hw.drawn (w.drawn + 1);refine z3 ?_;refine lD (v := iQ V.vf) ai hw ?_;refine z3 ?_;refine bt rfl rfl (aj.bx (v := .slice aa m.fu.length ac) ez hw pK (by rw [<-CS]; rfl)) ?_;refine dQ rfl kR jM rfl ?_;refine z4 ?_;exact br rfl rfl rfl ⟨by rw [hlen]; rfl, ie hf hw⟩
end
abbrev Va.own (V : Va) (n : Int) : Prop := V.st n = 3 /\ V.bw n = 1
def Va.se (V : Va) (p : Pg) (n : Int) : Vw := ((⟨V, []⟩ : Vw).act n 1).put n (some p)
def Va.make (V : Va) (p : Pg) : Int × Int × Va := if bD p ≠ 0 then (0, bD p, V) else match V.po.low with
 | none => (0, 12, V)
 | some n => (n, 0, V.done (V.se p n))
def Va.Oj (V : Va) (n : Int) (p : Pg) : Vw := (⟨V, []⟩ : Vw).put n (some p)
def Va.write (V : Va) (n : Int) (p : Pg) : Int × Va := if ¬ V.own n then (15, V) else if bD p ≠ 0 then (bD p, V) else (0, V.done (V.Oj n p))
theorem xk {P : Po} {n : Int} (h : P.low = some n) : bg P.c n /\ P.st n = 1 /\ ∀ m, P.st m = 1 -> n <= m := by
 rcases Ak (c := P.c) (l := P.l) with ⟨k, h0, h2, h3, h4⟩ | ⟨h0, _⟩
 ·have : k = n := by have := h0.symm.trans h; simpa using this
  subst this; exact ⟨h2, h3, h4⟩
 rw [show P.low = none from h0] at h; cases h
theorem At {P : Po} (aJ : P.Ok) {n : Int} (h : P.st n = 1) : P.bw n = 0 := by
 have hc := aJ.bw n;have Ql : bg P.c n := by
  unfold Po.st rZ at h; split at h
  ·assumption
  cases h
 unfold Po.st at h;rw [zW Ql] at h
 unfold Po.bw at hc ⊢;rw [xw Ql] at hc ⊢
 unfold I9 at h;split at h
 ·split at h <;> cases h
 omega
structure Wk (V : Va) (k : Nat) (x : Vw) : Prop where
 g : lx V x
 ok : x.v.po.Ok
 pa : x.v.po.pa.length <= V.po.pa.length + k
 was : x.was.length <= k
theorem Wk.mono {V : Va} {k j : Nat} {x : Vw} (h : Wk V k x) (hj : k <= j) : Wk V j x := ⟨h.g, h.ok, by have := h.pa; omega, by have := h.was; omega⟩
theorem Wk.refl {V : Va} (h : V.po.Ok) : Wk V 0 ⟨V, []⟩ := ⟨lx.refl V, h, eW _, eW _⟩
theorem Wk.put {V : Va} {k : Nat} {x : Vw} (h : Wk V k x) (n : Int) (p : Option Pg) : Wk V (k + 1) (x.put n p) := ⟨h.g.put n p, h.ok, by have := h.pa; show x.v.po.pa.length <= _; omega, by have := h.was; simp only [Vw.put, cj, jt]; omega⟩
theorem Wk.free {V : Va} {k : Nat} {x : Vw} (h : Wk V k x) (n : Int) : Wk V (k + 1) (x.free n) := by
 unfold Vw.free; split
 ·exact h.put n none
 exact h.mono oM
theorem Wk.act {V : Va} {k : Nat} {x : Vw} (h : Wk V k x) {n b : Int} (hn : bg x.v.po.c n) (hb : b = 1 \/ b = -1) (hc : 0 <= x.v.bw n + b /\ x.v.bw n + b <= x.v.po.refs) : Wk V (k + 1) (x.act n b) := ⟨h.g.act hn, h.ok.act hn hb hc, by have := h.pa; simp only [Vw.act, Po.act, cj, jt]; omega, by have := h.was; show x.was.length <= _; omega⟩
theorem Wk.sz {V : Va} {k : Nat} {x : Vw} (h : Wk V k x) : x.v.sz <= V.sz + k /\ (V.done x).sz <= V.sz + k + 1 := by
 have h1 := h.pa; have h2 := h.g.va; have h3 := h.g.vf; have h4 := h.g.pf;unfold Va.done Va.sz;simp only [cj, jt];rw [h2, h3, h4];omega
structure Wt (x : Vw) : Prop where
 ck : ∀ n p, x.v.on n = some p -> bD p = 0
 th : ∀ n, x.v.po.bw n ≠ 0 -> x.v.on n ≠ none
theorem Wt.refl {V : Va} (h : V.Km) : Wt ⟨V, []⟩ := ⟨h.on, h.th⟩
theorem Wk.base {V : Va} {k : Nat} {x : Vw} (aJ : V.Ok) (h : Wk V k x) (ht : Wt x) (hk : k <= 1000000000000) : (V.done x).Km :=
 ⟨h.ok, by show 0 <= x.v.po.pf; rw [h.g.pf]; exact aJ.pf, by show 0 <= x.v.vf; rw [h.g.vf]; exact aJ.vf, ht.ck, ht.th, fun a ha => by
  have h1 : (V.done x).va.getLast? = some (V.po.mark, x.was) := by unfold Va.done; simp
  rw [h1] at ha; cases ha;have := h.g.Wp;exact ⟨this.2.2, this.2.1⟩, fun a ha => by
  have ha : a ∈ x.v.va ++ [(V.po.mark, x.was)] := ha;rcases eu.1 ha with ha | ha
  ·rw [h.g.va] at ha; exact aJ.wl a ha
  ·simp at ha; subst ha; have := h.was; show x.was.length <= _; omega⟩
theorem Wk.D5 {V : Va} {k : Nat} {x : Vw} (aJ : V.Ok) (h : Wk V k x) (ht : Wt x) (hk : k <= 1000000000000) : (V.done x).Ok := Va.D5 aJ h.g (h.base aJ ht hk)
theorem TD {c : List Int} {n b : Int} (h : bg c n) (m : Int) : iF (dI c n b) m = if m = n then iF c m + b else iF c m := by
 by_cases hm : bg c m
 ·rw [xw (gR.2 hm), xw hm, ql h]
  by_cases e : m = n
  ·rw [ah (by rw [e]), ah e]
  rw [ae (by unfold bg at h hm; omega), ae e]
 have e : ¬ m = n := fun e => hm (by rw [e]; exact h)
 rw [ae e];unfold iF; rw [ae hm, ae (fun h => hm (gR.1 h))]
theorem Kh {x : Vw} {n b : Int} (h : bg x.v.po.c n) (m : Int) : (x.act n b).v.po.bw m = if m = n then x.v.po.bw m + b else x.v.po.bw m := TD h m
theorem Wt.act {x : Vw} (h : Wt x) {n b : Int} (hn : bg x.v.po.c n) (hc : x.v.po.bw n ≠ 0) : Wt (x.act n b) := ⟨h.ck, fun m hm => by
 rw [Kh hn] at hm
 by_cases e : m = n
 ·subst e; exact h.th m hc
 ·rw [ae e] at hm; exact h.th m hm⟩
theorem Wt.abq {x : Vw} (h : Wt x) (n : Int) {p : Pg} (hp : bD p = 0) : Wt (x.put n (some p)) := ⟨fun k q hq => by
  have hq : rz x.v.on n (some p) k = some q := hq;unfold rz at hq;split at hq
  ·cases hq; exact hp
  ·exact h.ck k q hq, fun k hk => by
  show rz x.v.on n (some p) k ≠ none
  unfold rz;split
  ·simp
  ·exact h.th k hk⟩
theorem vR {V : Va} {p : Pg} {n : Int} (aJ : V.Ok) (h : V.po.low = some n) : Wk V 2 (V.se p n) := by
 obtain ⟨h1, h2, _⟩ := xk h;have h3 := At aJ.po h2;have hr := aJ.po.refs;exact ((Wk.refl aJ.po).act h1 (.inl rfl) (by show 0 <= V.po.bw n + 1 /\ V.po.bw n + 1 <= V.po.refs; omega)).put n (some p)
theorem Nn {V : Va} {p : Pg} {n : Int} (aJ : V.Ok) (h : V.po.low = some n) (hp : bD p = 0) : Wt (V.se p n) := ⟨fun k q hq => by
  have hq : rz V.on n (some p) k = some q := hq;unfold rz at hq;split at hq
  ·cases hq; exact hp
  ·exact aJ.on k q hq, fun k hk => by
  have hk : (((⟨V, []⟩ : Vw).act n 1).v.po.bw k) ≠ 0 := hk;rw [Kh (xk h).1] at hk
  show rz V.on n (some p) k ≠ none
  unfold rz;split
  ·simp
  ·rename_i e;rw [ae e] at hk; exact aJ.th k hk⟩
theorem Va.U6 {V : Va} {p : Pg} (aJ : V.Ok) : (V.make p).2.2.Ok := by
 unfold Va.make
 by_cases hc : bD p = 0
 ·rw [ae (fun h => h hc)];cases hl : V.po.low with
  | none => exact aJ
  | some n => exact (vR aJ hl).D5 aJ (Nn aJ hl hc) dM
 rw [ah hc]; exact aJ
theorem Va.U5 {V : Va} {p : Pg} : (V.make p).2.2.sz <= V.sz + 2 := by
 unfold Va.make;split
 ·show V.sz <= _; omega
 split
 ·show V.sz <= _; omega
 simp only [Va.sz, Va.done, Va.se, Vw.act, Vw.put, Po.act, cj, jt];omega
theorem Xh {V : Va} {n : Int} {p : Pg} (aJ : V.Ok) : Wk V 1 (V.Oj n p) := (Wk.refl aJ.po).put n (some p)
section
variable {G : Gh} {L R : List az} {w : World}
theorem AP {q : Nat} {P : Po} (hw : ar G (gZ q P :: L) w) (aJ : P.Ok) (dm : P.pa.length <= 10000000000000) :
  Calls prog 143 #[pQ q] w (dv fun r w' => ∃ n er P', r = .tuple #[iQ n, iQ er] /\ ((P.low = none /\ n = 0 /\ er = 12 /\ P' = P) \/ (P.low = some n /\ er = 0 /\ P' = P.act n 1)) /\ ar G (gZ q P' :: L) w') :=
 ik (zq hw aJ dm) fun v w' hv => by
  rcases hv with ⟨h1, h2, h3⟩ | ⟨n, h1, h2, h3⟩
  ·exact ⟨0, 12, P, h2, .inl ⟨h1, rfl, rfl, rfl⟩, h3⟩
  exact ⟨n, 0, _, h2, .inr ⟨h1, rfl, rfl⟩, h3⟩
theorem vd {vq b b1 b2 b3 : Nat} {mk z : Int} {V : Va} {p : bm} (hw : ar G (sH vq b mk ⟨V, []⟩ :: ag b2 [iQ z] 3 :: ag b1 [pQ vq] 28 :: ag b3 p.cells 75 :: L) w) (hp : p.Ok L) (aJ : V.Ok) (dm : V.sz <= 1000000000000) :
  Calls prog 142 #[pQ b, pQ b1, pQ b2, pQ b3] w (dv fun r w' =>
   (V.po.low = none /\ r = iQ 12 /\ ar G (sH vq b mk ⟨V, []⟩ :: ag b2 [iQ 0] 3 :: ag b1 [pQ vq] 28 :: ag b3 p.cells 75 :: L) w') ∨
   (∃ n, V.po.low = some n /\ r = iQ 0 /\ ar G (sH vq b mk (V.se p.pg n) :: ag b2 [iQ n] 3 :: ag b1 [pQ vq] 28 :: ag b3 p.cells 75 :: L) w')) := by
 obtain ⟨m, hf, hw⟩ := jB hw;have kA : V.po.pa.length <= 10000000000000 := by have := aJ.pf; have := aJ.vf; unfold Va.sz at dm; omega
 refine al (args := [_, _, _, _]) func142 rfl ntmps142 rfl rfl ?_;refine z7 ?_;refine lD au hw ?_;refine z2 ?_;refine lD bp hw ?_;refine an rfl pZ rfl (AP (P := V.po) (hw.b [gZ m.m.q V.po]) aJ.po kA) rfl fun w v11 hv => ?_;obtain ⟨n, er, P', rfl, Fp, hw⟩ := hv;refine z3 ?_;refine bS rfl tV rfl rfl ai rfl hw pK rfl rfl rfl fun w hw => ?_;refine z7 ?_;refine aS rfl (fun h1 => ?_) fun h1 => ?_
 ·
  subst h1;obtain ⟨oF, -, rfl⟩ := Fp.resolve_left (fun h => by cases h.2.2.1);have hz := hw.b [ag b _ _, row 212 _ _ _ _, ag vq _ _, cX _ _, pI _, row 170 _ _ _ _, aT (m.m.fu.map kM), gZ _ _, ag b2 _ _, ag b1 _ _, ag b3 _ _];clear hw;have hw := gK (x := (⟨V, []⟩ : Vw).act n 1) (m := m) (hf.act n 1) hz;refine bu [0, 1, 2, 3, 4, 5] bK kR ?_;replace hw := hw.drawn (w.drawn + 1);refine lD au hw ?_;refine z1 ?_;refine lD ai hw ?_;refine lA ad hw ?_;refine dL rfl lI rfl (mi (p := p) hw (hp.of sF)) (fun w v20 hv q' hq => ?_) fun w v20 hv => ?_
  ·
   obtain ⟨p', rfl, D3, ft, hw⟩ := hv;have hq := a9 (l := [2, 0]) kR hq;simp only [bB, cW, or_false] at hq;rcases hq with rfl | rfl
   ·exact aV rfl rfl rfl (aj.bx ai hw pK rfl)
   exact aV rfl rfl rfl (aj.bx au hw pK rfl)
  obtain ⟨p', rfl, D3, ft, hw⟩ := hv;refine an rfl l6 rfl (mE (p := p') (n := n) (hw.b [sH vq b _ _, aR p']) ft (fo _)) kR fun w Wj hv => ?_;obtain ⟨rfl, hw⟩ := hv;refine z7 ?_;exact br rfl rfl rfl (.inr ⟨n, oF, rfl, by rw [D3] at hw; have hz := hw.b [sH vq b _ _, ag b2 _ _, ag b1 _ _, ag b3 _ _]; exact hz⟩)
 refine z7 ?_;exact br rfl rfl rfl (.inl (by
 obtain ⟨h0, rfl, rfl, rfl⟩ := Fp.resolve_right (fun h => h1 h.2.1);exact ⟨h0, rfl, by
  have hz := hw.b [ag b _ _, row 212 _ _ _ _, ag vq _ _, cX _ _, pI _, row 170 _ _ _ _, aT (m.m.fu.map kM), gZ _ _, ag b2 _ _, ag b1 _ _, ag b3 _ _];exact gK hf hz⟩))
theorem jA {vq : Nat} {V : Va} {p : bm} (hw : ar G (aZ vq V :: L) w) (hp : p.Ok L) (aJ : V.Ok) (dm : V.sz <= 1000000000000) :
  Calls prog 84 #[pQ vq, gQ p.cells] w (dv fun r w' => r = .tuple #[iQ (V.make p.pg).1, iQ (V.make p.pg).2.1] /\ ar G (aZ vq (V.make p.pg).2.2 :: L) w') := by
 refine al (args := [_, _]) func84 rfl ntmps84 rfl rfl ?_;refine z2 ?_;refine bE rfl rfl rfl hw rfl fun w b2 hw => ?_;refine bE rfl rfl rfl hw rfl fun w b3 hw => ?_;refine z6 ?_;refine lA ad hw ?_;refine an rfl wU rfl (yu (p := p) hw (hp.of sF)) rfl fun w v10 hv => ?_;obtain ⟨rfl, hw⟩ := hv;refine z7 ?_;refine aS rfl (fun h1 => ?_) fun h1 => ?_
 ·
  refine z7 ?_;exact eK rfl rfl rfl rfl (by
 have e : V.make p.pg = (0, bD p.pg, V) := by unfold Va.make; rw [ah h1]
 rw [e];exact ⟨rfl, (hw.b [ag b3 _ _, ag b2 _ _]).tail.tail⟩)
 refine z3 ?_;refine aN rfl HS hw rfl fun w b7 hw => ?_;refine bS (l' := [iQ 0]) rfl tV rfl rfl ai rfl hw pK rfl rfl rfl fun w hw => ?_;refine z3 ?_;refine lD au hw ?_;refine mO (v1 := #[]) (v2 := #[pQ b2, pQ b7, pQ b3]) rfl (by intro z hz; simp at hz; rcases hz with rfl | rfl | rfl <;> exact ⟨_, rfl⟩) sM (by simp only [oS, cG, j3]; rfl) ?_;refine an rfl gb rfl (gE (fn := 142) (caps := #[pQ b2, pQ b7, pQ b3]) (Q := fun e x L' => (V.po.low = none /\ e = 12 /\ L' = ag b7 [iQ 0] 3 :: ag b2 [pQ vq] 28 :: ag b3 p.cells 75 :: L) \/ (∃ n, V.po.low = some n /\ e = 0 /\ x = V.se p.pg n /\ L' = ag b7 [iQ n] 3 :: ag b2 [pQ vq] 28 :: ag b3 p.cells 75 :: L)) (hw.b [aZ vq V, ag b7 _ _, ag b2 _ _, ag b3 _ _]) aJ dm uz (fun w b hw => ik (vd (p := p) hw hp aJ dm) (fun r w' h => by
 rcases h with ⟨h2, rfl, h4⟩ | ⟨n, h2, rfl, h4⟩
 ·exact ⟨12, ⟨V, []⟩, _, rfl, lx.refl V, aJ.po, by show V.sz <= _; omega, fo _, .inl ⟨h2, rfl, rfl⟩, h4⟩
 ·exact ⟨0, V.se p.pg n, _, rfl, (vR aJ h2).g, (vR aJ h2).ok, by
   simp only [Va.sz, Va.se, Vw.act, Vw.put, Po.act, cj, jt] at dm ⊢;omega, by simp [Va.se, Vw.act, Vw.put], .inr ⟨n, h2, rfl, rfl, rfl⟩, h4⟩))) rfl (fun w v16 hv => ?_)
 obtain ⟨er, x, L', rfl, -, hQ, bQ⟩ := hv;have h1 : bD p.pg = 0 := cJ.1 h1;obtain ⟨n, GR, hw⟩ : ∃ n, V.make p.pg = (n, er, (V.make p.pg).2.2) /\ ar G (aZ vq (V.make p.pg).2.2 :: ag b7 [iQ n] 3 :: ag b2 [pQ vq] 28 :: ag b3 p.cells 75 :: L) w := by
  rcases hQ with ⟨h2, rfl, rfl⟩ | ⟨n, h2, rfl, rfl, rfl⟩
  ·have e : V.make p.pg = (0, 12, V) := by unfold Va.make; rw [ae (fun h => h h1), h2]
   rw [e];exact ⟨0, rfl, (bQ.resolve_right (fun h => by cases h.1)).2⟩
  have e : V.make p.pg = (n, 0, V.done (V.se p.pg n)) := by unfold Va.make; rw [ae (fun h => h h1), h2]
  rw [e];exact ⟨n, rfl, (bQ.resolve_left (fun h => h.1 rfl)).2⟩
 refine z4 ?_;refine lD ai hw ?_;refine z5 ?_;exact eK rfl rfl rfl rfl (by
 rw [GR];exact ⟨rfl, (hw.b [ag b7 _ _, ag b3 _ _, ag b2 _ _]).tail.tail.tail⟩)
theorem qK {vq : Nat} {V : Va} {n : Int} (hw : ar G (aZ vq V :: L) w) (aJ : V.Ok) :
  Calls prog 147 #[pQ vq, iQ n] w (dv fun r w' => r = .bool (decide (V.own n)) /\ ar G (aZ vq V :: L) w') := by
 obtain ⟨m, hf, hw⟩ := lg hw;refine al (args := [_, _]) func147 rfl ntmps147 rfl rfl ?_;refine z9 ?_;refine lD bp hw ?_;refine z1 ?_;refine an rfl fI rfl (ur (n := n) (hw.b [gZ m.q V.po]) aJ.po) rfl fun w v10 hv => ?_;obtain ⟨rfl, hw⟩ := hv;refine z2 ?_;refine tG (l1 := [8, 9, 10, 11, 12, 13, 14, 15]) (l2 := [16]) rfl (d := 20) (V.own n) (fun w => ar G (gZ m.q V.po :: ag vq (Wh m.q m.om m.av V.vf) 38 :: cX m.om (og m.on) :: pI m.S :: row 170 2 m.av m.fu.length (m.fu.map Ci).flatten :: aT (m.fu.map kM) :: L) w) rfl ?_ ?_
 ·
  refine aE (d := 12) rfl (fun h1 => ?_) fun h1 => ?_
  ·
   refine z1 ?_;refine C3 rfl rfl ?_;refine z1 ?_;refine lD bp hw ?_;refine z1 ?_;refine an rfl fJ rfl (nF (n := n) (hw.b [gZ m.q V.po]) aJ.po) rfl fun w TV hv => ?_;obtain ⟨rfl, hw⟩ := hv;refine z3 ?_;refine ⟨hw, congrArg some (congrArg Value.bool ?_)⟩
   first | exact cZ.2 ⟨fun h => ⟨h1, h⟩, fun h => h.2⟩ | exact (decide_eq_false (fun h => h1 h.1)).symm
  refine z9 ?_;refine ⟨hw, congrArg some (congrArg Value.bool ?_)⟩
  first | exact cZ.2 ⟨fun h => ⟨h1, h⟩, fun h => h.2⟩ | exact (decide_eq_false (fun h => h1 h.1)).symm
 clear hw; intro w hw;refine z3 ?_;exact br rfl rfl rfl ⟨rfl, ie hf (hw.b [ag vq _ _, cX _ _, pI _, row 170 _ _ _ _, aT (m.fu.map kM), gZ _ _])⟩
theorem um {vq b b1 b2 b3 : Nat} {mk n : Int} {V : Va} {p : bm} (hw : ar G (sH vq b mk ⟨V, []⟩ :: ag b1 [pQ vq] 28 :: ag b2 [iQ n] 3 :: ag b3 p.cells 75 :: L) w) (hp : p.Ok L) :
  Calls prog 148 #[pQ b, pQ b1, pQ b2, pQ b3] w (dv fun r w' =>
   r = iQ 0 /\ ar G (sH vq b mk (V.Oj n p.pg) :: ag b1 [pQ vq] 28 :: ag b2 [iQ n] 3 :: ag b3 p.cells 75 :: L) w') := by
 refine al (args := [_, _, _, _]) func148 rfl ntmps148 rfl rfl ?_;refine z5 ?_;refine bu [0, 1, 2, 3, 4, 5] bK kR ?_;replace hw := hw.drawn (w.drawn + 1);refine lD au hw ?_;refine z1 ?_;refine lD ai hw ?_;refine lA ad hw ?_;refine dL rfl lI rfl (mi (p := p) hw (hp.of sF)) (fun w v10 hv q' hq => ?_) fun w v10 hv => ?_
 ·
  obtain ⟨p', rfl, D3, ft, hw⟩ := hv;have hq := a9 (l := [2, 0]) kR hq;simp only [bB, cW, or_false] at hq;rcases hq with rfl | rfl
  ·exact aV rfl rfl rfl (aj.bx ai hw pK rfl)
  exact aV rfl rfl rfl (aj.bx au hw pK rfl)
 obtain ⟨p', rfl, D3, ft, hw⟩ := hv;refine an rfl l6 rfl (mE (p := p') (n := n) (hw.b [sH vq b _ _, aR p']) ft (fo _)) kR fun w v11 hv => ?_;obtain ⟨rfl, hw⟩ := hv;refine z6 ?_;exact br rfl rfl rfl ⟨rfl, by rw [D3] at hw; have hz := hw.b [sH vq b _ _, ag b1 _ _, ag b2 _ _, ag b3 _ _]; exact hz⟩
theorem gA {vq : Nat} {V : Va} {n : Int} {p : bm} (hw : ar G (aZ vq V :: L) w) (hp : p.Ok L) (aJ : V.Ok) (dm : V.sz <= 1000000000000) :
  Calls prog 86 #[pQ vq, iQ n, gQ p.cells] w (dv fun r w' => r = iQ (V.write n p.pg).1 /\ ar G (aZ vq (V.write n p.pg).2 :: L) w') := by
 refine al (args := [_, _, _]) func86 rfl ntmps86 rfl rfl ?_;refine z2 ?_;refine bE rfl rfl rfl hw rfl fun w b3 hw => ?_;refine bE rfl rfl rfl hw rfl fun w b4 hw => ?_;refine bE rfl rfl rfl hw rfl fun w b5 hw => ?_;refine z5 ?_;refine lD au hw ?_;refine lD ai hw ?_;refine an rfl pV rfl (qK (n := n) (hw.b [aZ vq V]) aJ) rfl fun w v10 hv => ?_;obtain ⟨rfl, hw⟩ := hv;refine jX rfl rfl ?_;refine aH ?_;refine aS rfl (fun h1 => ?_) fun h1 => ?_
 ·
  have D4 : ¬ V.own n := by simpa using h1
  refine z5 ?_;exact br rfl rfl rfl (by
 have e : V.write n p.pg = (15, V) := by unfold Va.write; rw [ah D4]
 rw [e];exact ⟨rfl, (hw.b [ag b5 _ _, ag b4 _ _, ag b3 _ _]).tail.tail.tail⟩)
 have D4 : V.own n := by simpa using h1
 refine z4 ?_;refine lA ad hw ?_;refine an rfl wU rfl (yu (p := p) hw (hp.of sF)) rfl fun w Xm hv => ?_;obtain ⟨rfl, hw⟩ := hv;refine z7 ?_;refine aS rfl (fun h2 => ?_) fun h2 => ?_
 ·
  refine z6 ?_;exact br rfl rfl rfl (by
 have e : V.write n p.pg = (bD p.pg, V) := by unfold Va.write; rw [ae (fun h => h D4), ah h2]
 rw [e];exact ⟨rfl, (hw.b [ag b5 _ _, ag b4 _ _, ag b3 _ _]).tail.tail.tail⟩)
 refine z3 ?_;refine lD au hw ?_;refine mO (v1 := #[]) (v2 := #[pQ b3, pQ b4, pQ b5]) rfl (by intro z hz; simp at hz; rcases hz with rfl | rfl | rfl <;> exact ⟨_, rfl⟩) sM (by simp only [oS, cG, j3]; rfl) ?_;refine an rfl gb rfl (gE (fn := 148) (caps := #[pQ b3, pQ b4, pQ b5]) (Q := fun e x L' => e = 0 /\ x = V.Oj n p.pg /\ L' = ag b3 [pQ vq] 28 :: ag b4 [iQ n] 3 :: ag b5 p.cells 75 :: L) (hw.b [aZ vq V, ag b3 _ _, ag b4 _ _, ag b5 _ _]) aJ dm tk (fun w b hw => ik (um (p := p) hw hp) (fun r w' h => ⟨0, V.Oj n p.pg, _, h.1, (lx.refl V).put n _, aJ.po, by show V.sz <= _; omega, by simp [Va.Oj, Vw.put], ⟨rfl, rfl, rfl⟩, h.2⟩))) rfl (fun w RD hv => ?_);obtain ⟨er, x, L', rfl, -, ⟨rfl, rfl, rfl⟩, bQ⟩ := hv;have hw := (bQ.resolve_left (fun h => h.1 rfl)).2;have h2 : bD p.pg = 0 := cJ.1 h2;refine z3 ?_;exact br rfl rfl rfl (by
 have e : V.write n p.pg = (0, V.done (V.Oj n p.pg)) := by unfold Va.write; rw [ae (fun h => h D4), ae (fun h => h h2)]
 rw [e];exact ⟨rfl, (hw.b [ag b5 _ _, ag b4 _ _, ag b3 _ _]).tail.tail.tail⟩)
end
theorem Nk {L : List az} : bI.Ok L := ⟨⟨fun g w _ => .inl ⟨none, rfl, (fun x h => by cases h), rfl⟩, (fun x hx => by cases hx), by decide⟩, fun g w _ => .inl ⟨⟨none, rfl⟩, rfl⟩, by unfold bz; decide⟩
theorem sW {p : Pg} (h : bD p = 0) : (aA p).length <= 9 := by
 unfold bD at h;simp only [bZ] at h
 have h1 := (gz dM).1 h.1.1;have h2 := (gz dM).1 h.1.2;have h3 : p.items.length <= 8 := by
  unfold lk at h2;rcases Decidable.em (p.kind = 1) with e | e
  ·have := h2.1 e; omega
  rcases Decidable.em (p.kind = 2) with e2 | e2
  ·have := h2.2.1 e2; omega
  have := h2.2.2 e e2; omega
 have h4 := List.length_filterMap_le (fun x : It => if p.kind = 2 \/ (p.kind = 1 /\ x.child ≠ 0) then some x.child else none) p.items;unfold aA;rw [cj];have h5 : (if p.kind = 3 /\ p.next ≠ 0 then [p.next] else []).length <= 1 := by split <;> simp
 omega
theorem Va.sW {V : Va} (aJ : V.Ok) (n : Int) : (aA (V.pg n)).length <= 9 := by
 unfold Va.pg;cases h : V.on n with
 | none => exact fo _
 | some p => exact X.sW (aJ.on n p h)
def Vw.incAll : Vw -> List Int -> Int × Vw
 | x, [] => (0, x)
 | x, k :: r => if x.v.po.qZ k ≠ 0 then (x.v.po.qZ k, x) else (x.act k 1).incAll r
def Vw.leave (x : Vw) (n : Int) : Int × Vw := if x.v.bw n = 0 then (15, x.free n) else if x.v.bw n = 1 then (0, (x.act n (-1)).free n) else (x.act n (-1)).incAll (aA ((x.act n (-1)).v.pg n))
theorem qt {P : Po} {n : Int} (h : P.qZ n = 0) : bg P.c n /\ P.bw n ≠ 0 /\ P.bw n ≠ P.refs := by
 unfold Po.qZ at h;split at h
 ·cases h
 split at h
 ·cases h
 rename_i h1 h2; exact ⟨cg h1, h1, h2⟩
theorem Wk.inc {V : Va} {k : Nat} {x : Vw} (h : Wk V k x) {n : Int} (he : x.v.po.qZ n = 0) : Wk V (k + 1) (x.act n 1) := by
 obtain ⟨h1, h2, h3⟩ := qt he;have := h.ok.bw n;exact h.act h1 (.inl rfl) (by unfold Va.bw; omega)
theorem Wk.incAll {V : Va} : ∀ {l : List Int} {k : Nat} {x : Vw}, Wk V k x -> Wk V (k + l.length) (x.incAll l).2
 | [], k, x, h => h
 | n :: l, k, x, h => by
  unfold Vw.incAll;split
  ·exact h.mono oM
  rename_i he;have := (h.inc (cJ.1 he)).incAll (l := l);exact this.mono (by simp only [jO]; omega)
theorem Wk.leave {V : Va} {k : Nat} {x : Vw} (h : Wk V k x) (n : Int) (hk : (aA (x.v.pg n)).length <= 9) : Wk V (k + 10) (x.leave n).2 := by
 unfold Vw.leave;have hc := h.ok.bw n;split
 ·exact (h.free n).mono oM
 rename_i h0;have ha := h.act (b := -1) (cg h0) (.inr rfl) (by unfold Va.bw at h0 ⊢; omega);split
 ·exact (ha.free n).mono oM
 have := ha.incAll (l := aA ((x.act n (-1)).v.pg n));exact this.mono (by have e : (x.act n (-1)).v.pg n = x.v.pg n := rfl; rw [e]; omega)
theorem CK : ∀ (l : List Int) (j : Nat) (x y : Vw), j <= l.length -> x.incAll (l.take j) = (0, y) -> x.incAll l = y.incAll (l.drop j)
 | l, 0, x, y, _, h => by simp only [K6, Vw.incAll, Prod.mk.injEq, true_and] at h; subst h; rfl
 | [], j + 1, x, y, hj, _ => by simp at hj
 | n :: l, j + 1, x, y, hj, h => by
  simp only [R5, Vw.incAll] at h;split at h
  ·rename_i he; exact absurd (congrArg Prod.fst h) he
  rename_i he;have := CK l j _ y (by simpa using hj) h;simp only [R4];rw [<-this]
  conv => lhs; unfold Vw.incAll
  rw [ae he]
theorem CL : ∀ (l : List Int) (x y : Vw) (k : Int), x.incAll l = (0, y) -> y.v.po.qZ k = 0 -> x.incAll (l ++ [k]) = (0, y.act k 1)
 | [], x, y, k, h, hk => by
  simp only [Vw.incAll, Prod.mk.injEq, true_and] at h; subst h;simp only [jG, Vw.incAll];rw [ae (fun h => h hk)]
 | n :: l, x, y, k, h, hk => by
  simp only [Vw.incAll] at h;split at h
  ·rename_i he; exact absurd (congrArg Prod.fst h) he
  rename_i he;simp only [j4, Vw.incAll];rw [ae he];exact CL l _ y k h hk
def Va.aO (V : Va) (n : Int) : Int × Int × Va := if V.bw n = 0 then (0, 15, V) else if V.own n then (n, 0, V) else match V.po.low with
 | none => (0, 12, V)
 | some m => if ((V.se (V.pg n) m).leave n).1 ≠ 0 then (0, ((V.se (V.pg n) m).leave n).1, V) else (m, 0, V.done ((V.se (V.pg n) m).leave n).2)
theorem Wt.free {x : Vw} (h : Wt x) (aJ : x.v.po.Ok) (n : Int) : Wt (x.free n) := by
 unfold Vw.free;split
 ·rename_i hs;refine ⟨fun k q hq => ?_, fun k hk => ?_⟩
  ·have hq : rz x.v.on n none k = some q := hq;unfold rz at hq;split at hq
   ·cases hq
   exact h.ck k q hq
  show rz x.v.on n none k ≠ none
  unfold rz;split
  ·rename_i e;subst e;exact absurd (At aJ hs) hk
  exact h.th k hk
 exact h
theorem Wt.incAll : ∀ {l : List Int} {x : Vw}, Wt x -> Wt (x.incAll l).2
 | [], x, h => h
 | n :: l, x, h => by
  unfold Vw.incAll;split
  ·exact h
  rename_i he;obtain ⟨h1, h2, _⟩ := qt (cJ.1 he);exact (h.act h1 h2).incAll
theorem Wt.leave {x : Vw} (h : Wt x) (aJ : x.v.po.Ok) (n : Int) : Wt (x.leave n).2 := by
 unfold Vw.leave;have hc := aJ.bw n;split
 ·exact h.free aJ n
 rename_i h0;have h0 : ¬ x.v.po.bw n = 0 := h0;have ha := h.act (b := -1) (cg h0) h0;have ho : (x.act n (-1)).v.po.Ok := aJ.act (cg h0) (.inr rfl) oM;split
 ·exact ha.free ho n
 exact ha.incAll
section
variable {G : Gh} {L R : List az} {w : World}
theorem o0 {vq b : Nat} {mk n : Int} {x : Vw} (hw : ar G (sH vq b mk x :: L) w) (aJ : x.v.po.Ok) (hpa : x.v.po.pa.length <= 1100000000000) (dm : x.was.length <= 1000000000000) (hk : (aA (x.v.pg n)).length <= 9) :
  Calls prog 157 #[pQ vq, pQ b, iQ n] w (dv fun r w' => r = iQ (x.leave n).1 /\ ar G (sH vq b mk (x.leave n).2 :: L) w') := by
 obtain ⟨m, hf, hw⟩ := jB hw;obtain ⟨lf, Ba⟩ : ∃ z : Int, z = if x.v.po.bw n = 0 then 0 else x.v.po.bw n - 1 := ⟨_, rfl⟩
 obtain ⟨er, O7⟩ : ∃ z : Int, z = if x.v.po.bw n = 0 then 15 else 0 := ⟨_, rfl⟩
 obtain ⟨x1, Ko⟩ : ∃ z : Vw, z = { x with v := { x.v with po := x.v.po.dec n } } := ⟨_, rfl⟩;have Vv : Ui x1 m := by rw [Ko]; exact ⟨⟨hf.f.on, hf.f.Ih, hf.f.sm, hf.f.fu, hf.f.HP⟩, hf.ws, hf.Us⟩
 have XQ : x1.v.po.Ok /\ x1.v.po.pa.length <= 1100000000001 := by
  have hc := aJ.bw n;rw [Ko]
  show (x.v.po.dec n).Ok /\ (x.v.po.dec n).pa.length <= _
  unfold Po.dec;split
  ·exact ⟨aJ, oM⟩
  rename_i h0;exact ⟨aJ.act (cg h0) (.inr rfl) oM, by simp only [Po.act, cj, jt]; omega⟩
 refine al (args := [_, _, _]) func157 rfl ntmps157 rfl rfl ?_;refine z9 ?_;refine lD bp hw ?_;refine z1 ?_;refine an rfl rQ rfl (tj (P := x.v.po) (n := n) (hw.b [gZ m.m.q x.v.po]) aJ oM) rfl fun w TV hv => ?_;rw [<-Ba, <-O7] at hv;obtain ⟨rfl, hw⟩ := hv;have hz := hw.b [gZ m.m.q _, ag b _ _, row 212 _ _ _ _, ag vq _ _, cX _ _, pI _, row 170 _ _ _ _, aT (m.m.fu.map kM)];clear hw;have hz := hz.b [ag b _ _, row 212 _ _ _ _, ag vq _ _, cX _ _, pI _, row 170 _ _ _ _, aT (m.m.fu.map kM), gZ m.m.q _];have hw : ar G (sH vq b mk x1 :: L) w := gK (x := x1) (m := m) Vv (by rw [Ko]; exact hz);clear hz;refine KA ?_;refine bY (l1 := [3, 4, 5]) (l2 := []) rfl (d := 26) (er ≠ 0 \/ lf = 0) rfl ?_ ?_
 ·
  refine aE (d := 23) rfl (fun h1 => ?_) fun h1 => ?_
  ·
   refine z4 ?_;refine cQ ?_;exact dC
  refine z4 ?_;refine cQ ?_;exact dC
 refine aH ?_;refine aS rfl (fun h2 => ?_) fun h2 => ?_
 ·
  refine z5 ?_;refine an rfl o6 rfl (pO (n := n) hw XQ.1 (by rw [Ko]; exact dm)) rfl (fun w v30 hv => ?_);obtain ⟨rfl, hw⟩ := hv;refine z7 ?_;exact br rfl rfl rfl (by
 by_cases hc : x.v.po.bw n = 0
 ·have e : x.leave n = (15, x.free n) := by unfold Vw.leave Va.bw; rw [ah hc]
  have e1 : x1 = x := by rw [Ko]; unfold Po.dec; rw [ah hc]
  rw [e, O7, ah hc];rw [e1] at hw;exact ⟨rfl, hw⟩
 ·have O3 : x.v.po.bw n = 1 := by rw [Ba, O7, ae hc, ae hc] at h2; omega
  have e : x.leave n = (0, (x.act n (-1)).free n) := by unfold Vw.leave Va.bw; rw [ae hc, ah O3]
  have e1 : x1 = x.act n (-1) := by rw [Ko]; unfold Po.dec; rw [ae hc]; rfl
  rw [e, O7, ae hc];rw [e1] at hw;exact ⟨rfl, hw⟩)
 have hc : ¬ x.v.po.bw n = 0 := fun h => by rw [O7, ah h] at h2; exact h2 (.inl dM)
 have O3 : ¬ x.v.po.bw n = 1 := fun h => by rw [Ba, ae hc, h] at h2; exact h2 (.inr rfl)
 have e1 : x1 = x.act n (-1) := by rw [Ko]; unfold Po.dec; rw [ae hc]; rfl
 have hle : x.leave n = x1.incAll (aA (x1.v.pg n)) := by unfold Vw.leave Va.bw; rw [ae hc, ae O3, e1]
 have Hg : (aA (x1.v.pg n)).length <= 9 := by rw [e1]; exact hk
 obtain ⟨m1, Dk, hw⟩ := jB hw;obtain ⟨p0, b0, S4, -, kP, -, hS, hZ, re⟩ := DX Dk.f n hw (L := QX vq b mk x1 m1 L) pK;have xp : p0.Ok (QX vq b mk x1 m1 L) := by
  cases b0 with
  | true => exact Bm (hS rfl) (Dk.f.sm _ (hS rfl)) pK
  | false => rw [hZ rfl]; exact Nk
 refine z7 ?_;refine lD dt hw ?_;refine z1 ?_;refine zO (v0 := gQ p0.cells) rfl dP kY oL rfl rfl hw pK S4 ?_;refine an rfl sy rfl (uu (p := p0) hw xp) rfl fun w v38 hv => ?_;rw [re] at hv;obtain ⟨l, hl⟩ : ∃ l, l = aA (x1.v.pg n) := ⟨_, rfl⟩;rw [<-hl] at hv hle Hg
 obtain ⟨ka, kc, rfl⟩ := aM hv;have ma : aX [row 3 1 (.slice ka l.length kc) l.length (bG l)] (tF (.slice ka l.length kc) (bG l)) := Ox (by rw [cC]);have hw := gK Dk (hv.b [ag b _ _, row 212 _ _ _ _, ag vq _ _, cX _ _, pI _, row 170 _ _ _ _, aT (m1.m.fu.map kM), gZ m1.m.q _, row 3 1 _ _ _]);refine z4 ?_;refine cO (fun m e w => ∃ (j : Nat) (y : Vw), j <= l.length /\ m = l.length - j /\ e = [(0, pQ vq), (38, .slice ka l.length kc), (39, iQ l.length), (40, iQ j)] /\ (x1.incAll (l.take j) = (0, y) /\ y.v.po.Ok /\ y.v.po.pa.length <= 1100000000001 + j) /\ ar G (sH vq b mk y :: row 3 1 (.slice ka l.length kc) l.length (bG l) :: L) w)
  (m := l.length) sB
  ⟨0, x1, fo _, rfl, rfl, ⟨rfl, XQ.1, by have := XQ.2; omega⟩, hw⟩ ?_
 rintro m e w ⟨j, y, hj, rfl, rfl, ⟨SM, Zr, hy3⟩, hw⟩;refine z5 ?_;refine aS rfl (fun h3 => ?_) fun h3 => ?_
 ·
  have hj' : j < l.length := oM;obtain ⟨k, iX⟩ : ∃ k, l[j]? = some k := ⟨_, cV hj'⟩;have NL : (bG l)[j]? = some (iQ k) := by simp only [bG, dB, iX]; rfl
  obtain ⟨bb, oo, rfl⟩ := (((ma.head _).cons _).at hw).nn (by rw [cC]; omega);refine z5 ?_;refine fk rfl bP cT rfl rfl ⟨oM, oM⟩ ?_;refine bt rfl rfl (aj.one ai ((((ma.head _).cons _).at hw).at (by rw [fQ]; exact NL))) ?_;obtain ⟨m2, nA, hw⟩ := jB hw;refine z7 ?_;refine lD bp hw ?_;refine z1 ?_;refine an rfl rP rfl (ti (P := y.v.po) (n := k) (hw.b [gZ m2.m.q y.v.po]) Zr oM) rfl fun w v49 hv => ?_;obtain ⟨rfl, hw⟩ := hv;have hz := hw.b [gZ m2.m.q _, ag b _ _, row 212 _ _ _ _, ag vq _ _, cX _ _, pI _, row 170 _ _ _ _, aT (m2.m.fu.map kM)];have hz := hz.b [ag b _ _, row 212 _ _ _ _, ag vq _ _, cX _ _, pI _, row 170 _ _ _ _, aT (m2.m.fu.map kM), gZ m2.m.q _];clear hw;refine z7 ?_;refine aS rfl (fun h4 => ?_) fun h4 => ?_
  ·
   have e2 : y.v.po.inc k = y.v.po := by unfold Po.inc; rw [ae h4]
   rw [e2] at hz;have hw := gK nA hz;refine z6 ?_;exact br rfl rfl rfl (by
 have h5 := CK l j x1 y oM SM;rw [hle, h5, dG iX];unfold Vw.incAll;rw [ah h4];exact ⟨rfl, (hw.b [row 3 _ _ _ _]).tail⟩)
  have h4 : y.v.po.qZ k = 0 := cJ.1 h4;have e2 : y.v.po.inc k = y.v.po.act k 1 := by unfold Po.inc; rw [ah h4]
  rw [e2] at hz;have hw := gK (x := y.act k 1) (nA.act k 1) hz;obtain ⟨hi1, hi2, hi3⟩ := qt h4;have hi4 := Zr.bw k;refine z5 ?_;exact ⟨l.length - (j + 1), oM, [(0, _), (38, _), (39, _), (40, iQ (j + 1 : Nat))], sB, j + 1, y.act k 1, oM, rfl, rfl, ⟨by rw [cP iX]; exact CL _ _ _ _ SM h4, Zr.act hi1 (.inl rfl) oM, by simp only [Vw.act, Po.act, cj, jt]; omega⟩, hw⟩
 refine z6 ?_;exact br rfl rfl rfl (by
 rw [vN oM] at SM;rw [hle, SM];exact ⟨rfl, (hw.b [row 3 _ _ _ _]).tail⟩)
end
theorem Lq {V : Va} (aJ : V.Ok) (n m : Int) : (aA ((V.se (V.pg n) m).v.pg n)).length <= 9 := by
 show (aA ((rz V.on m (some (V.pg n)) n).getD bI.pg)).length <= 9
 unfold rz;split
 ·exact V.sW aJ n
 exact V.sW aJ n
theorem Va.H0 {V : Va} (aJ : V.Ok) {n m : Int} (hm : V.po.low = some m) : Wk V 12 ((V.se (V.pg n) m).leave n).2 := ((vR aJ hm).leave n (Lq aJ n m))
theorem EF {V : Va} (aJ : V.Km) {n : Int} (h : V.po.bw n ≠ 0) : bD (V.pg n) = 0 := by
 unfold Va.pg;cases ho : V.on n with
 | none => exact absurd ho (aJ.th n h)
 | some p => exact aJ.on n p ho
theorem RS {T z m c j : Nat} {A : Option Addr} {rs : List (List Value)} {G : Gh} {L : List az} {w : World} (hw : ar G (row T z (.slice A m c) m rs.flatten :: L) w) (hm : rs.length = m) (hz : ∀ r ∈ rs, r.length = z) (hj : j <= m) : ar G (row T z (.slice A j c) j (rs.take j).flatten :: L) w := by
 refine hw.iL fun h ⟨hl, hh⟩ => ?_
 have e : rs.flatten = (rs.take j).flatten ++ (rs.drop j).flatten := by rw [<-K8, qd]
 have Vr : (rs.take j).flatten.length = j * z := by rw [dk (fun r hr => hz r (r9 hr)), fK]; congr 1; omega
 refine ⟨Vr, ?_⟩;rcases hh with ⟨h1, h2⟩ | ⟨b, cap, cur, hv, hb, h1, h2, h3⟩
 ·subst h2; have : j = 0 := oM;subst this; exact .inl ⟨h1, rfl⟩
 cases hv;refine .inr ⟨b, c, (rs.drop j).flatten ++ cur, rfl, ?_, oM, h2, ?_⟩
 ·rw [<-je, <-e]; exact hb
 rw [<-je, <-e]; exact h3
theorem My {G : Gh} {R M : List az} {A : az} {w : World} (h : ar G (aT (M ++ [A]) :: R) w) : ar G (aT M :: A :: R) w := ar.bH (by have := h.cD; rwa [je] at this)
theorem PZ {V : Va} (h : 0 < V.va.length) : V.pop.va.length = V.va.length - 1 /\ V.pop.vf = V.vf /\ V.pop.sz <= V.sz := by
 unfold Va.pop;cases hl : V.va.getLast? with
 | none => rw [List.getLast?_eq_none_iff] at hl; rw [hl] at h; simp at h
 | some a =>
  refine ⟨by simp, rfl, ?_⟩
  show V.po.pf + (((V.po.pa.take (a.1 - V.po.pf).toNat).length : Nat) : Int) + V.vf + ((V.va.dropLast.length : Nat) : Int) <= V.po.pf + V.po.pa.length + V.vf + V.va.length
  rw [fK, List.length_dropLast]; omega
theorem EE : ∀ (V : Va) (j : Nat), j <= V.va.length -> (V.popN j).va.length = V.va.length - j /\ (V.popN j).vf = V.vf /\ (V.popN j).sz <= V.sz
 | V, 0, _ => ⟨rfl, rfl, lV _⟩
 | V, j + 1, h => by
  obtain ⟨h1, h2, h3⟩ := PZ (V := V) oM;obtain ⟨h4, h5, h6⟩ := EE V.pop j oM;exact ⟨by show (V.pop.popN j).va.length = _; omega, by show (V.pop.popN j).vf = _; rw [h5, h2], by show (V.pop.popN j).sz <= _; omega⟩
theorem H7 : ∀ (V : Va) (j : Nat), V.popN (j + 1) = (V.popN j).pop
 | V, 0 => rfl
 | V, j + 1 => by show V.pop.popN (j + 1) = (V.pop.popN j).pop; exact H7 V.pop j
section
variable {G : Gh} {L R : List az} {w : World}
theorem td {vq b b1 b2 b3 : Nat} {mk z n : Int} {V : Va} (hw : ar G (sH vq b mk ⟨V, []⟩ :: ag b2 [iQ z] 3 :: ag b1 [pQ vq] 28 :: ag b3 [iQ n] 3 :: L) w) (aJ : V.Ok) (dm : V.sz <= 1000000000000) :
  Calls prog 156 #[pQ b, pQ b1, pQ b2, pQ b3] w (dv fun r w' =>
   (V.po.low = none /\ r = iQ 12 /\ ar G (sH vq b mk ⟨V, []⟩ :: ag b2 [iQ 0] 3 :: ag b1 [pQ vq] 28 :: ag b3 [iQ n] 3 :: L) w') ∨
   (∃ m, V.po.low = some m /\ r = iQ ((V.se (V.pg n) m).leave n).1 /\ ar G (sH vq b mk ((V.se (V.pg n) m).leave n).2 :: ag b2 [iQ m] 3 :: ag b1 [pQ vq] 28 :: ag b3 [iQ n] 3 :: L) w')) := by
 obtain ⟨m, hf, hw⟩ := jB hw;have kA : V.po.pa.length <= 1000000000000 := by have := aJ.pf; have := aJ.vf; unfold Va.sz at dm; omega
 refine al (args := [_, _, _, _]) func156 rfl ntmps156 rfl rfl ?_;refine z7 ?_;refine lD au hw ?_;refine z2 ?_;refine lD bp hw ?_;refine an rfl pZ rfl (AP (P := V.po) (hw.b [gZ m.m.q V.po]) aJ.po oM) rfl fun w v11 hv => ?_;obtain ⟨k, er, P', rfl, Fp, hw⟩ := hv;refine z3 ?_;refine bS rfl tV rfl rfl ai rfl hw pK rfl rfl rfl fun w hw => ?_;refine z7 ?_;refine aS rfl (fun h1 => ?_) fun h1 => ?_
 ·
  obtain ⟨h0, rfl, rfl, rfl⟩ := Fp.resolve_right (fun h => h1 h.2.1);refine z6 ?_;exact br rfl rfl rfl (.inl ⟨h0, rfl, by
  have hz := hw.b [ag b _ _, row 212 _ _ _ _, ag vq _ _, cX _ _, pI _, row 170 _ _ _ _, aT (m.m.fu.map kM), gZ _ _, ag b2 _ _, ag b1 _ _, ag b3 _ _];exact gK hf hz⟩)
 have h1 : er = 0 := cJ.1 h1;subst h1;obtain ⟨oF, -, rfl⟩ := Fp.resolve_left (fun h => by cases h.2.2.1);have Fe := vR (p := V.pg n) aJ oF;obtain ⟨p0, b0, S4, -, kP, -, hS, hZ, re⟩ := DX (hf.act k 1).f n (hw.b [pI m.m.S]) .here;refine z2 ?_;refine bu [0, 1, 2, 3, 4, 5, 6, 7, 8, 9, 10] bK kR ?_;replace hw := hw.drawn (w.drawn + 1);refine lD au hw ?_;refine z1 ?_;refine lD ai hw ?_;refine lD au hw ?_;refine z2 ?_;refine lD dt hw ?_;refine lD ai hw ?_;refine zO (hg := ?gd) (v0 := gQ p0.cells) rfl dP kY oL rfl rfl hw pK S4 ?_
 case gd => trivial
 have hz := hw.b [ag b _ _, row 212 _ _ _ _, ag vq _ _, cX _ _, pI _, row 170 _ _ _ _, aT (m.m.fu.map kM), gZ _ _, ag b2 _ _, ag b1 _ _, ag b3 _ _];have xp : p0.Ok (QX vq b mk ((⟨V, []⟩ : Vw).act k 1) m (ag b2 [iQ k] 3 :: ag b1 [pQ vq] 28 :: ag b3 [iQ n] 3 :: L)) := by
  cases b0 with
  | true => exact Bm (hS rfl) (hf.f.sm _ (hS rfl)) pK
  | false => rw [hZ rfl]; exact Nk
 clear hw;have hw : ar G (QX vq b mk ((⟨V, []⟩ : Vw).act k 1) m (ag b2 [iQ k] 3 :: ag b1 [pQ vq] 28 :: ag b3 [iQ n] 3 :: L)) w := hz;clear hz;refine dL rfl lI rfl (mi (p := p0) hw xp) (fun w v26 hv q' hq => ?_) fun w v26 hv => ?_
 ·
  obtain ⟨p', rfl, D3, ft, hw⟩ := hv;have hq := a9 (l := [2, 0]) kR hq;simp only [bB, cW, or_false] at hq;rcases hq with rfl | rfl
  ·exact aV rfl rfl rfl (aj.bx ai hw pK rfl)
  exact aV rfl rfl rfl (aj.bx au hw pK rfl)
 obtain ⟨p', rfl, D3, ft, hw⟩ := hv;have hz := hw.b [ag b _ _, row 212 _ _ _ _, ag vq _ _, cX _ _, pI _, row 170 _ _ _ _, aT (m.m.fu.map kM), gZ _ _];have ND := gK (hf.act k 1) hz;refine an rfl l6 rfl (mE (p := p') (n := k) (ND.b [sH vq b _ _, aR p']) ft (fo _)) kR fun w Xj hv => ?_;obtain ⟨rfl, hw⟩ := hv;have abX : p'.pg = V.pg n := D3.trans re;rw [abX] at hw;refine z3 ?_;refine lD au hw ?_;refine z1 ?_;refine lD ai hw ?_;refine an rfl n7 rfl (o0 (x := ((⟨V, []⟩ : Vw).act k 1).put k (some (V.pg n))) (n := n) (hw.b [sH vq b _ _]) Fe.ok (show (V.se (V.pg n) k).v.po.pa.length <= _ by have := Fe.pa; omega) (show (V.se (V.pg n) k).was.length <= _ by have := Fe.was; omega) (Lq aJ n k)) rfl (fun w v31 hv => ?_);obtain ⟨rfl, hw⟩ := hv;refine z3 ?_;exact br rfl rfl rfl (.inr ⟨k, oF, rfl, by have hz := hw.b [sH vq b _ _, ag b2 _ _, ag b1 _ _, ag b3 _ _]; exact hz⟩)
theorem kQ {vq : Nat} {V : Va} {n : Int} (hw : ar G (aZ vq V :: L) w) (aJ : V.Ok) (dm : V.sz <= 1000000000000) :
  Calls prog 119 #[pQ vq, iQ n] w (dv fun r w' => r = .tuple #[iQ (V.aO n).1, iQ (V.aO n).2.1] /\ ar G (aZ vq (V.aO n).2.2 :: L) w') := by
 obtain ⟨m, hf, hw⟩ := lg hw;refine al (args := [_, _]) func119 rfl ntmps119 rfl rfl ?_;refine z2 ?_;refine bE rfl rfl rfl hw rfl fun w b2 hw => ?_;refine bE rfl rfl rfl hw rfl fun w b3 hw => ?_;refine z5 ?_;refine bu [0, 1, 2, 3, 4, 5, 6] bK kR ?_;replace hw := hw.drawn (w.drawn + 1);refine lD au hw ?_;refine z2 ?_;refine lD bp hw ?_;refine lD ai hw ?_;refine an rfl fJ rfl (nF (n := n) (hw.b [gZ m.q V.po]) aJ.po) kR fun w Xm hv => ?_;obtain ⟨rfl, hw⟩ := hv;have hz := hw.b [ag vq _ _, cX _ _, pI _, row 170 _ _ _ _, aT (m.fu.map kM), gZ _ _];have hw := ie hf hz;refine z2 ?_;refine aS rfl (fun h1 => ?_) fun h1 => ?_
 ·
  refine z6 ?_;exact eK rfl rfl rfl rfl (by
 have h1 : V.bw n = 0 := h1;have e : V.aO n = (0, 15, V) := by unfold Va.aO; rw [ah h1]
 rw [e];exact ⟨rfl, (hw.b [ag b3 _ _, ag b2 _ _]).tail.tail⟩)
 have h1 : ¬ V.bw n = 0 := h1;refine z4 ?_;refine lD au hw ?_;refine lD ai hw ?_;refine an rfl pV rfl (qK (n := n) (hw.b [aZ vq V]) aJ) rfl fun w Xl hv => ?_;obtain ⟨rfl, hw⟩ := hv;refine aH ?_;refine aS rfl (fun h2 => ?_) fun h2 => ?_
 ·
  have NT : V.own n := by simpa using h2
  refine z2 ?_;refine lD ai hw ?_;refine z4 ?_;exact eK rfl rfl rfl rfl (by
 have e : V.aO n = (n, 0, V) := by unfold Va.aO; rw [ae h1, ah NT]
 rw [e];exact ⟨rfl, (hw.b [ag b3 _ _, ag b2 _ _]).tail.tail⟩)
 have NT : ¬ V.own n := by simpa using h2
 refine z3 ?_;refine aN rfl HS hw rfl fun w b6 hw => ?_;refine bS (l' := [iQ 0]) rfl tV rfl rfl ai rfl hw pK rfl rfl rfl fun w hw => ?_;refine z3 ?_;refine lD au hw ?_;refine mO (v1 := #[]) (v2 := #[pQ b2, pQ b6, pQ b3]) rfl (by intro z hz; simp at hz; rcases hz with rfl | rfl | rfl <;> exact ⟨_, rfl⟩) sM (by simp only [oS, cG, j3]; rfl) ?_;refine an rfl gb rfl (gE (fn := 156) (caps := #[pQ b2, pQ b6, pQ b3]) (Q := fun e x L' => (V.po.low = none /\ e = 12 /\ L' = ag b6 [iQ 0] 3 :: ag b2 [pQ vq] 28 :: ag b3 [iQ n] 3 :: L) \/ (∃ k, V.po.low = some k /\ e = ((V.se (V.pg n) k).leave n).1 /\ x = ((V.se (V.pg n) k).leave n).2 /\ L' = ag b6 [iQ k] 3 :: ag b2 [pQ vq] 28 :: ag b3 [iQ n] 3 :: L)) (hw.b [aZ vq V, ag b6 _ _, ag b2 _ _, ag b3 _ _]) aJ dm sr (fun w b hw => ik (td hw aJ dm) (fun r w' h => by
 rcases h with ⟨h2, rfl, h4⟩ | ⟨k, h2, rfl, h4⟩
 ·exact ⟨12, ⟨V, []⟩, _, rfl, lx.refl V, aJ.po, by show V.sz <= _; omega, fo _, .inl ⟨h2, rfl, rfl⟩, h4⟩
 ·have Fe := Va.H0 (n := n) aJ h2;exact ⟨_, _, _, rfl, Fe.g, Fe.ok, by have := Fe.sz; omega, by have := Fe.was; omega, .inr ⟨k, h2, rfl, rfl, rfl⟩, h4⟩))) rfl (fun w Wj hv => ?_)
 obtain ⟨er, x, L', rfl, -, hQ, bQ⟩ := hv;refine z8 ?_;refine aS rfl (fun h3 => ?_) fun h3 => ?_
 ·
  have Df : V.aO n = (0, er, V) /\ ∃ k, L' = ag b6 [iQ k] 3 :: ag b2 [pQ vq] 28 :: ag b3 [iQ n] 3 :: L := by
   rcases hQ with ⟨h5, rfl, rfl⟩ | ⟨k, h5, rfl, rfl, rfl⟩
   ·exact ⟨by unfold Va.aO; rw [ae h1, ae NT, h5], 0, rfl⟩
   exact ⟨by unfold Va.aO; rw [ae h1, ae NT, h5]; simp only; rw [ah h3], k, rfl⟩
  obtain ⟨Df, k, rfl⟩ := Df;have hw := (bQ.resolve_right (fun h => h3 h.1)).2;refine z7 ?_;exact eK rfl rfl rfl rfl (by
 rw [Df];exact ⟨rfl, (hw.b [ag b6 _ _, ag b3 _ _, ag b2 _ _]).tail.tail.tail⟩)
 have h3 : er = 0 := cJ.1 h3;obtain ⟨k, oF, he, rfl, rfl⟩ := hQ.resolve_left (fun h => by have := h.2.1; omega);have hw := (bQ.resolve_left (fun h => h.1 h3)).2;have Df : V.aO n = (k, 0, V.done ((V.se (V.pg n) k).leave n).2) := by unfold Va.aO; rw [ae h1, ae NT, oF]; simp only; rw [ae oM]
 refine z3 ?_;refine lD ai hw ?_;refine z4 ?_;exact eK rfl rfl rfl rfl (by
 rw [Df];exact ⟨rfl, (hw.b [ag b6 _ _, ag b3 _ _, ag b2 _ _]).tail.tail.tail⟩)
theorem lY {vq : Nat} {V : Va} {mk : Int} (hw : ar G (aZ vq V :: L) w) (aJ : V.Ok) (dm : V.sz <= 1000000000000000) : Calls prog 44 #[pQ vq, iQ mk] w (dv fun r w' =>
  (¬ (V.vf <= mk /\ mk <= V.mark) /\ r = .bool false /\ ar G (aZ vq V :: L) w') \/ (V.vf <= mk /\ mk <= V.mark /\ r = .bool true /\ ar G (aZ vq (V.popN (V.mark - mk).toNat) :: L) w')) := by
 have Vk : 0 <= V.vf /\ V.vf + V.va.length <= 1000000000000000 := ⟨aJ.vf, by have := aJ.pf; unfold Va.sz at dm; omega⟩;obtain ⟨m, hf, hw⟩ := lg hw;refine al (args := [_, _]) func44 rfl ntmps44 rfl rfl ?_;refine Oc ?_;refine lD (v := iQ V.vf) ai hw ?_;refine z2 ?_;refine aE (d := 12) rfl (fun h1 => ?_) fun h1 => ?_
 ·
  refine z6 ?_;refine eg rfl ?_;refine z5 ?_;exact br rfl rfl rfl (.inl ⟨oM, rfl, ie hf hw⟩)
 refine z2 ?_;refine an rfl fg rfl (fH (ie hf hw) Vk) rfl fun w Uv hv => ?_;obtain ⟨rfl, hw⟩ := hv;clear hf;refine z3 ?_;refine aS rfl (fun h2 => ?_) fun h2 => ?_
 ·
  refine z5 ?_;exact br rfl rfl rfl (.inl ⟨oM, rfl, hw⟩)
 refine z3 ?_;refine cO (fun m e w => ∃ j : Nat, j <= (V.mark - mk).toNat /\ m = (V.mark - mk).toNat - j /\ e = [(0, pQ vq), (1, iQ mk)] /\ ar G (aZ vq (V.popN j) :: L) w)
  (m := (V.mark - mk).toNat) sB
  ⟨0, fo _, rfl, rfl, hw⟩ ?_
 rintro m e w ⟨j, hj, rfl, rfl, hw⟩;have Te : j <= V.va.length := by unfold Va.mark at *; omega
 obtain ⟨kA, Zw, ft⟩ := EE V j Te;have Qi := aJ.NN j Te;obtain ⟨y, hy⟩ : ∃ y, y = V.popN j := ⟨_, rfl⟩;rw [<-hy] at hw kA Zw ft Qi;refine z4 ?_;refine an rfl fg rfl (fH hw ⟨Qi.vf, by have := Qi.pf; unfold Va.sz at ft dm; omega⟩) rfl (fun w RD hv => ?_);obtain ⟨rfl, hw⟩ := hv;have Ww : y.mark = V.mark - j := by unfold Va.mark; omega
 refine z3 ?_;refine aS rfl (fun h3 => ?_) fun h3 => ?_
 ·
  have hjn : j < (V.mark - mk).toNat := oM;obtain ⟨m, hf, hw⟩ := lg hw;have hlen := hf.len;obtain ⟨la, a, hac⟩ : ∃ la a, m.fu = la ++ [a] := by
   rcases m.fu.eq_nil_or_concat with h | ⟨la, a, h⟩
   ·rw [h] at hlen; simp at hlen; unfold Va.mark at *; omega
   exact ⟨la, a, by simpa using h⟩
  obtain ⟨q, om, av, on, S, fu⟩ := m;simp only at hac;subst hac;have XU : y.va = la.map MI ++ [MI a] := by rw [<-hf.fu]; simp
  have O2 : y.va.getLast? = some (MI a) := by rw [XU]; simp
  have ab5 := Qi.mrk _ O2;have LM := Qi.wl (MI a) (by rw [XU]; simp);have LM : a.2.2.length <= 1000000000000 := by have h : (a.2.2.map pA).length <= 1000000000000 := LM; rwa [bA] at h
  have oW : (la ++ [a]).length = la.length + 1 := by simp
  have ado : (la ++ [a]).length <= 1000000000000000 := by have h : (la ++ [a]).length = y.va.length := hlen; omega
  obtain ⟨aa, ac, rfl⟩ := aM (hw.pick (A := row 170 2 av (la ++ [a]).length _) pK);have hrw := hw.pick (A := row 170 2 (.slice aa (la ++ [a]).length ac) (la ++ [a]).length _) pK;have YI := OC hrw;have tC := KS hrw;obtain ⟨-, ab, _, rfl, -⟩ := ij hrw oM;have kO : gC 2 (sQ ab (la ++ [a]).length ac) ((la ++ [a]).map Ci) w := (gC.row (T := 170) (by rw [bA]) (TL _)).at hrw.head;have hai : ((la ++ [a]).map Ci)[la.length]? = some (Ci a) := by simp
  refine z7 ?_;refine lD (v := sQ ab (la ++ [a]).length ac) ez hw ?_;refine dQ rfl kR jM rfl ?_;refine z9 ?_;refine lD (v := sQ ab (la ++ [a]).length ac) ez hw ?_;refine z1 ?_;refine dD rfl jM tJ rfl rfl ⟨oM, oM⟩ ?_;refine bt rfl rfl (aj.many (cs := Ci a) nv rfl (by rw [show (((la ++ [a]).length : Int) - 1).toNat = la.length by rw [oW]; omega]; exact kO.at hai)) ?_;have hz := hw.b [aT ((la ++ [a]).map kM)];rw [show (la ++ [a]).map kM = la.map kM ++ [kM a] by simp] at hz;have hz := My hz;have hpy := Qi.pf;have hvy := Qi.vf;refine an rfl o8 rfl (pR (V := y) (m := ⟨q, om, sQ ab (la ++ [a]).length ac, on, S, la ++ [a]⟩) (mk := a.1) (sv := a.2.1) (ws := a.2.2) (hz.b [ag vq _ _, cX _ _, pI _, gZ _ _, row 212 _ _ _ _]) hf.g RB (fun x hx => hf.HP a sM x hx) oM Qi.po ⟨hpy, by unfold Va.sz at ft dm; omega⟩ ab5) rfl (fun w v36 hv => ?_);obtain ⟨rfl, zE, hg, hw⟩ := hv;have abU : y.pop = { y.back a.1 (a.2.2.map pA) with va := la.map MI } := by
   unfold Va.pop;rw [O2, XU];simp only [List.dropLast_concat];rfl
  refine z6 ?_;refine lD (v := sQ ab (la ++ [a]).length ac) ez hw ?_;refine z1 ?_;refine rX rfl jM GY rfl sM rfl ⟨oM, oM⟩ ?_;refine z2 ?_;refine bS (l' := [_, _, _, _]) rfl tV rfl rfl ez rfl hw pK rfl rfl rfl fun w hw => ?_;refine aH ?_;have hz := hw.b [row 170 _ _ _ _];have hz := RS hz (by rw [bA]) (TL _) (j := la.length) oM;have e1 : ((la ++ [a]).map Ci).take la.length = la.map Ci := by rw [il]; exact List.take_left' sM
  rw [e1] at hz;have hz := hz.b [row 212 _ _ _ _, ag vq _ _, cX _ _, pI _, row 170 _ _ _ _, aT _, gZ _ _];refine ⟨(V.mark - mk).toNat - (j + 1), oM, [(0, _), (1, _)], sB, j + 1, oM, rfl, rfl, ?_⟩;rw [H7, <-hy, abU];have e2 : (((la ++ [a]).length : Int) - 1).toNat = la.length := by rw [oW]; omega
  rw [e2] at hz;exact ie (V := { y.back a.1 (a.2.2.map pA) with va := la.map MI }) (m := ⟨q, om, sQ ab la.length ac, zE, S, la⟩) ⟨hg.on, hg.Ih, hg.sm, rfl, fun x hx => hf.HP x (oT _ hx)⟩ hz.tail
 refine z6 ?_;exact br rfl rfl rfl (.inr ⟨oM, oM, rfl, by
 have WN : j = (V.mark - mk).toNat := oM;rw [<-WN, <-hy]; exact hw⟩)
end
def dw (key : bN) : List It -> Nat -> Nat × Bool
 | [], at_ => (at_, false)
 | x :: r, at_ => if 0 <= bU x.key key then (at_, decide (bU x.key key = 0)) else dw key r (at_ + 1)
def jd (key : bN) : List It -> Nat -> Nat
 | [], at_ => at_ - 1
 | x :: r, at_ => if 0 < bU x.key key then at_ - 1 else jd key r (at_ + 1)
def de (key : bN) (l : List It) : Nat := jd key (l.drop 1) 1
theorem Ev (key : bN) : ∀ (l : List It) (k a : Nat) (x : It), l[k]? = some x -> (∀ (j : Nat) (y : It), j < k -> l[j]? = some y -> ¬ 0 <= bU y.key key) -> dw key l a = dw key (l.drop k) (a + k)
 | l, 0, a, x, _, _ => by simp
 | [], k + 1, a, x, h, _ => by simp at h
 | y :: l, k + 1, a, x, h, hj => by
  have h0 := hj 0 y oM rfl;rw [dw, ae h0, R4, Ev key l k (a + 1) x (by simpa using h) (fun j z h1 h2 => hj (j + 1) z oM (by simpa using h2))]
  congr 1; omega
theorem zX (key : bN) : ∀ (l : List It) (a : Nat), (∀ y ∈ l, ¬ 0 <= bU y.key key) -> dw key l a = (a + l.length, false)
 | [], a, _ => rfl
 | y :: l, a, h => by
  rw [dw, ae (h y (fp ..)), zX key l (a + 1) (fun z hz => h z (gF _ hz)), jO]
  congr 1; omega
section
variable {G : Gh} {L R : List az} {w : World}
theorem nG {p : bm} {kv : Value} {key : bN} (hw : ar G L w) (hp : p.Ok L) (kk : aX L (kL kv key)) : Calls prog 80 #[gQ p.cells, kv] w (dv fun r w' => r = .tuple #[iQ (dw key p.pg.items 0).1, .bool (dw key p.pg.items 0).2] /\ ar G L w') := by
 obtain ⟨a1, c1, a2, c2, hs, hd, gJ⟩ := hp.form hw;obtain ⟨ka, kc, rfl⟩ := (kk.at hw).form;have kO := hp.its.sl;have T9 := hp.its.len;rw [gJ];rw [hs] at kO;refine al (args := [_, _]) func80 rfl ntmps80 rfl rfl ?_;refine z2 ?_;refine bE rfl rfl rfl hw rfl fun w b2 hw => ?_;refine z7 ?_;refine lD ao hw ?_;refine z4 ?_;refine cO (fun m e w => ∃ k : Nat, k <= p.l.length /\ m = p.l.length - k /\ e = [(1, .slice ka key.length kc), (2, pQ b2), (10, .slice a1 p.l.length c1), (11, iQ p.l.length), (12, iQ k)] /\ (∀ (j : Nat) (y : It), j < k -> p.pg.items[j]? = some y -> ¬ 0 <= bU y.key key) /\ ar G (ag b2 [iQ p.kind, iQ p.level, .slice a1 p.l.length c1, .slice a2 p.data.length c2, iQ p.next] 75 :: L) w)
  (m := p.l.length) sB
  ⟨0, fo _, rfl, rfl, (fun j y h => by omega), hw⟩ ?_
 rintro m e w ⟨k, hk, rfl, rfl, MU, hw⟩;refine z5 ?_;refine aS rfl (fun h1 => ?_) fun h1 => ?_
 ·
  have nS : k < p.l.length := oM;obtain ⟨x, hx⟩ : ∃ x, p.l[k]? = some x := ⟨_, cV nS⟩;have ot := hp.its.it x (ed hx);have vu : (p.l.map bT.cells)[k]? = some x.cells := by rw [dB, hx]; rfl
  have CM : p.pg.items[k]? = some x.it := by show (p.l.map bT.it)[k]? = _; rw [dB, hx]; rfl
  obtain ⟨bb, oo, rfl⟩ := ((kO.of sF).at hw).nn (by rw [bA]; omega);refine z6 ?_;refine dD rfl aG aY rfl rfl ⟨oM, oM⟩ ?_;refine bt rfl rfl (aj.many (cs := x.cells) aI rfl (by rw [fQ]; exact ((kO.of sF).at hw).at vu)) ?_;refine aN rfl fV hw rfl fun w b7 hw => ?_;refine z1 ?_;refine aL (cs := x.cells) (l' := x.cells) rfl tV rfl rfl aI rfl (mB (ot.of sF) hw) hw pK (by simp [bT.cells]) rfl rfl fun w hw => ?_;refine z4 ?_;refine lD (v := x.kv) ay hw ?_;refine z1 ?_;refine an rfl eT rfl (fb hw (ot.k.of sF) (kk.of sF)) rfl fun w v20 hv => ?_;obtain ⟨rfl, hw⟩ := hv;refine z7 ?_;refine aS rfl (fun h2 => ?_) fun h2 => ?_
  ·
   refine z9 ?_;exact eK rfl rfl rfl rfl (by
 have e := Ev key p.pg.items k 0 x.it CM MU;rw [dG CM, dw, ah h2] at e;rw [e];refine ⟨?_, (by repeat (first | exact hw | replace hw := hw.tail))⟩;simp only [r8])
  refine z5 ?_;have hw := (hw.b [ag b7 _ _]).tail;refine ⟨p.l.length - (k + 1), oM, [(1, _), (2, _), (10, _), (11, _), (12, iQ (k + 1 : Nat))], sB, k + 1, oM, rfl, rfl, fun j y hj hy => ?_, hw⟩
  by_cases LZ : j = k
  ·subst LZ;rw [CM] at hy; cases hy; exact h2
  exact MU j y oM hy
 refine z4 ?_;refine lD ao hw ?_;refine z5 ?_;exact eK rfl rfl rfl rfl (by
 have wg : k = p.l.length := oM;subst wg;have e := zX key p.pg.items 0 (fun y hy => by
  obtain ⟨j, hj, rfl⟩ := List.mem_iff_getElem.1 hy;exact MU j _ (by simpa [bm.pg] using hj) (cV hj))
 rw [e];refine ⟨?_, (by repeat (first | exact hw | replace hw := hw.tail))⟩;simp [bm.pg])
theorem oK {p : bm} {kv : Value} {key : bN} (hw : ar G L w) (hp : p.Ok L) (kk : aX L (kL kv key)) : Calls prog 122 #[gQ p.cells, kv] w (dv fun r w' => r = iQ (de key p.pg.items) /\ ar G L w') := by
 obtain ⟨a1, c1, a2, c2, hs, hd, gJ⟩ := hp.form hw;obtain ⟨ka, kc, rfl⟩ := (kk.at hw).form;have kO := hp.its.sl;have T9 := hp.its.len;rw [gJ];rw [hs] at kO;refine al (args := [_, _]) func122 rfl ntmps122 rfl rfl ?_;refine z2 ?_;refine bE rfl rfl rfl hw rfl fun w b2 hw => ?_;refine z8 ?_;refine cO (fun m e w => ∃ k : Nat, 1 <= k /\ (k <= p.l.length \/ k = 1) /\ m = p.l.length - k /\ e = [(1, .slice ka key.length kc), (2, pQ b2), (5, iQ k)] /\ de key p.pg.items = jd key (p.pg.items.drop k) k /\ ar G (ag b2 [iQ p.kind, iQ p.level, .slice a1 p.l.length c1, .slice a2 p.data.length c2, iQ p.next] 75 :: L) w)
  (m := p.l.length - 1) sB
  ⟨1, eW _, .inr rfl, rfl, rfl, rfl, hw⟩ ?_
 rintro m e w ⟨k, Hg, iX, rfl, rfl, CO, hw⟩;refine z5 ?_;refine lD ao hw ?_;refine z3 ?_;refine aS rfl (fun h1 => ?_) fun h1 => ?_
 ·
  have nS : k < p.l.length := oM;obtain ⟨x, hx⟩ : ∃ x, p.l[k]? = some x := ⟨_, cV nS⟩;have ot := hp.its.it x (ed hx);have vu : (p.l.map bT.cells)[k]? = some x.cells := by rw [dB, hx]; rfl
  have CM : p.pg.items[k]? = some x.it := by show (p.l.map bT.it)[k]? = _; rw [dB, hx]; rfl
  rw [dG CM, jd] at CO;obtain ⟨bb, oo, rfl⟩ := ((kO.of sF).at hw).nn (by rw [bA]; omega);refine z6 ?_;refine lD ao hw ?_;refine z1 ?_;refine dD rfl aG aY rfl rfl ⟨oM, oM⟩ ?_;refine cy rfl cE rfl ?_;refine bt rfl rfl (aj.one (v := x.kv) ay (((kO.of sF).at hw).cell vu rfl)) ?_;refine z1 ?_;refine an rfl eT rfl (fb hw (ot.k.of sF) (kk.of sF)) rfl fun w v20 hv => ?_;obtain ⟨rfl, hw⟩ := hv;refine z2 ?_;refine aS rfl (fun h2 => ?_) fun h2 => ?_
  ·
   refine z7 ?_;exact br rfl rfl rfl (by
 rw [ah h2] at CO;rw [CO];refine ⟨?_, (by repeat (first | exact hw | replace hw := hw.tail))⟩
 congr 1; omega)
  refine z6 ?_;rw [ae h2] at CO;exact ⟨p.l.length - (k + 1), oM, [(1, _), (2, _), (5, iQ (k + 1 : Nat))], sB, k + 1, oM, oM, rfl, rfl, CO, hw⟩
 refine z4 ?_;refine lD ao hw ?_;refine z2 ?_;refine M3 rfl rfl rfl ?_;refine z3 ?_;exact br rfl rfl rfl (by
 rw [u0 (by simp [bm.pg]; omega), jd] at CO;rw [CO];refine ⟨?_, (by repeat (first | exact hw | replace hw := hw.tail))⟩
 congr 1; omega)
theorem HB {x : bT} (hw : ar G L w) (hx : x.Ok L) : Calls prog 174 #[gQ x.cells] w (dv fun r w' => ∃ x' : bT, r = gQ x'.cells /\ x'.it = x.it /\ jN x'.cells /\ ar G (aT (bn x') :: L) w') := by
 refine al (args := [_]) func174 rfl ntmps174 rfl rfl ?_;refine z2 ?_;refine bE rfl rfl rfl hw rfl fun w b1 hw => ?_;refine aN rfl fV hw rfl fun w b2 hw => ?_;refine z2 ?_;refine bu [0, 1, 3, 4, 2, 6, 5, 7, 8, 9] bK kR ?_;replace hw := hw.drawn (w.drawn + 1);refine z1 ?_;refine lD (v := x.kv) ay hw ?_;refine z1 ?_;refine lD (v := x.vv) ay hw ?_;refine dL rfl gH rfl (iw hw (hx.k.of sF) hx.sk) (fun w v5 hv q' hq => ?_) fun w v5 hv => ?_
 ·
  have hw : ar G (row 5 1 v5 x.it.key.length (dV x.it.key) :: _) _ := hv;have hq := a9 (l := [4]) kR hq;simp only [bB, cW, or_false] at hq;subst hq;exact aV rfl rfl rfl (aj.bx (v := x.vv) ay hw pK rfl)
 have hw : ar G (row 5 1 v5 x.it.key.length (dV x.it.key) :: _) _ := hv;refine z1 ?_;refine an rfl gH rfl (iw hw (hx.v.of sF) hx.sv) kR fun w v8 hv => ?_;have hw : ar G (row 5 1 v8 x.it.value.length (dV x.it.value) :: _) _ := hv;obtain ⟨a5, c5, rfl⟩ := aM (hw.pick (A := row 5 1 v5 _ _) pK);obtain ⟨a8, c8, rfl⟩ := aM (hw.pick (A := row 5 1 v8 _ _) pK);have Fi : jN [.slice a5 x.it.key.length c5, .slice a8 x.it.value.length c8, iQ x.it.child, iQ x.it.size] := by intro u hu; simp at hu; rcases hu with rfl | rfl | rfl | rfl <;> rfl
 refine bS (l' := [_, _, _, _]) rfl tV rfl rfl ay rfl hw pK rfl rfl kR fun w hw => ?_;refine z1 ?_;refine bS (l' := [_, _, _, _]) rfl tV rfl rfl ay rfl hw pK rfl rfl kR fun w hw => ?_;refine z3 ?_;refine bt rfl rfl (aj.cw (l := [.slice a5 x.it.key.length c5, .slice a8 x.it.value.length c8, iQ x.it.child, iQ x.it.size]) aI hw pK sM) ?_;refine aL (cs := [.slice a5 x.it.key.length c5, .slice a8 x.it.value.length c8, iQ x.it.child, iQ x.it.size]) (l' := [.slice a5 x.it.key.length c5, .slice a8 x.it.value.length c8, iQ x.it.child, iQ x.it.size]) rfl tV rfl rfl aI rfl Fi hw pK sM rfl rfl fun w hw => ?_;refine z2 ?_;exact br rfl rfl ⟨_, rfl, (aj.cw aI hw pK sM)⟩ (by
 refine ⟨⟨x.it, .slice a5 x.it.key.length c5, .slice a8 x.it.value.length c8⟩, rfl, rfl, Fi, ?_⟩;exact ar.bH (M := bn _) ((hw.b [ag b1 _ _, ag b2 _ _, row 5 1 (.slice a5 _ _) _ _, row 5 1 (.slice a8 _ _) _ _]).tail.tail))
end
end Go.Proofs.YteifbglognfgdaaGreatDoor.X
