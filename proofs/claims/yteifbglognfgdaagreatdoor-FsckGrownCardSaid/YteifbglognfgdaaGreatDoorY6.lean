/- The ground and the walks of this claim, part 6: XGro15 XStep XGro16 XGro17 XGro18 XEnd1 XEnd2 XGrown XOpen3. -/
import Derived.Test.YteifbglognfgdaaGreatDoorY5
namespace Go.Proofs.YteifbglognfgdaaGreatDoor.X
open _root_.Go.Proofs.Tryz _root_.Go.Proofs.YteifbglognfgdaaGreatDoor.Tryz
set_option linter.unusedVariables false
set_option linter.unusedSimpArgs false
set_option maxRecDepth 20000
set_option maxHeartbeats 8000000
section
variable {V : Va} {H : Int -> Int} {O : Int -> Bool} {gh : mJ} {n : Int} {l : Nat} {key : bN}
theorem Gv.release {f : Nat} {ks : List bN} (h : Gv V H O gh) (hw : V.own n) (ho : O n = false) (hn : 1 <= H n) (hg : gh n = .nd 0 f ks) {a : Nat} {y : It} (hy : (V.pg n).items[a]? = some y) (he : (nq V y).1 = 0) :
  Gv (nq V y).2 (fun k => H k + cI (kN ((V.pg n).items.take a ++ (V.pg n).items.drop (a + 1))) k) (eR O n) gh /\ (∀ k, 1 <= H k -> (nq V y).2.pg k = V.pg k) /\ CG 0 (V.pg n) /\ M' gh 0 (V.pg n).items /\ f = (V.pg n).items.length /\ ks = (V.pg n).items.map It.key := by
 have hc := h.held hn;have hl := h.loc n hc ho;rw [hg] at hl;obtain ⟨l1, l2, l3, l4⟩ := cH.1 hl;have Kr : aA (V.pg n) = kN (V.pg n).items := mg (l := 0) l2;have tD := h.J6 hc;have Ww := ed hy;have WL := sV tD l2 y Ww;obtain ⟨s1, s2, s3⟩ := h.self hw hn ho;have SY : ∀ k, cI (aA (V.pg n)) k = cI (kN ((V.pg n).items.take a ++ (V.pg n).items.drop (a + 1))) k + cI (kN [y]) k := fun k => by
  rw [Kr]
  conv => lhs; rw [mC hy, show (V.pg n).items.take a ++ y :: (V.pg n).items.drop (a + 1) = (V.pg n).items.take a ++ ([y] ++ (V.pg n).items.drop (a + 1)) from rfl]
  rw [lF, lF, lF, cM, cM, cM]; omega
 have h1 := h.opens hw hn ho;unfold nq at he ⊢
 by_cases hs : y.size <= 32
 ·rw [ah hs];have hy0 := (WL.2.1 hs).2;refine ⟨h1.ey fun k => ?_, fun _ _ => rfl, l2, l4, l1, l3⟩
  show H k + _ = H k + cI (aA (V.pg n)) k
  rw [SY, oC y, kU, ae (fun h => h hy0)]; omega
 rw [ae hs] at he ⊢;have JG := (l4 y Ww oM).2;have Fc := sU l2 Ww JG;have hH2 : ∀ k, cI (kN [y]) k = dl y.child k := fun k => by rw [oC, kU, ah JG]
 have Vg : y.child ≠ n := fun e => s1 (e ▸ Fc)
 obtain ⟨d1, d2⟩ := h1.drop (n := y.child) (by have := df Fc; have := h.h0 y.child; show 1 <= H y.child + cI (aA (V.pg n)) y.child; omega) (by rw [oe Vg]; exact h.Ll hc ho Fc) he;have d1 := d1.ey (H' := fun k => H k + cI (kN ((V.pg n).items.take a ++ (V.pg n).items.drop (a + 1))) k) fun k => by
  show _ = H k + cI (aA (V.pg n)) k - dl y.child k
  rw [SY, hH2]; omega
 refine ⟨d1, fun k hk => d2 k (d1.held (n := k) ?_), l2, l4, l1, l3⟩;have := bW (kN ((V.pg n).items.take a ++ (V.pg n).items.drop (a + 1))) k
 show 1 <= H k + cI (kN ((V.pg n).items.take a ++ (V.pg n).items.drop (a + 1))) k
 omega
theorem LB {d : Cd} {f : Nat} {ks : List bN} (h : Gv d.V H O gh) (hw : d.V.own d.n) (ho : O d.n = false) (hn : 1 <= H d.n) (hg : gh d.n = .nd 0 f ks) (Ti : d.e = 0) (hp : d.p = d.V.pg d.n) (he : (n0 key d).2.1 = 0) :
  (d.T.items - 1 = 0 /\ (n0 key d).2.2 = kp /\ (ks.length = 1 -> Gv (n0 key d).1 (fun a => H a - dl d.n a) O gh)) ∨
  (d.T.items - 1 ≠ 0 /\ (n0 key d).2.2 = ⟨d.T.root, d.T.aK, d.T.items - 1⟩ /\ ∃ gh' f' sf, Gv (n0 key d).1 H O gh' /\ gh' d.n = .nd 0 f' sf /\ f = f' + 1 /\ sf.length + 1 = ks.length /\ (∀ k ∈ sf, k ∈ ks) /\ sf ≠ [] /\ ∀ k, 1 <= H k -> k ≠ d.n -> gh' k = gh k /\ (n0 key d).1.pg k = d.V.pg k) := by
 unfold n0 at he ⊢;obtain ⟨s, hs⟩ : ∃ s, s = dw key d.p.items 0 := ⟨_, rfl⟩;rw [<-hs, Ti] at he ⊢
 simp only at he ⊢
 by_cases h1 : DY s.2 0 ≠ 0
 ·rw [ah h1] at he; exact absurd he h1
 rw [ae h1] at he ⊢;have gD := (EP (cJ.1 h1)).1;have kO : s.1 < d.p.items.length := by
  have := tM key d.p.items 0 (by rw [<-hs]; exact gD);rw [<-hs] at this; omega
 rw [hp] at kO he ⊢;obtain ⟨y, hy⟩ : ∃ y, (d.V.pg d.n).items[s.1]? = some y := ⟨_, cV kO⟩;have G7 : (d.V.pg d.n).items.getD s.1 zF = y := by rw [qW, hy]; rfl
 rw [G7] at he ⊢
 by_cases h2 : d.T.items - 1 = 0
 ·rw [ah h2] at he ⊢;simp only at he ⊢
  obtain ⟨t1, t2, t3⟩ := vE he;refine .inl ⟨h2, trivial, fun Hg => ?_⟩;rw [t3];obtain ⟨r1, r2, r3, r4, r5, r6⟩ := h.release hw ho hn hg hy t1;obtain ⟨u1, u2⟩ := r1.RL fC t2;rw [rN ho] at u1;refine u1.ey fun k => ?_
  have e : (d.V.pg d.n).items.take s.1 ++ (d.V.pg d.n).items.drop (s.1 + 1) = [] := by
   have h5 : (d.V.pg d.n).items.length = 1 := by rw [r6, bA] at Hg; exact Hg
   rw [show s.1 = 0 by omega, K6, R7 oM]; rfl
  show H k - dl d.n k = H k + cI (kN _) k - dl d.n k
  rw [e]
  show _ = H k + cI [] k - _
  rw [sA]; omega
 rw [ae h2] at he ⊢;simp only at he ⊢
 obtain ⟨t1, t2, t3⟩ := Eh he;refine .inr ⟨h2, trivial, ?_⟩;rw [t3];obtain ⟨r1, r2, r3, r4, r5, r6⟩ := h.release hw ho hn hg hy t1;obtain ⟨V1, Dl⟩ : ∃ V1, V1 = (nq d.V y).2 := ⟨_, rfl⟩;rw [<-Dl] at r1 r2 t2 ⊢;obtain ⟨w1, w2, w3, w4, w5⟩ := r1.write fC t2;obtain ⟨q, hq⟩ : ∃ q, q = (d.V.pg d.n).items.take s.1 ++ (d.V.pg d.n).items.drop (s.1 + 1) := ⟨_, rfl⟩;rw [<-hq] at r1 w1 w2 w3 w4 w5 t2 ⊢
 obtain ⟨s1, s2, s3⟩ := h.self hw hn ho;have hqm : ∀ x ∈ q, x ∈ (d.V.pg d.n).items := fun x hx => by
  rw [hq] at hx;rcases eu.1 hx with hx | hx
  ·exact r9 hx
  exact Ad hx
 have hkq : aA { d.V.pg d.n with items := q } = kN q := mg (l := 0) (gU (l := 0) r3);have Df := w1.shut (g := .nd 0 q.length (q.map It.key)) fC (by
    rw [w3];exact cH.2 ⟨rfl, gU (l := 0) r3, rfl, fun x hx vw => by
     have h6 := r4 x (hqm x hx) vw;have h7 : x.child ≠ d.n := fun e => s1 (e ▸ sU r3 (hqm x hx) h6.2)
     rw [dN h7];exact h6⟩) (fun k => by
    rw [w3, hkq];have := EK hn h.nn k
    show _ <= H k + cI (kN q) k
    omega)
 rw [w3, hkq, rN ho] at Df;have MR : q.length + 1 = (d.V.pg d.n).items.length := by rw [hq, cj, fK, iC]; omega
 have hq1 : 1 <= q.length := ((ji w2).2.1 r3).2.2.2.1;refine ⟨_, q.length, q.map It.key, Df.ey fun k => by omega, jy, oM, by rw [r6, bA, bA]; exact MR, fun k hk => ?_, fun e => ?_, fun k hk uO => ⟨dN uO, (w4 k uO).trans (r2 k hk)⟩⟩
 ·obtain ⟨x, hx, rfl⟩ := dd.1 hk;rw [r6]; exact dd.2 ⟨x, hqm x hx, rfl⟩
 have := congrArg List.length e;rw [bA, vM] at this; omega
theorem qI {f : Nat} {d : Cd} (hf : 1 <= f) (h : ¬ (d.e = 0 /\ d.p.kind = 2)) : jr key f d = some d := by
 obtain ⟨f, rfl⟩ : ∃ g, f = g + 1 := ⟨f - 1, oM⟩;rw [jr, ah h]
theorem wB {d : Cd} (h : d.e ≠ 0) : (gn key d).2.1 ≠ 0 := by unfold gn; rw [ae h]; exact h
theorem L7 {x : Int} {u : Ct} (h : (eV x u).1 = true) : (eV x u).2.2.e ≠ 0 := by
 unfold eV at h ⊢;split at h
 ·rename_i h1;rw [ah h1];simp only at h ⊢;split at h
  ·rename_i h2; rw [ah h2]; exact h2
  cases h
 cases h
theorem Md.leave {d : Cd} {u : Ct} {y : Int} {j : Nat} {x : It} {fc : Nat} {kc ks : List bN} (h : Md u.V H O gh d.n l u.up y j x fc kc ks u.ch) (hnr : ¬ (d.n = d.T.root /\ u.up.items.length = 1)) (he : (fR d y u).e = 0) :
  Ix (fR d y u).V H O gh d.n l u.up ks /\ fR d y u = ⟨(fR d y u).V, 0, d.T, y, (fR d y u).V.pg y⟩ /\ (fR d y u).V.own y /\ (∀ k, k ≠ d.n -> (fR d y u).V.pg k = u.V.pg k) := by
 have Vg : y ≠ d.n := by rw [<-h.xc]; exact h.self x (ed h.it)
 unfold fR at he ⊢;rw [ae hnr] at he ⊢
 simp only at he ⊢;obtain ⟨t1, t2, t3⟩ := Eh he;rw [t3] at he ⊢
 obtain ⟨w1, w2, w3, w4, w5⟩ := h.g.write fC t2;refine ⟨⟨w1.ey fun k => by rw [dy h.kd.1], w3, w2, h.kd, h.ks, h.cc, fun hk => ?_, h.ho⟩, ?_, Bi t2 h.own, w4⟩
 ·rw [dy h.kd.1] at hk;obtain ⟨z, hz, e⟩ := dd.1 hk;exact h.self z hz e
 rw [w4 y Vg, h.pg, t2]
theorem VT : ∀ (l f : Nat) (d : Cd) (H : Int -> Int) (O : Int -> Bool) (gh : mJ) (fl : Nat) (ks : List bN), l < f -> Gv d.V H O gh -> d.V.own d.n -> O d.n = false -> 1 <= H d.n -> gh d.n = .nd l fl ks -> 5 <= fl -> d.e = 0 -> d.p = d.V.pg d.n -> O d.T.root = true -> 2 <= d.T.items →
  ∃ r, jr key f d = some r /\ ((gn key r).2.1 = 0 -> ∃ gh' f' sf, Gv (gn key r).1 H O gh' /\ gh' d.n = .nd l f' sf /\ 4 <= f' /\ sf.length + 1 = ks.length /\ (∀ k ∈ sf, k ∈ ks) /\ sf ≠ [] /\ (∀ k, 1 <= H k -> k ≠ d.n -> gh' k = gh k /\ (gn key r).1.pg k = d.V.pg k) /\ (gn key r).2.2 = ⟨d.T.root, d.T.aK, d.T.items - 1⟩) := by
 intro l
 induction l with
 | zero =>
  intro f d H O gh fl ks hf h hw ho hn hg h5 Ti hp hR ZF;have hc := h.held hn;have hl := h.loc _ hc ho;rw [hg] at hl;have Qu : (d.V.pg d.n).kind = 1 := (cH.1 hl).2.1;refine ⟨d, qI oM (fun h2 => by rw [hp] at h2; omega), fun he => ?_⟩;have e1 : gn key d = n0 key d := ah Ti;rw [e1] at he ⊢
  rcases LB h hw ho hn hg Ti hp he with ⟨a1, -⟩ | ⟨a1, a2, gh', f', sf, b1, b2, b3, b4, b5, b6, b7⟩
  ·omega
  exact ⟨gh', f', sf, b1, b2, oM, b4, b5, b6, b7, a2⟩
 | succ l ih =>
  intro f d H O gh fl ks hf h hw ho hn hg h5 Ti hp hR ZF;obtain ⟨f, rfl⟩ : ∃ g, f = g + 1 := ⟨f - 1, oM⟩;obtain ⟨NM, ud⟩ := h.index hw hn ho hg;have hH := EK hn h.nn;have hnr : d.n ≠ d.T.root := fun e => by rw [e, hR] at ho; cases ho
  rw [jr, ae (not_not_intro ⟨Ti, by rw [hp]; exact NM.kd.1⟩)]
  by_cases sZ : (eV (cU key d).1 (cU key d).2).1 = true
  ·rw [ah sZ];exact ⟨_, rfl, fun he => absurd he (wB (L7 sZ))⟩
  rw [ae sZ];have sZ : (eV (cU key d).1 (cU key d).2).1 = false := by simpa using sZ
  by_cases hle : (fR d (eV (cU key d).1 (cU key d).2).2.1 (eV (cU key d).1 (cU key d).2).2.2).e ≠ 0
  ·exact ⟨_, qI oM (fun h2 => hle h2.1), fun he => absurd he (wB hle)⟩
  have hle := cJ.1 hle;obtain ⟨u6, j, x, fc, kc, m1, m2, m3⟩ := Pc NM hH hp sZ (Al hle);obtain ⟨y, hy⟩ : ∃ y, y = (eV (cU key d).1 (cU key d).2).2.1 := ⟨_, rfl⟩;obtain ⟨u, hu⟩ : ∃ u, u = (eV (cU key d).1 (cU key d).2).2.2 := ⟨_, rfl⟩;rw [<-hy, <-hu] at hle m1 ⊢;rw [<-hu] at m2 m3
  obtain ⟨v1, v2, v3, v4⟩ := m1.leave (fun h2 => hnr h2.1) hle;obtain ⟨d', yk⟩ : ∃ d', d' = fR d y u := ⟨_, rfl⟩;rw [<-yk] at v1 v2 v3 v4 ⊢;have rf : d'.n = y := by rw [v2]
  have YF : d'.T = d.T := by rw [v2]
  have hdp : d'.p = d'.V.pg y := by rw [v2]
  have hde : d'.e = 0 := by rw [v2]
  have BN := m1.xc;have Kn := ed m1.it;have Ku : ∀ a, 0 <= H a := h.h0;obtain ⟨V9, ZP, ZO, V8⟩ := v1.alone Ku m1.it (by rw [BN]; exact v3);rw [BN] at V9 ZP ZO V8;have hoy : eR O d.n y = false := by
   cases e : eR O d.n y with
   | false => rfl
   | true => have h2 := hH y; rw [e, rS, V9] at h2; omega
  have Fc : y ∈ aA u.up := by rw [<-BN]; exact g9 m1.kd.1 Kn
  have hRo : eR O d.n d'.T.root = true := by rw [YF, oe (fun e => hnr e.symm)]; exact hR
  obtain ⟨r, hr, bQ⟩ := ih f d' (fun a => H a + cI (aA u.up) a) (eR O d.n) u6 fc kc oM v1.g (by rw [rf]; exact v3) (by rw [rf]; exact hoy) (by
     rw [rf];have := df Fc; have := Ku y
     show 1 <= H y + cI (aA u.up) y
     omega) (by rw [rf]; exact m1.gy) m1.f5 hde (by rw [rf]; exact hdp) hRo (by rw [YF]; exact ZF)
  refine ⟨r, hr, fun he => ?_⟩;obtain ⟨GS, f4, k4, a1, a2, a3, a4, a5, a6, a7, a8⟩ := bQ he;rw [rf] at a2 a7;have qU := v1.ch;rw [mC m1.it, mn] at qU
  obtain ⟨-, ⟨fj, kj, o1, o2, o3, o4⟩, -⟩ := qU;rw [BN, m1.gy] at o1; cases o1;have Bb : ∀ k, 1 <= H k + cI (aA u.up) k -> k ≠ y -> GS k = u6 k /\ (gn key r).1.pg k = d'.V.pg k := a7;obtain ⟨ZJ, k5, b1, b2, b3, b4, b5, b6⟩ := v1.shut (V' := (gn key r).1) (gh' := GS) (H' := H) (f := fc) (f' := f4) (kj := kc) (kj' := k4) m1.it (by rw [BN]; exact m1.gy) a3 a6 (fun k hk => o4 k (a5 k hk)) a1 (by
     rw [(Bb d.n (by have := bW (aA u.up) d.n; omega) (fun e => V8 e.symm)).2]; exact v1.pg) (by rw [BN]; exact a2) (fun z hz => by
     have XM : z ∈ u.up.items := by
      rcases eu.1 hz with hz | hz
      ·exact r9 hz
      ·exact Ad hz
     have XK : z.child ≠ y := fun e => by
      rcases eu.1 hz with hz | hz
      ·have := df (pB (f := It.child) hz); rw [e] at this; omega
      ·have := df (pB (f := It.child) hz); rw [e] at this; omega
     exact (Bb z.child (by have := Ku z.child; have := df (g9 m1.kd.1 XM); omega) XK).1) hH
  refine ⟨ZJ, _, k5, b1, b2, oM, ?_, fun k hk => ?_, b5, fun k hk uO => ?_, ?_⟩
  ·rw [b3, b4];simp only [cj]; omega
  ·rw [b3] at hk;rw [b4];simp only [eu] at hk ⊢
   rcases hk with hk | hk | hk
   ·exact .inl hk
   ·exact .inr (.inl (a5 k hk))
   exact .inr (.inr hk)
  ·have Ta : k ≠ y := fun e => by rw [e] at hk; omega
   have t1 := Bb k (by have := bW (aA u.up) k; omega) Ta;have t2 := m3 k hk uO;exact ⟨(b6 k uO).trans (t1.1.trans t2.1), t1.2.trans ((v4 k uO).trans t2.2)⟩
  rw [a8, YF]
theorem VR : ∀ (l f : Nat) (d : Cd) (H : Int -> Int) (O : Int -> Bool) (gh : mJ) (fl : Nat) (ks : List bN), l < f -> Gv d.V H O gh -> d.V.own d.n -> O d.n = false -> 1 <= H d.n -> gh d.n = .nd l fl ks -> d.e = 0 -> d.p = d.V.pg d.n -> d.n = d.T.root -> d.T.aK = (l : Int) + 1 -> d.T.items = (ks.length : Int) →
  ∃ r, jr key f d = some r /\ ((gn key r).2.1 = 0 -> ∃ gh', ((((gn key r).2.2 = kp /\ Gv (gn key r).1 (fun a => H a - dl d.n a) O gh') \/ ∃ l' f' sf, Gv (gn key r).1 (fun a => H a - dl d.n a + dl (gn key r).2.2.root a) O gh' /\ (gn key r).2.2.root ≠ 0 /\ gh' (gn key r).2.2.root = .nd l' f' sf /\ (gn key r).2.2.aK = (l' : Int) + 1 /\ (gn key r).2.2.items = (sf.length : Int) /\ sf ≠ [] /\ l' <= l)) ∧
   (∀ k, 1 <= H k - dl d.n k -> gh' k = gh k) /\ (gn key r).2.2.items <= d.T.items) := by
 intro l
 induction l with
 | zero =>
  intro f d H O gh fl ks hf h hw ho hn hg Ti hp hR hh ZF;have hc := h.held hn;have hl := h.loc _ hc ho;rw [hg] at hl;have Qu : (d.V.pg d.n).kind = 1 := (cH.1 hl).2.1;have ZC : d.n ≠ 0 := fun e => by
   have h6 : bg d.V.po.c d.n := cg hc;unfold bg at h6; omega
  refine ⟨d, qI oM (fun h2 => by rw [hp] at h2; omega), fun he => ?_⟩;have e1 : gn key d = n0 key d := ah Ti;rw [e1] at he ⊢;obtain ⟨s1, s2, s3⟩ := h.self hw hn ho;rcases LB h hw ho hn hg Ti hp he with ⟨a1, a2, a3⟩ | ⟨a1, a2, gh', f', sf, b1, b2, b3, b4, b5, b6, b7⟩
  ·refine ⟨gh, .inl ⟨a2, a3 oM⟩, fun _ _ => rfl, ?_⟩;rw [a2]; show (0 : Int) <= _; omega
  rw [a2];refine ⟨gh', .inr ⟨0, f', sf, b1.ey fun k => ?_, by show d.T.root ≠ 0; rw [<-hR]; exact ZC, by show gh' d.T.root = _; rw [<-hR]; exact b2, hh, by show d.T.items - 1 = _; omega, b6, eW _⟩, fun k hk => ?_, by show d.T.items - 1 <= _; omega⟩
  ·show H k - dl d.n k + dl d.T.root k = H k
   rw [<-hR]; omega
  have uO : k ≠ d.n := fun e => by rw [e, dS, s2] at hk; omega
  exact (b7 k (by have := fN d.n k; omega) uO).1
 | succ l ih =>
  intro f d H O gh fl ks hf h hw ho hn hg Ti hp hR hh ZF;obtain ⟨f, rfl⟩ : ∃ g, f = g + 1 := ⟨f - 1, oM⟩;obtain ⟨NM, ud⟩ := h.index hw hn ho hg;have hH := EK hn h.nn;obtain ⟨s1, s2, s3⟩ := h.self hw hn ho;have Ku : ∀ a, 0 <= H a := h.h0;rw [jr, ae (not_not_intro ⟨Ti, by rw [hp]; exact NM.kd.1⟩)]
  by_cases sZ : (eV (cU key d).1 (cU key d).2).1 = true
  ·rw [ah sZ];exact ⟨_, rfl, fun he => absurd he (wB (L7 sZ))⟩
  rw [ae sZ];have sZ : (eV (cU key d).1 (cU key d).2).1 = false := by simpa using sZ
  by_cases hle : (fR d (eV (cU key d).1 (cU key d).2).2.1 (eV (cU key d).1 (cU key d).2).2.2).e ≠ 0
  ·exact ⟨_, qI oM (fun h2 => hle h2.1), fun he => absurd he (wB hle)⟩
  have hle := cJ.1 hle;obtain ⟨u6, j, x, fc, kc, m1, m2, m3⟩ := Pc NM hH hp sZ (Al hle);obtain ⟨y, hy⟩ : ∃ y, y = (eV (cU key d).1 (cU key d).2).2.1 := ⟨_, rfl⟩;obtain ⟨u, hu⟩ : ∃ u, u = (eV (cU key d).1 (cU key d).2).2.2 := ⟨_, rfl⟩;rw [<-hy, <-hu] at hle m1 ⊢;rw [<-hu] at m2 m3
  have BN := m1.xc;have Kn := ed m1.it;have Vg : y ≠ d.n := by rw [<-BN]; exact m1.self x Kn
  by_cases YG : d.n = d.T.root /\ u.up.items.length = 1
  ·
   have LW : fR d y u = ⟨(xE u.V u.e d.n).2.2, (xE u.V u.e d.n).2.1, ⟨y, d.T.aK - 1, d.T.items⟩, y, u.ch⟩ := ah YG;rw [LW] at hle ⊢;simp only at hle
   obtain ⟨t1, t2, t3⟩ := vE hle;rw [t3] at hle ⊢;obtain ⟨u1, u2⟩ := m1.g.RL fC t2;rw [rN m1.ho] at u1
   have WR : u.up.items = [x] := by
    obtain ⟨z, hz⟩ := List.length_eq_one_iff.1 YG.2;rw [hz] at Kn ⊢;simp at Kn; rw [Kn]
   have SY : ∀ a, cI (u.up.items.map It.child) a = dl y a := fun a => by
    rw [WR, <-BN]
    show cI [x.child] a = _
    rw [gr, sA]; unfold dl; omega
   have Ar : ks = kc := by
    rw [m1.ks, WR];unfold iG;rw [ku, List.flatMap_nil, my, BN, m1.gy]; rfl
   have hyH : H y = 0 := by
    have h2 := m1.g.B1 y;have h3 := m1.own.2;have h2 : H y + cI (u.up.items.map It.child) y <= u.V.bw y := h2;rw [SY, dS] at h2;have := Ku y; omega
   have hoy : O y = false := by
    cases e : O y with
    | false => rfl
    | true => have h2 := h.nn y; rw [e, rS, hyH] at h2; omega
   obtain ⟨r, hr, bQ⟩ := ih f ⟨(u.V.take d.n).2.2, (u.V.take d.n).2.1, ⟨y, d.T.aK - 1, d.T.items⟩, y, u.ch⟩ (fun a => H a - dl d.n a + dl y a) O u6 fc kc oM (u1.ey fun a => by
      show H a - dl d.n a + dl y a = H a + cI (u.up.items.map It.child) a - dl d.n a
      rw [SY]; omega) ((u2 y Vg).2.2 m1.own) hoy (by show 1 <= H y - dl d.n y + dl y y; rw [js Vg, dS, hyH]; omega) m1.gy t2 (by show u.ch = (u.V.take d.n).2.2.pg y; rw [(u2 y Vg).1]; exact m1.pg.symm) rfl (by show d.T.aK - 1 = _; omega) (by show d.T.items = _; rw [ZF, Ar])
   refine ⟨r, hr, fun he => ?_⟩;obtain ⟨gh', c1, c2, c3⟩ := bQ he;refine ⟨gh', ?_, fun k hk => ?_, c3⟩
   ·rcases c1 with ⟨c4, c5⟩ | ⟨l', f', sf, c4, c5, c6, c7, c8, c9, tE⟩
    ·exact .inl ⟨c4, c5.ey fun a => by show H a - dl d.n a = H a - dl d.n a + dl y a - dl y a; omega⟩
    exact .inr ⟨l', f', sf, c4.ey fun a => by show H a - dl d.n a + _ = H a - dl d.n a + dl y a - dl y a + _; omega, c5, c6, c7, c8, c9, oM⟩
   have uO : k ≠ d.n := fun e => by rw [e, dS, s2] at hk; omega
   rw [c2 k (by show 1 <= H k - dl d.n k + dl y k - dl y k; omega)];exact (m3 k (by have := fN d.n k; omega) uO).1
  obtain ⟨v1, v2, v3, v4⟩ := m1.leave YG hle;obtain ⟨d', yk⟩ : ∃ d', d' = fR d y u := ⟨_, rfl⟩;rw [<-yk] at v1 v2 v3 v4 ⊢;have rf : d'.n = y := by rw [v2]
  have YF : d'.T = d.T := by rw [v2]
  have hdp : d'.p = d'.V.pg y := by rw [v2]
  have hde : d'.e = 0 := by rw [v2]
  obtain ⟨V9, ZP, ZO, V8⟩ := v1.alone Ku m1.it (by rw [BN]; exact v3);rw [BN] at V9 ZP ZO V8;have hoy : eR O d.n y = false := by
   cases e : eR O d.n y with
   | false => rfl
   | true => have h2 := hH y; rw [e, rS, V9] at h2; omega
  have Fc : y ∈ aA u.up := by rw [<-BN]; exact g9 m1.kd.1 Kn
  have qU := v1.ch;rw [mC m1.it, mn] at qU;obtain ⟨-, ⟨fj, kj, o1, o2, o3, o4⟩, -⟩ := qU;rw [BN, m1.gy] at o1; cases o1
  have Ar := v1.ks;rw [mC m1.it, qf, BN, m1.gy] at Ar;have acD : 2 <= d.T.items := by
   have h7 : 2 <= u.up.items.length := by
    have := (ji v1.ck).2.2.1 v1.kd.1;omega
   have h8 : 2 <= ks.length := by
    have hj := (nU.1 m1.it).1;have h9 : 1 <= (iG u6 (u.up.items.take j)).length + (iG u6 (u.up.items.drop (j + 1))).length := by
     have oG := v1.ch;rw [mC m1.it, mn] at oG
     by_cases e : u.up.items.take j = []
     ·have e2 : u.up.items.drop (j + 1) ≠ [] := fun e2 => by
       have := congrArg List.length e;have := congrArg List.length e2;rw [fK, vM] at *;rw [iC] at this
       omega
      have := UG.2 (Gj oG.2.2 e2); omega
     have := UG.2 (Gj oG.1 e); omega
    rw [Ar];have := UG.2 o3;simp only [cj, Gn.ks]; omega
   omega
  obtain ⟨r, hr, bQ⟩ := VT (key := key) l f d' (fun a => H a + cI (aA u.up) a) (eR O d.n) u6 fc kc oM v1.g (by rw [rf]; exact v3) (by rw [rf]; exact hoy) (by
      rw [rf];have := df Fc; have := Ku y
      show 1 <= H y + cI (aA u.up) y
      omega) (by rw [rf]; exact m1.gy) m1.f5 hde (by rw [rf]; exact hdp) (by rw [YF, <-hR]; exact fC) (by rw [YF]; exact acD)
  refine ⟨r, hr, fun he => ?_⟩;obtain ⟨GS, f4, k4, a1, a2, a3, a4, a5, a6, a7, a8⟩ := bQ he;rw [rf] at a2 a7;have Bb : ∀ k, 1 <= H k + cI (aA u.up) k -> k ≠ y -> GS k = u6 k /\ (gn key r).1.pg k = d'.V.pg k := a7;obtain ⟨ZJ, k5, b1, b2, b3, b4, b5, b6⟩ := v1.shut (V' := (gn key r).1) (gh' := GS) (H' := H) (f := fc) (f' := f4) (kj := kc) (kj' := k4) m1.it (by rw [BN]; exact m1.gy) a3 a6 (fun k hk => o4 k (a5 k hk)) a1 (by
      rw [(Bb d.n (by have := bW (aA u.up) d.n; omega) (fun e => V8 e.symm)).2]; exact v1.pg) (by rw [BN]; exact a2) (fun z hz => by
      have XM : z ∈ u.up.items := by
       rcases eu.1 hz with hz | hz
       ·exact r9 hz
       ·exact Ad hz
      have XK : z.child ≠ y := fun e => by
       rcases eu.1 hz with hz | hz
       ·have := df (pB (f := It.child) hz); rw [e] at this; omega
       ·have := df (pB (f := It.child) hz); rw [e] at this; omega
      exact (Bb z.child (by have := Ku z.child; have := df (g9 m1.kd.1 XM); omega) XK).1) hH
  have ZC : d.n ≠ 0 := fun e => by
   have h6 : bg d.V.po.c d.n := cg (h.held hn);unfold bg at h6; omega
  rw [a8, YF];refine ⟨ZJ, .inr ⟨l + 1, _, k5, b1.ey fun k => ?_, by show d.T.root ≠ 0; rw [<-hR]; exact ZC, by show ZJ d.T.root = _; rw [<-hR]; exact b2, hh, ?_, b5, eW _⟩, fun k hk => ?_, by show d.T.items - 1 <= _; omega⟩
  ·show H k - dl d.n k + dl d.T.root k = H k
   rw [<-hR]; omega
  ·show d.T.items - 1 = _
   rw [ZF, b3, b4];simp only [cj]; omega
  have uO : k ≠ d.n := fun e => by rw [e, dS, s2] at hk; omega
  have Hg : 1 <= H k := by have := fN d.n k; omega
  have Ta : k ≠ y := fun e => by rw [e] at Hg; omega
  have t1 := Bb k (by have := bW (aA u.up) k; omega) Ta;have t2 := m3 k Hg uO;exact (b6 k uO).trans (t1.1.trans t2.1)
end
theorem RP {V : Va} {t : Tr} (aJ : V.Ok) (ht : jC t \/ ∃ M, w8 V.rd t M) : ∃ (kk : Nat) (its : List It), (t.root ≠ 0 -> mw V.rd kk t.root /\ ∃ r', mD V.rd kk t.root r') /\ its = (if t.root = 0 then [] else lX V.rd C8.rg (t.root, kk)) /\ (t.root ≠ 0 -> qe V.rd kk t.root <= 1000000000) /\ (∀ x ∈ its, (fa V.rd x).1 = 0) /\ its.length <= 1000000000 /\ cL V.rd t = its.map (PY V.rd) := by
 obtain ⟨kk, we⟩ : ∃ kk, kk = (t.aK - 1).toNat := ⟨_, rfl⟩;have gD : t.root ≠ 0 -> ∃ M, w8 V.rd t M := fun h => ht.resolve_left fun hn => h hn.1
 have hs : t.root ≠ 0 -> mw V.rd kk t.root /\ ∃ r', mD V.rd kk t.root r' := fun h => by
  obtain ⟨M, hM⟩ := gD h;rw [we]; exact ⟨hM.sound, _, hM.keys⟩
 obtain ⟨its, iE⟩ : ∃ its, its = if t.root = 0 then [] else lX V.rd C8.rg (t.root, kk) := ⟨_, rfl⟩
 have CQ : its = if t.root = 0 then [] else lW V.rd kk t.root := by
  rw [iE]
  by_cases h : t.root = 0
  ·rw [ah h, ah h]
  obtain ⟨M, hM⟩ := gD h;rw [ae h, ae h, we];exact E9 hM.keys
 have Fj : t.root ≠ 0 -> qe V.rd kk t.root <= 1000000000 := fun h => by
  obtain ⟨M, hM⟩ := gD h;have h1 := hM.num;have h2 := Va.tW aJ hM.nd hM.th;rw [we]; omega
 have Hf : ∀ x ∈ its, (fa V.rd x).1 = 0 := fun x hx => by
  rw [CQ] at hx
  by_cases h : t.root = 0
  ·rw [ah h] at hx; simp at hx
  rw [ae h] at hx; exact vY (hs h).1 x hx
 have ud : cL V.rd t = its.map (PY V.rd) := by
  unfold cL;rw [CQ, <-we]
  by_cases h : t.root = 0
  ·rw [ah h, ah h]; rfl
  rw [ae h, ae h, zi]
 refine ⟨kk, its, hs, iE, Fj, Hf, ?_, ud⟩;have e := congrArg List.length ud;rw [bA] at e;rw [<-e];unfold cL
 by_cases h : t.root = 0
 ·rw [ah h]; simp
 obtain ⟨M, hM⟩ := gD h;rw [ae h];have h1 := hM.items;have h2 := hM.many;have h3 := Va.tW aJ hM.nd hM.th;omega
structure Opr where
 kind : Int
 t : Int
 key : bN
 value : bN
structure Pt where
 o : Opr
 kv : Value
 vv : Value
def Pt.cells (o : Pt) : List Value := [iQ o.o.kind, iQ o.o.t, o.kv, o.vv]
structure Pt.Ok (o : Pt) (L : List az) : Prop where
 k : aX L (kL o.kv o.o.key)
 v : aX L (kL o.vv o.o.value)
theorem Pt.Ok.of {o : Pt} {L L' : List az} (h : o.Ok L) (hs : Ps L L') : o.Ok L' := ⟨h.k.of hs, h.v.of hs⟩
def yf (t : Int) (n : Nat) : Nat := (if t.tmod n < 0 then t.tmod n + n else t.tmod n).toNat
def bJ (ts : List Tr) (i : Nat) : List Tr := ts.take i ++ ts.drop (i + 1)
def ye (V : Va) (ts : List Tr) (o : Opr) : Option (Va × List Tr) :=
 if ts.length = 0 \/ o.kind < 0 \/ 4 < o.kind then some (V, if ts.length < 20 then ts ++ [kp] else ts) else
 let i := yf o.t ts.length
 let t := ts.getD i kp
 if o.kind = 0 then (yT 20 V t o.key o.value).map fun r => (r.2.2.2, if r.2.2.1 = 0 then ts.set i r.1 else ts)
 else if o.kind = 1 then (Mh 20 V t o.key).map fun r => (r.2.2.2, if r.2.2.1 = 0 then ts.set i r.1 else ts)
 else if o.kind = 2 then if ¬ ts.length < 20 then some (V, ts) else if t.root = 0 then some (V, ts ++ [t]) else some ((V.pC t.root).2, if (V.pC t.root).1 = 0 then ts ++ [t] else ts)
 else if o.kind = 3 then if t.root = 0 then some (V, bJ ts i) else some ((V.drop t.root).2, if (V.drop t.root).1 = 0 then bJ ts i else ts)
 else some (V.settle, ts)
theorem KL {t : Int} {n : Nat} (h : 0 < n) : yf t n < n /\ ((yf t n : Nat) : Int) = if t.tmod n < 0 then t.tmod n + n else t.tmod n := by
 have h1 : t.tmod n < n := by
  have h2 := Int.tmod_lt_of_pos t (show (0 : Int) < n by omega);exact h2
 have h2 : -(n : Int) < t.tmod n := by
  have := Int.lt_tmod_of_pos t (show (0 : Int) < n by omega);exact this
 unfold yf;split
 ·omega
 omega
theorem zS (l : List Tr) : ∀ r ∈ l.map aC, r.length = 3 := fun r hr => by obtain ⟨x, _, rfl⟩ := dd.1 hr; rfl
theorem lz (t : Tr) : jN (aC t) := by intro u hu; simp [aC] at hu; rcases hu with rfl | rfl | rfl <;> rfl
theorem n8 (l : List Tr) : jN (l.map aC).flatten := fun u hu => by
 obtain ⟨r, hr, hu⟩ := List.mem_flatten.1 hu;obtain ⟨x, _, rfl⟩ := dd.1 hr;exact lz x u hu
abbrev pw (v : Value) (l : List Tr) : az := row 62 3 v l.length (l.map aC).flatten
theorem En {v : Value} {l : List Tr} {t : Tr} {G : Gh} {L : List az} {w : World} (h : ar G (row 62 3 v (l.length + 1) ((l.map aC).flatten ++ aC t) :: L) w) : ar G (pw v (l ++ [t]) :: L) w := by
 have e : ((l ++ [t]).map aC).flatten = (l.map aC).flatten ++ aC t := by simp
 unfold pw;rw [e, cj, jt];exact h
theorem gC.TA {z b lo cap : Nat} {rs : List (List Value)} {w : World} (h : gC z (.slice (some ⟨b, 0, none⟩) rs.length cap) rs w) (hl : lo <= rs.length) : gC z (.slice (some ⟨b, 0 + lo * z, none⟩) (rs.length - lo) (cap - lo)) (rs.drop lo) w := by
 rcases h with ⟨a, h1, -, h3⟩ | ⟨b', o', c', h1, h2, h3, h4⟩
 ·subst h3;injection h1 with _ _ h1;simp only [vM, Nat.le_zero] at hl;subst hl h1;exact .inl ⟨_, rfl, fun _ _ => rfl, by simp⟩
 cases h1;refine .inr ⟨b, 0 + lo * z, cap - lo, by rw [iC], by rw [iC]; omega, fun r hr => h3 r (Ad hr), ?_⟩;have hd := h4.drop (lo * z);have e : rs.flatten.drop (lo * z) = (rs.drop lo).flatten := by
  have h5 : (rs.take lo).flatten.length = lo * z := by
   rw [dk (z := z) fun r hr => h3 r (r9 hr), fK, Nc hl]
  conv => lhs; rw [<-qd lo rs, K8, <-h5, List.drop_left]
 rw [e] at hd;exact hd
section
variable {P : Program} {n : Nat} {ops : Array Oper} {dr : Bool} {done r : List Nat} {K : gj -> World -> Prop} {e : gj} {w : World} {i d : Nat} {t s T : TypeId} {pp : String} {af : Array Edge} {g : Option (Nat × Bool)} {x y : Operand}
theorem I2 {c : TypeId} {b len cap z : Nat} {lo : Int} {kl : IntKind} {l : Operand} (ho : ops[i]? = some ⟨some d, .slice s x (some l) none none, t, pp, af, g⟩) (hs : P.underlying s = some (.slice c)) (hz : (P.info? c).map (·.size) = some z)
  (hx : ev e x = some (sQ b len cap)) (hl : ev e l = some (.int kl lo)) (hb : 0 <= lo /\ lo <= len) (hc : len <= cap)
  (h : ∀ u, (u = .slice (some ⟨b, 0 + lo.toNat * z, none⟩) (len - lo.toNat) (cap - lo.toNat)) \/ (lo = len /\ u = sQ b 0 0) -> XL P n ops dr (i :: done) r K ((d, u) :: e) w) (hd : Nat.blt d n = true := by exact rfl) (hg : Gd ops e g := by first | trivial | exact ⟨_, rfl, rfl⟩) : XL P n ops dr done (i :: r) K e w := by
 by_cases h1 : lo < cap
 ·exact Rx (hd := hd) (hg := hg) ho hs hz hx hl hb h1 (h _ (.inl rfl))
 have e1 : len = cap := oM;subst e1;exact Og (hd := hd) (hg := hg) ho hs (by rw [hz]; rfl) hx hl oM (h _ (.inr ⟨oM, rfl⟩))
end
theorem Jd {b T z : Nat} {G : Gh} {L : List az} {w : World} (h : ar G (ag b [] T :: L) w) : ar G (row T z (sQ b 0 0) 0 [] :: L) w := jE h sM mL
section
variable {G : Gh} {L R : List az} {w : World}
theorem J0 {vq : Nat} {V : Va} {t : Tr} (hw : ar G (aZ vq V :: L) w) (aJ : V.Ok) (ht : jC t \/ ∃ M, w8 V.rd t M) :
  Calls prog 17 #[pQ vq, gQ (aC t), gQ C8.cells] w (dv fun u w' => ∃ (v : Value) (l : List pH), u = .tuple #[v, iQ 0] /\ (l.map pH.pr = cL V.rd t /\ l.length <= 1000000000) /\ ar G (row 66 2 v l.length (l.map pH.cells).flatten :: aT (l.flatMap dO) :: aZ vq V :: L) w') := by
 obtain ⟨kk, its, hs, iE, Fj, Hf, hle, ud⟩ := RP aJ ht;refine al (args := [_, _, _]) func17 rfl ntmps17 rfl rfl ?_;refine z2 ?_;refine bE rfl rfl rfl hw rfl fun w b4 hw => ?_;refine bE rfl rfl rfl hw rfl fun w b5 hw => ?_;refine z6 ?_;refine lA (l := aC t) aF hw ?_;refine lA (l := C8.cells) bj hw ?_;refine an rfl wO rfl (yr (kk := kk) (r := C8) (its := its) (hw.b [aZ vq V]) aJ hs iE Fj (fun n p i hp => Sl aJ hp) (OG _) Hf hle) rfl fun w v11 hv => ?_;obtain ⟨v, l, rfl, hl, hw⟩ := hv;have oW := congrArg List.length hl;rw [bA, bA] at oW;refine z6 ?_;exact eK rfl rfl rfl rfl ⟨v, l, rfl, ⟨by rw [hl, ud], oM⟩, (hw.b [ag b4 _ _, ag b5 _ _]).tail.tail⟩
theorem HD {vq : Nat} {V : Va} {tv : Value} {ts : List Tr} {o : Pt} {res : Va × List Tr} (hw : ar G (pw tv ts :: aZ vq V :: L) w) (aJ : V.Ok) (dm : V.sz <= 980000000000) (hts : ts.length <= 20) (hT : ∀ t ∈ ts, (0 <= t.aK /\ t.aK <= 1000) /\ 0 <= t.items /\ t.items <= 1000000) (ho : o.Ok L) (bQ : ye V ts o.o = some res) :
  Calls prog 16 #[pQ vq, tv, gQ o.cells] w (dv fun r w' => ar G (pw r res.2 :: aZ vq res.1 :: L) w') := by
 obtain ⟨ta, tc, rfl⟩ := aM hw;refine al (args := [_, _, _]) func16 rfl ntmps16 rfl rfl ?_;refine z2 ?_;refine bE rfl rfl rfl hw rfl fun w b5 hw => ?_;refine z6 ?_;refine dQ rfl kR aU rfl ?_;refine z2 ?_;refine bY (l1 := [4, 5, 6, 7]) (l2 := [8, 9, 10, 11, 12]) rfl (d := 22) (ts.length = 0 \/ o.o.kind < 0) rfl ?_ ?_
 ·
  refine aE (d := 18) rfl (fun h1 => ?_) fun h1 => ?_
  ·
   refine z5 ?_;refine cQ ?_;exact dC
  refine z1 ?_;refine lD (v := iQ o.o.kind) ai hw ?_;refine z3 ?_;refine cQ ?_;exact dC
 refine z1 ?_;refine bY (l1 := [9, 10, 11, 12]) (l2 := []) rfl (d := 27) (ts.length = 0 \/ o.o.kind < 0 \/ 4 < o.o.kind) rfl ?_ ?_
 ·
  refine aE (d := 23) rfl (fun h2 => ?_) fun h2 => ?_
  ·
   refine z5 ?_;refine cQ ?_;exact dC
  refine z1 ?_;refine lD (v := iQ o.o.kind) ai hw ?_;refine z3 ?_;refine cQ ?_;exact dC
 refine aH ?_;refine aS rfl (fun h3 => ?_) fun h3 => ?_
 ·
  unfold ye at bQ;rw [ah h3] at bQ
  cases bQ;refine z4 ?_;refine dQ rfl kR aU rfl ?_;refine z2 ?_;refine aS rfl (fun h4 => ?_) fun h4 => ?_
  ·
   refine z3 ?_;refine aQ (v := gQ (aC kp)) rfl rfl (fun w => kR) ?_;refine hY (cs := aC kp) rfl aU bV eL dM rfl rfl rfl hw rfl fun w Y5 hw => ?_;refine gP (m := ts.length) (k := 1) (news := aC kp) rfl aU bV gW eL rfl rfl hw pK (Rd.nP hw pK) rfl (lz _) mL oM rfl fun w Zi hw => ?_;refine z3 ?_;exact br rfl rfl rfl (by
 rw [ah oM];exact En ((hw.b [ag Y5 _ _, ag b5 _ _]).tail.tail))
  refine z7 ?_;exact br rfl rfl rfl (by
 rw [ae oM];exact (hw.b [ag b5 _ _]).tail)
 have ZC : 0 < ts.length := oM;have CR := KL (t := o.o.t) ZC;obtain ⟨i, hi⟩ : ∃ i, i = yf o.o.t ts.length := ⟨_, rfl⟩;obtain ⟨t, ht⟩ : ∃ t, ts[i]? = some t := ⟨_, cV (by rw [hi]; omega)⟩;have MP := hT t (ed ht);have Zv : ts.getD i kp = t := by rw [qW, ht]; rfl
 have gD : ye V ts o.o = if o.o.kind = 0 then (yT 20 V t o.o.key o.o.value).map fun r => (r.2.2.2, if r.2.2.1 = 0 then ts.set i r.1 else ts)
   else if o.o.kind = 1 then (Mh 20 V t o.o.key).map fun r => (r.2.2.2, if r.2.2.1 = 0 then ts.set i r.1 else ts)
   else if o.o.kind = 2 then if ¬ ts.length < 20 then some (V, ts) else if t.root = 0 then some (V, ts ++ [t]) else some ((V.pC t.root).2, if (V.pC t.root).1 = 0 then ts ++ [t] else ts)
   else if o.o.kind = 3 then if t.root = 0 then some (V, bJ ts i) else some ((V.drop t.root).2, if (V.drop t.root).1 = 0 then bJ ts i else ts)
   else some (V.settle, ts) := by
  unfold ye;rw [ae h3];simp only [<-hi, Zv]
 rw [gD] at bQ
 (try unfold sQ at CR); rw [<-hi] at CR
 obtain ⟨-, tb, -, CN, SX, abL, -, -⟩ := ij (hw.b [pw _ ts]) ZC;subst CN;have Q1 : ∀ {G : Gh} {L R : List az} {w : World} {us : List Tr}, ar G L w -> us.length = ts.length -> dg (row 62 3 (.slice (some ⟨tb, 0, none⟩) ts.length tc) ts.length (us.map aC).flatten) L R -> gC 3 (.slice (some ⟨tb, 0, none⟩) us.length tc) (us.map aC) w := fun hw hu hp => by
  rw [hu]; exact ((gC.row (T := 62) (by rw [bA, hu]) (zS _)).head _).at (hw.pick hp)
 refine z4 ?_;refine lD (v := iQ o.o.t) ai hw ?_;refine z1 ?_;refine dQ rfl kR aU rfl ?_;refine ZV rfl rfl rfl oM ?_;refine z2 ?_;refine mZ (fun e w => e = [(0, pQ vq), (1, .slice (some ⟨tb, 0, none⟩) ts.length tc), (5, pQ b5), (7, iQ i)] /\ ar G (ag b5 o.cells 57 :: pw (.slice (some ⟨tb, 0, none⟩) ts.length tc) ts :: aZ vq V :: L) w) ?_ ?_
 ·
  refine z5 ?_;refine aS rfl (fun h5 => ?_) fun h5 => ?_
  ·
   refine z3 ?_;refine dQ rfl kR aU rfl ?_;refine z3 ?_;rw [ah h5] at CR;exact ⟨[(0, _), (1, _), (5, _), (7, iQ (o.o.t.tmod ts.length + ts.length))], sB, by rw [CR.2], hw⟩
  refine eH ?_;rw [ae h5] at CR;exact ⟨[(0, _), (1, _), (5, _), (7, iQ (o.o.t.tmod ts.length))], sB, by rw [CR.2], hw⟩
 clear hw;rintro e w ⟨rfl, hw⟩;have CR := CR.1;have WA : (ts.map aC)[i]? = some (aC t) := by rw [dB, ht]; rfl
 have T4 : ∀ {G : Gh} {w : World} {M : List az} {u : Tr} {V' : Va}, ar G (pw (.slice (some ⟨tb, 0, none⟩) ts.length tc) ts :: M) w -> ar G (row 62 3 (.slice (some ⟨tb, 0, none⟩) (ts.map aC).length tc) (ts.map aC).length (ts.map aC).flatten :: M) w := fun h => by
  rw [bA]; exact h
 refine z4 ?_;refine dD rfl aU bV rfl rfl ⟨oM, oM⟩ ?_;refine bt rfl rfl (aj.many (cs := aC t) aF rfl (by rw [fQ]; exact (Q1 hw rfl pK).at WA)) ?_;refine aN rfl mu hw rfl fun w b8 hw => ?_;refine aL (cs := aC t) (l' := aC t) rfl tV rfl rfl aF rfl (lz _) hw pK (by simp [aC]) rfl rfl fun w hw => ?_;refine aH ?_;refine mZ (fun e w => ∃ (us : List Tr) (V' : Va), e = [(1, .slice (some ⟨tb, 0, none⟩) ts.length tc)] /\ (us.length = ts.length /\ (V', us) = res) /\ ar G (row 62 3 (.slice (some ⟨tb, 0, none⟩) ts.length tc) ts.length (us.map aC).flatten :: aZ vq V' :: L) w) ?_ ?_
 ·
  refine z3 ?_;refine lD (v := iQ o.o.kind) ai hw ?_;refine z7 ?_;refine aS rfl (fun h6 => ?_) fun h6 => ?_
  ·
   rw [ah h6] at bQ;obtain ⟨r, hr, bQ⟩ := La.1 bQ;refine z3 ?_;refine lA (l := aC t) aF hw ?_;refine z1 ?_;refine lD (v := o.kv) ay hw ?_;refine z1 ?_;refine lD (v := o.vv) ay hw ?_;refine an rfl wS rfl (wG (f := 20) (T := t) (hw.b [aZ vq V]) aJ oM (ho.k.of sF) (ho.v.of sF) ⟨MP.1.1, oM⟩ ⟨MP.2.1, oM⟩ hr) rfl fun w v62 hv => ?_;obtain ⟨rfl, hw⟩ := hv;refine z4 ?_;refine aN rfl mu hw rfl fun w b9 hw => ?_;refine aL (cs := aC r.1) (l' := aC r.1) rfl tV rfl rfl aF rfl (lz _) hw pK (by simp [aC]) rfl rfl fun w hw => ?_;refine z8 ?_;refine aS rfl (fun h7 => ?_) fun h7 => ?_
   ·
    refine z3 ?_;refine lA (l := aC r.1) aF hw ?_;replace hw := T4 (u := r.1) (V' := V) (hw.b [pw _ ts]);refine dD rfl aU bV rfl rfl ⟨oM, oM⟩ ?_;refine Rm (cs := aC r.1) (rs := ts.map aC) (rs' := (ts.set i r.1).map aC) rfl tV rfl rfl aF rfl (lz _) hw (zS _) pK (by rw [bA]; exact CR) (by rw [fQ]; omega) (by rw [tS]) rfl (fun w hw => ?_);refine aH ?_;rw [ah h7] at bQ;rw [bA] at hw
    exact ⟨[(1, _)], sB, _, _, rfl, ⟨qC, bQ⟩, ((hw.b [ag b9 _ _, ag b8 _ _, ag b5 _ _]).tail.tail.tail).b [row 62 3 _ _ _, aZ vq _]⟩
   refine eH ?_;rw [ae h7] at bQ;exact ⟨[(1, _)], sB, _, _, rfl, ⟨rfl, bQ⟩, ((hw.b [ag b9 _ _, ag b8 _ _, ag b5 _ _]).tail.tail.tail).b [row 62 3 _ _ _, aZ vq _]⟩
  rw [ae h6] at bQ;refine z5 ?_;refine aS rfl (fun h8 => ?_) fun h8 => ?_
  ·
   rw [ah h8] at bQ;obtain ⟨r, hr, bQ⟩ := La.1 bQ;refine z3 ?_;refine lA (l := aC t) aF hw ?_;refine z1 ?_;refine lD (v := o.kv) ay hw ?_;refine an rfl Mt rfl (N0 (f := 20) (T := t) (hw.b [aZ vq V]) aJ oM ⟨oM, oM⟩ ⟨MP.2.1, oM⟩ (ho.k.of sF) hr) rfl fun w v79 hv => ?_;obtain ⟨rfl, hw⟩ := hv;refine z4 ?_;refine aN rfl mu hw rfl fun w TK hw => ?_;refine aL (cs := aC r.1) (l' := aC r.1) rfl tV rfl rfl aF rfl (lz _) hw pK (by simp [aC]) rfl rfl fun w hw => ?_;refine z8 ?_;refine aS rfl (fun h9 => ?_) fun h9 => ?_
   ·
    refine z3 ?_;refine lA (l := aC r.1) aF hw ?_;replace hw := T4 (u := r.1) (V' := V) (hw.b [pw _ ts]);refine dD rfl aU bV rfl rfl ⟨oM, oM⟩ ?_;refine Rm (cs := aC r.1) (rs := ts.map aC) (rs' := (ts.set i r.1).map aC) rfl tV rfl rfl aF rfl (lz _) hw (zS _) pK (by rw [bA]; exact CR) (by rw [fQ]; omega) (by rw [tS]) rfl (fun w hw => ?_);refine aH ?_;rw [ah h9] at bQ;rw [bA] at hw
    exact ⟨[(1, _)], sB, _, _, rfl, ⟨qC, bQ⟩, ((hw.b [ag TK _ _, ag b8 _ _, ag b5 _ _]).tail.tail.tail).b [row 62 3 _ _ _, aZ vq _]⟩
   refine eH ?_;rw [ae h9] at bQ;exact ⟨[(1, _)], sB, _, _, rfl, ⟨rfl, bQ⟩, ((hw.b [ag TK _ _, ag b8 _ _, ag b5 _ _]).tail.tail.tail).b [row 62 3 _ _ _, aZ vq _]⟩
  rw [ae h8] at bQ;refine z5 ?_;refine aS rfl (fun oG => ?_) fun oG => ?_
  ·
   rw [ah oG] at bQ;refine z3 ?_;refine dQ rfl kR aU rfl ?_;refine z2 ?_;refine aE (d := 94) rfl (fun Q9 => ?_) fun Q9 => ?_
   ·
    rw [ae oM] at bQ;refine z1 ?_;refine lD (v := iQ t.root) ai hw ?_;refine z2 ?_;refine aE (d := 98) rfl (fun Pb => ?_) fun Pb => ?_
    ·
     rw [ah Pb] at bQ;cases bQ;refine z5 ?_;refine zM rfl rfl rfl rfl ?_;refine z2 ?_;refine eg rfl ?_;refine z3 ?_;refine lA (l := aC t) aF hw ?_;refine hY (cs := aC t) rfl aU bV eL dM rfl rfl rfl hw rfl fun w Y8 hw => ?_;refine gP (m := ts.length) (k := 1) (news := aC t) rfl aU bV gW eL rfl rfl hw pK (Rd.nP hw pK) rfl (lz _) mL oM rfl fun w aae hw => ?_;refine z3 ?_;exact br rfl rfl rfl (En ((hw.b [ag Y8 _ _, ag b8 _ _, ag b5 _ _]).tail.tail.tail))
    rw [ae Pb] at bQ;refine z2 ?_;refine lD (v := iQ t.root) ai hw ?_;refine an rfl wQ rfl (xT (n := t.root) (hw.b [aZ vq V]) aJ oM) rfl fun w ac7 hv => ?_;obtain ⟨rfl, hw⟩ := hv;refine z1 ?_;refine zN rfl rfl rfl rfl ?_;refine z2 ?_;refine aS rfl (fun WW => ?_) fun WW => ?_
    ·
     rw [ah WW] at bQ;cases bQ;refine z3 ?_;refine lA (l := aC t) aF hw ?_;refine hY (cs := aC t) rfl aU bV eL dM rfl rfl rfl hw rfl fun w Y8 hw => ?_;refine gP (m := ts.length) (k := 1) (news := aC t) rfl aU bV gW eL rfl rfl hw pK (Rd.nP hw pK) rfl (lz _) mL oM rfl fun w aae hw => ?_;refine z3 ?_;exact br rfl rfl rfl (En (((hw.b [ag Y8 _ _, ag b8 _ _, ag b5 _ _]).tail.tail.tail).b [row 62 3 _ _ _, aZ vq _]))
    rw [ae WW] at bQ;refine eH ?_;exact ⟨[(1, _)], sB, _, _, rfl, ⟨rfl, Option.some.inj bQ⟩, ((hw.b [ag b8 _ _, ag b5 _ _]).tail.tail).b [row 62 3 _ _ _, aZ vq _]⟩
   rw [ah oM] at bQ;refine KA ?_;refine nb rfl ?_;refine eH ?_;exact ⟨[(1, _)], sB, _, _, rfl, ⟨rfl, Option.some.inj bQ⟩, ((hw.b [ag b8 _ _, ag b5 _ _]).tail.tail).b [row 62 3 _ _ _, aZ vq _]⟩
  rw [ae oG] at bQ;refine z5 ?_;refine aS rfl (fun Tu => ?_) fun Tu => ?_
  ·
   rw [ah Tu] at bQ;refine z3 ?_;refine lD (v := iQ t.root) ai hw ?_;refine z2 ?_;refine aE (d := 115) rfl (fun ZI => ?_) fun ZI => ?_
   ·
    rw [ah ZI] at bQ;cases bQ;refine z7 ?_;refine eg rfl ?_;refine zL ?_;refine bu [1, 2, 3, 5, 6, 7, 8, 0, 4, 9, 10] bK kR ?_;replace hw := hw.drawn (w.drawn + 1);refine z2 ?_;refine rX rfl aU tH rfl sM rfl ⟨oM, oM⟩ ?_;refine z3 ?_;refine I2 rfl aU bV rfl rfl ⟨oM, oM⟩ SX fun Xn SV => ?_;refine Ef rfl aU bV hw kR fun w acO hw => ?_;replace hw := Jd (z := 3) hw;have q9 : ∀ {G : Gh} {L R : List az} {w : World}, ar G L w -> dg (pw (.slice (some ⟨tb, 0, none⟩) ts.length tc) ts) L R -> gC 3 (.slice (some ⟨tb, 0, none⟩) (i : Int).toNat tc) ((ts.take i).map aC) w := fun hw hp => by
     rw [fQ, K5];have h9 := (Q1 (us := ts) hw rfl hp).take (j := i) (cap' := tc) (by rw [bA]; omega) oM (fun h => by have := congrArg List.length h; rw [bA, vM] at this; omega);exact h9.resolve_right (fun h => by cases h)
    have vw : ∀ {G : Gh} {L R : List az} {w : World}, ar G L w -> dg (pw (.slice (some ⟨tb, 0, none⟩) ts.length tc) ts) L R -> gC 3 Xn ((ts.drop (i + 1)).map aC) w := fun {G L R w} hw hp => by
     rcases SV with rfl | ⟨h1, rfl⟩
     ·have h1 : gC 3 (.slice (some ⟨tb, 0, none⟩) (ts.map aC).length tc) (ts.map aC) w := by rw [bA]; exact Q1 (us := ts) hw rfl hp
      have h2 := h1.TA (lo := i + 1) (by rw [bA]; omega);rw [bA, <-K4] at h2;rw [show ((i : Int) + 1).toNat = i + 1 by omega];exact h2
     exact .inl ⟨_, rfl, fun _ _ => rfl, by rw [u0 oM]; rfl⟩
    have LM : (0 : Nat) + ((ts.take i).map aC).length + ((ts.drop (i + 1)).map aC).length = (bJ ts i).length := by
     unfold bJ; rw [bA, bA, cj]; omega
    have XS : ([] : List Value) ++ ((ts.take i).map aC).flatten ++ ((ts.drop (i + 1)).map aC).flatten = ((bJ ts i).map aC).flatten := by
     unfold bJ; rw [il, K8]; rfl
    have hwn : (bJ ts i).length <= 20 := by unfold bJ; rw [cj, fK, iC]; omega
    refine vB (rs := (ts.take i).map aC) rfl aU bV gW eL rfl rfl hw pK (q9 hw pK) (n8 _) mL oM kR fun w abn hw => ?_;refine vB (rs := (ts.drop (i + 1)).map aC) rfl aU bV gW eL rfl rfl hw pK (vw hw pK) (n8 _) mL oM kR fun w abm hw => ?_;rw [LM, XS] at hw;refine z3 ?_;exact br rfl rfl rfl (((hw.b [pw (.slice (some ⟨tb, 0, none⟩) ts.length tc) ts, ag b8 _ _, ag b5 _ _]).tail.tail.tail).b [pw _ (bJ ts i), aZ vq _])
   rw [ae ZI] at bQ;refine z2 ?_;refine lD (v := iQ t.root) ai hw ?_;refine an rfl o9 rfl (pS (n := t.root) (hw.b [aZ vq V]) aJ oM) rfl fun w ac4 hv => ?_;obtain ⟨rfl, hw⟩ := hv;refine z3 ?_;refine aS rfl (fun ZH => ?_) fun ZH => ?_
   ·
    rw [ah ZH] at bQ;cases bQ;refine zL ?_;refine bu [1, 2, 3, 5, 6, 7, 8, 0, 4, 9, 10] bK kR ?_;replace hw := hw.drawn (w.drawn + 1);refine z2 ?_;refine rX rfl aU tH rfl sM rfl ⟨oM, oM⟩ ?_;refine z3 ?_;refine I2 rfl aU bV rfl rfl ⟨oM, oM⟩ SX fun Xn SV => ?_;refine Ef rfl aU bV hw kR fun w acO hw => ?_;replace hw := Jd (z := 3) hw;have q9 : ∀ {G : Gh} {L R : List az} {w : World}, ar G L w -> dg (pw (.slice (some ⟨tb, 0, none⟩) ts.length tc) ts) L R -> gC 3 (.slice (some ⟨tb, 0, none⟩) (i : Int).toNat tc) ((ts.take i).map aC) w := fun hw hp => by
     rw [fQ, K5];have h9 := (Q1 (us := ts) hw rfl hp).take (j := i) (cap' := tc) (by rw [bA]; omega) oM (fun h => by have := congrArg List.length h; rw [bA, vM] at this; omega);exact h9.resolve_right (fun h => by cases h)
    have vw : ∀ {G : Gh} {L R : List az} {w : World}, ar G L w -> dg (pw (.slice (some ⟨tb, 0, none⟩) ts.length tc) ts) L R -> gC 3 Xn ((ts.drop (i + 1)).map aC) w := fun {G L R w} hw hp => by
     rcases SV with rfl | ⟨h1, rfl⟩
     ·have h1 : gC 3 (.slice (some ⟨tb, 0, none⟩) (ts.map aC).length tc) (ts.map aC) w := by rw [bA]; exact Q1 (us := ts) hw rfl hp
      have h2 := h1.TA (lo := i + 1) (by rw [bA]; omega);rw [bA, <-K4] at h2;rw [show ((i : Int) + 1).toNat = i + 1 by omega];exact h2
     exact .inl ⟨_, rfl, fun _ _ => rfl, by rw [u0 oM]; rfl⟩
    have LM : (0 : Nat) + ((ts.take i).map aC).length + ((ts.drop (i + 1)).map aC).length = (bJ ts i).length := by
     unfold bJ; rw [bA, bA, cj]; omega
    have XS : ([] : List Value) ++ ((ts.take i).map aC).flatten ++ ((ts.drop (i + 1)).map aC).flatten = ((bJ ts i).map aC).flatten := by
     unfold bJ; rw [il, K8]; rfl
    have hwn : (bJ ts i).length <= 20 := by unfold bJ; rw [cj, fK, iC]; omega
    refine vB (rs := (ts.take i).map aC) rfl aU bV gW eL rfl rfl hw pK (q9 hw pK) (n8 _) mL oM kR fun w abn hw => ?_;refine vB (rs := (ts.drop (i + 1)).map aC) rfl aU bV gW eL rfl rfl hw pK (vw hw pK) (n8 _) mL oM kR fun w abm hw => ?_;rw [LM, XS] at hw;refine z3 ?_;exact br rfl rfl rfl (((hw.b [pw (.slice (some ⟨tb, 0, none⟩) ts.length tc) ts, ag b8 _ _, ag b5 _ _]).tail.tail.tail).b [pw _ (bJ ts i), aZ vq _])
   rw [ae ZH] at bQ;refine eH ?_;exact ⟨[(1, _)], sB, _, _, rfl, ⟨rfl, Option.some.inj bQ⟩, ((hw.b [ag b8 _ _, ag b5 _ _]).tail.tail).b [row 62 3 _ _ _, aZ vq _]⟩
  rw [ae Tu] at bQ;refine z5 ?_;refine aS rfl (fun h17 => ?_) fun h17 => ?_
  ·
   refine z2 ?_;refine an rfl uy rfl (u9 (hw.b [aZ vq V]) aJ oM) rfl fun w acY hv => ?_;obtain ⟨rfl, hw⟩ := hv;refine aH ?_;exact ⟨[(1, _)], sB, _, _, rfl, ⟨rfl, Option.some.inj bQ⟩, ((hw.b [ag b8 _ _, ag b5 _ _]).tail.tail).b [row 62 3 _ _ _, aZ vq _]⟩
  refine eH ?_;exact absurd h17 (fun h => h3 oM)
 clear hw;rintro e w ⟨us, V', rfl, ⟨hul, rfl⟩, hw⟩;refine z6 ?_;exact br rfl rfl rfl (by
 show ar G (row 62 3 _ us.length _ :: _) _
 rw [hul]; exact hw)
end
abbrev BA : Int -> Bool := fun _ => false
section
variable {V : Va} {H : Int -> Int} {gh : mJ} {key value : bN}
theorem QG (rd : Int -> Option Pg) (key : bN) : (nV rd kp key).2.1 = false := by
 unfold nV;split
 ·rfl
 rw [ah (.inr (by rfl))]
theorem YY {T : Tr} (h : Gv V H BA gh) (hT : p7 gh T) (hn : ∀ a, cI (nZ T) a <= H a) : ∃ res, Mh 20 V T key = some res /\ (res.2.2.1 ≠ 0 -> res.2.2.2 = V) /\ (res.2.2.1 = 0 -> ∃ gh', Gv res.2.2.2 (fun a => H a - cI (nZ T) a + cI (nZ res.1) a) BA gh' /\ p7 gh' res.1 /\ (∀ k, 1 <= H k - cI (nZ T) k -> gh' k = gh k) /\ res.1.items <= T.items + 1) := by
 unfold Mh
 by_cases h1 : (nV V.rd T key).2.2 ≠ 0
 ·rw [ah h1]; exact ⟨_, rfl, fun _ => rfl, fun e => absurd e h1⟩
 rw [ae h1]
 by_cases h2 : (nV V.rd T key).2.1 = false
 ·rw [ah h2];exact ⟨_, rfl, fun e => absurd rfl e, fun _ => ⟨gh, h.ey fun a => by show H a - cI (nZ T) a + cI (nZ T) a = H a; omega, hT, fun _ _ => rfl, by show T.items <= T.items + 1; omega⟩⟩
 rw [ae h2];have hr : T.root ≠ 0 := fun e => by
  have := hT.resolve_right fun h => h.1 e
  subst this;exact h2 (QG _ _)
 obtain ⟨-, l, f, ks, g1, g2, g3, g4, g5⟩ := hT.resolve_left fun e => hr (by rw [e]; rfl)
 have NH : ∀ a, cI (nZ T) a = dl T.root a := fun a => by unfold nZ; rw [kU, ah hr]
 have Di : 1 <= H T.root := by have := hn T.root; rw [NH, dS] at this; exact this
 obtain ⟨hh, Kt⟩ : ∃ hh, hh = uJ V 0 T.root := ⟨_, rfl⟩;simp only [<-Kt];have BP : ∀ d, (∃ r, jr key 20 d = some r /\ ((gn key r).2.1 = 0 -> ∃ gh', Gv (gn key r).1 (fun a => H a - cI (nZ T) a + cI (nZ (gn key r).2.2) a) BA gh' /\ p7 gh' (gn key r).2.2 /\ (∀ k, 1 <= H k - cI (nZ T) k -> gh' k = gh k) /\ (gn key r).2.2.items <= T.items + 1)) -> ∃ res, (match jr key 20 d with
     | none => none
     | some d => some (if (gn key d).2.1 ≠ 0 then (kp, false, (gn key d).2.1, V) else ((gn key d).2.2, true, 0, (gn key d).1))) = some res /\ (res.2.2.1 ≠ 0 -> res.2.2.2 = V) /\ (res.2.2.1 = 0 -> ∃ gh', Gv res.2.2.2 (fun a => H a - cI (nZ T) a + cI (nZ res.1) a) BA gh' /\ p7 gh' res.1 /\ (∀ k, 1 <= H k - cI (nZ T) k -> gh' k = gh k) /\ res.1.items <= T.items + 1) := fun d hd => by
  obtain ⟨r, hr, bQ⟩ := hd;rw [hr]
  by_cases h5 : (gn key r).2.1 ≠ 0
  ·exact ⟨_, rfl, fun _ => by rw [ah h5], fun e => by rw [ah h5] at e; exact absurd e h5⟩
  refine ⟨_, rfl, fun e => by rw [ae h5] at e; exact absurd rfl e, fun _ => ?_⟩;rw [ae h5];exact bQ (cJ.1 h5)
 by_cases h3 : hh.2.1 ≠ 0
 ·refine BP _ ⟨_, qI oM (fun h4 => ?_), fun he => absurd he (wB ?_)⟩
  ·have h4 := h4.1;unfold px at h4;rw [ah h3] at h4; exact h3 h4
  show (px hh.2.2 hh.2.1 hh.1).2 ≠ 0
  unfold px;rw [ah h3]; exact h3
 have h3 := cJ.1 h3;obtain ⟨-, t2, t3⟩ := Et (V := V) (m := T.root) (e := 0) (by rw [<-Kt]; exact h3);rw [<-Kt] at t3;obtain ⟨u6, s1, s2, s3, s4, s5, s6, s7, s8⟩ := h.aO Di rfl t2;rw [<-t3] at s1 s2 s4 s5 s8
 rw [g1] at s5;have Bd : hh.2.2.bw hh.1 ≠ 0 := by rw [s2.2]; decide
 have py : px hh.2.2 hh.2.1 hh.1 = (hh.2.2.pg hh.1, 0) := by
  unfold px;rw [ae (not_not_intro h3), rD Bd]
 rw [py];have tD : l < 12 := Sv (s1.J6 Bd) (by have := s1.loc _ Bd rfl; rw [s5] at this; exact this);have rf : ∀ a, 0 <= H a - dl T.root a := fun a => by have := hn a; rw [NH] at this; omega
 obtain ⟨r, JJ, bQ⟩ := VR (key := key) l 20 ⟨hh.2.2, 0, ⟨hh.1, T.aK, T.items⟩, hh.1, hh.2.2.pg hh.1⟩ _ BA u6 f ks oM s1 s2 rfl (by have := rf hh.1; show 1 <= H hh.1 - dl T.root hh.1 + dl hh.1 hh.1; rw [dS]; omega) s5 rfl rfl rfl g2 g3;refine BP _ ⟨r, JJ, fun he => ?_⟩;obtain ⟨gh', c1, c2, c3⟩ := bQ he;have c2 : ∀ k, 1 <= H k - dl T.root k + dl hh.1 k - dl hh.1 k -> gh' k = u6 k := c2;have hz : ∀ a, cI (nZ kp) a = 0 := fun a => by unfold nZ kp; rw [kU, ae (fun h => h rfl)]
 have hx : Gv (gn key r).1 (fun a => cI (nZ (gn key r).2.2) a + (H a - cI (nZ T) a)) BA gh' /\ p7 gh' (gn key r).2.2 := by
  rcases c1 with ⟨c4, c5⟩ | ⟨l', f', sf, c4, c5, c6, c7, c8, c9, tE⟩
  ·refine ⟨c5.ey fun a => ?_, .inl c4⟩;rw [c4, hz, NH]
   show 0 + (H a - dl T.root a) = H a - dl T.root a + dl hh.1 a - dl hh.1 a
   omega
  refine ⟨c4.ey fun a => ?_, .inr ⟨c5, l', f', sf, c6, c7, c8, c9, oM⟩⟩;have : cI (nZ (gn key r).2.2) a = dl (gn key r).2.2.root a := by unfold nZ; rw [kU, ah c5]
  rw [this, NH]
  show _ = H a - dl T.root a + dl hh.1 a - dl hh.1 a + _
  omega
 refine ⟨gh', hx.1.ey fun a => by omega, hx.2, fun k hk => ?_, by have c3 : (gn key r).2.2.items <= T.items := c3; omega⟩;rw [NH] at hk;rw [c2 k oM, s6 k (h.held (by have := fN T.root k; omega))]
end
def Bt (ts : List Tr) : List Int := ts.flatMap nZ
def Gi (V : Va) (ts : List Tr) (m : Int) : Prop := ∃ gh, Gv V (cI (Bt ts)) BA gh /\ ∀ T ∈ ts, p7 gh T /\ T.items <= m
theorem oA (a b : List Tr) (k : Int) : cI (Bt (a ++ b)) k = cI (Bt a) k + cI (Bt b) k := by unfold Bt; rw [Ac, cM]
theorem zZ (t : Tr) : Bt [t] = nZ t := by unfold Bt; simp
theorem Bs {ts : List Tr} {i : Nat} {t : Tr} (h : ts[i]? = some t) (k : Int) : cI (Bt ts) k = cI (nZ t) k + cI (Bt (bJ ts i)) k := by
 have e : ts = ts.take i ++ ([t] ++ ts.drop (i + 1)) := by
  have : ts.drop i = t :: ts.drop (i + 1) := by rw [PW (nU.1 h).1, (nU.1 h).2]
  rw [UI, <-this, qd]
 conv => lhs; rw [e]
 unfold bJ;rw [oA, oA, oA, zZ]; omega
theorem Uy {ts : List Tr} {i : Nat} {t u : Tr} (h : ts[i]? = some t) (k : Int) : cI (Bt (ts.set i u)) k = cI (Bt ts) k - cI (nZ t) k + cI (nZ u) k := by
 rw [Bs h, Lb, ah (nU.1 h).1];unfold bJ;rw [oA, oA, show u :: ts.drop (i + 1) = [u] ++ ts.drop (i + 1) from rfl, oA, zZ]; omega
theorem p7.of {gh gh' : mJ} {T : Tr} (h : p7 gh T) (he : T.root ≠ 0 -> gh' T.root = gh T.root) : p7 gh' T := by
 rcases h with h | ⟨h1, h2⟩
 ·exact .inl h
 exact .inr ⟨h1, by rw [he h1]; exact h2⟩
theorem Ex {T : Tr} (h : T.root ≠ 0) : 1 <= cI (nZ T) T.root := by unfold nZ; rw [kU, ah h, dS]; exact lV _
theorem Ja {ts : List Tr} {T : Tr} (h : T ∈ ts) (hr : T.root ≠ 0) : 1 <= cI (Bt ts) T.root := by
 obtain ⟨i, hi⟩ := Ng h;rw [Bs hi];have := Ex hr;have := bW (Bt (bJ ts i)) T.root;omega
theorem U4 {ts : List Tr} {i : Nat} {u T : Tr} (h : T ∈ ts.set i u) : T = u \/ T ∈ bJ ts i := by
 by_cases hi : i < ts.length
 ·rw [Lb, ah hi] at h;unfold bJ;simp only [eu, bB] at h ⊢
  rcases h with h | h | h
  ·exact .inr (.inl h)
  ·exact .inl h
  exact .inr (.inr h)
 rw [List.set_eq_of_length_le oM] at h
 right
 unfold bJ;rw [vN oM, R7 oM, my]; exact h
theorem ry {ts : List Tr} {i : Nat} {T : Tr} (h : T ∈ bJ ts i) : T ∈ ts := by
 unfold bJ at h;rcases eu.1 h with h | h
 ·exact r9 h
 exact Ad h
theorem Gi.aag {V V' : Va} {ts : List Tr} {m : Int} {i : Nat} {t u : Tr} {gh gh' : mJ} (h : Gv V (cI (Bt ts)) BA gh) (hT : ∀ T ∈ ts, p7 gh T /\ T.items <= m) (ht : ts[i]? = some t) (h1 : Gv V' (fun a => cI (Bt ts) a - cI (nZ t) a + cI (nZ u) a) BA gh') (h2 : p7 gh' u) (h3 : ∀ k, 1 <= cI (Bt ts) k - cI (nZ t) k -> gh' k = gh k) (h4 : u.items <= t.items + 1) : Gi V' (ts.set i u) (m + 1) := by
 refine ⟨gh', h1.ey fun a => Uy ht a, fun T rH => ?_⟩;rcases U4 rH with rfl | rH
 ·exact ⟨h2, by have := (hT t (ed ht)).2; omega⟩
 have h5 := hT T (ry rH);refine ⟨h5.1.of fun hr => h3 _ ?_, oM⟩;rw [Bs ht];have := Ja rH hr;omega
theorem Gi.step {V : Va} {ts : List Tr} {m : Int} {o : Opr} (h : Gi V ts m) (hm : 0 <= m) : ∃ res, ye V ts o = some res /\ Gi res.1 res.2 (m + 1) := by
 obtain ⟨gh, hg, hT⟩ := h;unfold ye
 by_cases h1 : ts.length = 0 \/ o.kind < 0 \/ 4 < o.kind
 ·rw [ah h1];refine ⟨_, rfl, gh, ?_, fun T rH => ?_⟩
  ·refine hg.ey fun a => ?_
   show cI (Bt (if ts.length < 20 then ts ++ [kp] else ts)) a = _
   split
   ·rw [oA, zZ];unfold nZ kp;rw [kU, ae (fun h => h rfl)]; omega
   rfl
  have rH : T ∈ (if ts.length < 20 then ts ++ [kp] else ts) := rH;split at rH
  ·rcases eu.1 rH with rH | rH
   ·exact ⟨(hT T rH).1, by have := (hT T rH).2; omega⟩
   rw [Jj] at rH;subst rH;exact ⟨.inl rfl, by show (0 : Int) <= _; omega⟩
  exact ⟨(hT T rH).1, by have := (hT T rH).2; omega⟩
 rw [ae h1];have CR := KL (t := o.t) (n := ts.length) oM;obtain ⟨i, hi⟩ : ∃ i, i = yf o.t ts.length := ⟨_, rfl⟩;obtain ⟨t, ht⟩ : ∃ t, ts[i]? = some t := ⟨_, cV (by rw [hi]; omega)⟩;have Zv : ts.getD i kp = t := by rw [qW, ht]; rfl
 have MP := hT t (ed ht);simp only [<-hi, Zv];have LR : Gi V ts (m + 1) := ⟨gh, hg, fun T rH => ⟨(hT T rH).1, by have := (hT T rH).2; omega⟩⟩;have Yd : ∀ a, cI (nZ t) a <= cI (Bt ts) a := fun a => by rw [Bs ht]; have := bW (Bt (bJ ts i)) a; omega
 have WM : ∀ {V' : Va}, Gv V' (fun a => cI (Bt ts) a - cI (nZ t) a) BA gh -> Gi V' (bJ ts i) (m + 1) := fun hv => ⟨gh, hv.ey fun a => by rw [Bs ht]; omega, fun T rH => ⟨(hT T (ry rH)).1, by have := (hT T (ry rH)).2; omega⟩⟩
 have WJ : ∀ {V' : Va}, Gv V' (fun a => cI (Bt ts) a + cI (nZ t) a) BA gh -> Gi V' (ts ++ [t]) (m + 1) := fun hv => ⟨gh, hv.ey fun a => by rw [oA, zZ], fun T rH => by
   rcases eu.1 rH with rH | rH
   ·exact ⟨(hT T rH).1, by have := (hT T rH).2; omega⟩
   ·rw [Jj] at rH;subst rH;exact ⟨MP.1, oM⟩⟩
 have Vn : t.root = 0 -> ∀ a, cI (nZ t) a = 0 := fun e a => by unfold nZ; rw [e, kU, ae (fun h => h rfl)]
 have Di : t.root ≠ 0 -> ∀ a, cI (nZ t) a = dl t.root a := fun e a => by unfold nZ; rw [kU, ah e]
 by_cases k0 : o.kind = 0
 ·rw [ah k0];obtain ⟨r, hr, a1, a2⟩ := Xy (key := o.key) (value := o.value) hg MP.1 Yd;rw [hr];refine ⟨_, rfl, ?_⟩;simp only
  by_cases he : r.2.2.1 = 0
  ·rw [ah he];obtain ⟨gh', b1, b2, b3, b4⟩ := a2 he;exact Gi.aag hg hT ht b1 b2 b3 b4
  rw [ae he, a1 he]; exact LR
 rw [ae k0]
 by_cases k1 : o.kind = 1
 ·rw [ah k1];obtain ⟨r, hr, a1, a2⟩ := YY (key := o.key) hg MP.1 Yd;rw [hr];refine ⟨_, rfl, ?_⟩;simp only
  by_cases he : r.2.2.1 = 0
  ·rw [ah he];obtain ⟨gh', b1, b2, b3, b4⟩ := a2 he;exact Gi.aag hg hT ht b1 b2 b3 b4
  rw [ae he, a1 he]; exact LR
 rw [ae k1]
 by_cases k2 : o.kind = 2
 ·rw [ah k2]
  by_cases YS : ts.length < 20
  ·rw [ae (not_not_intro YS)]
   by_cases hr : t.root = 0
   ·rw [ah hr];exact ⟨_, rfl, WJ (hg.ey fun a => by rw [Vn hr]; omega)⟩
   rw [ae hr];refine ⟨_, rfl, ?_⟩;simp only
   by_cases he : (V.pC t.root).1 = 0
   ·rw [ah he];obtain ⟨b1, b2, b3⟩ := hg.pC (n := t.root) rfl he;exact WJ (b2.ey fun a => by rw [Di hr])
   rw [ae he];have : (V.pC t.root).2 = V := by
    unfold Va.pC at he ⊢;split
    ·rfl
    rename_i h5; rw [ae h5] at he; exact absurd rfl he
   rw [this]; exact LR
  rw [ah YS]; exact ⟨_, rfl, LR⟩
 rw [ae k2]
 by_cases k3 : o.kind = 3
 ·rw [ah k3]
  by_cases hr : t.root = 0
  ·rw [ah hr];exact ⟨_, rfl, WM (hg.ey fun a => by rw [Vn hr]; omega)⟩
  rw [ae hr];refine ⟨_, rfl, ?_⟩;simp only
  by_cases he : (V.drop t.root).1 = 0
  ·rw [ah he];obtain ⟨b2, b3⟩ := hg.drop (n := t.root) (by have := Yd t.root; rw [Di hr, dS] at this; exact this) rfl he;exact WM (b2.ey fun a => by rw [Di hr])
  rw [ae he];have : (V.drop t.root).2 = V := by
   unfold Va.drop at he ⊢;split
   ·rfl
   rename_i h5; rw [ae h5] at he; exact absurd rfl he
  rw [this]; exact LR
 rw [ae k3];refine ⟨_, rfl, gh, hg.settle fun _ => rfl, fun T rH => ⟨(hT T rH).1, by have := (hT T rH).2; omega⟩⟩
theorem Gi.start {V : Va} (aJ : V.Ok) (h0 : ∀ n, V.bw n = 0) : Gi V [] 0 := by
 refine ⟨fun _ => .bl [] 0, ⟨⟨fun a => ?_, fun n hn => absurd (h0 n) hn⟩, aJ, fun a => bW _ _, fun n hn => by cases hn⟩, fun T hT => by cases hT⟩;rw [h0]
 show 0 = cI [] a + arr V BA a
 rw [sA];have : arr V BA a = 0 := by
  unfold arr;have hz : ∀ n : Nat, oQ n (fun _ => (0 : Int)) = 0 := fun n => by induction n with
   | zero => rfl
   | succ n ih => rw [oQ, ih]; rfl
  rw [iZ (g := fun _ => 0) fun i _ => by unfold uI; rw [ae (fun h => h.1 (h0 _))], hz]
 omega
def rA (g' : Gn) : Gn -> Prop
 | .nd l _ ks => match g' with
  | .nd l' _ sf => l' <= l /\ sf ≠ [] /\ ∀ k ∈ sf, k ∈ ks
  | .bl key _ => key ∈ ks
 | .bl key left => match g' with
  | .nd _ _ _ => False
  | .bl abz aam => abz = key /\ aam <= left
theorem yM {g : Gn} {l l' f f' : Nat} {ks sf : List bN} (hl : l' <= l) (hk : ∀ k ∈ sf, k ∈ ks) (h : rA g (.nd l' f' sf)) : rA g (.nd l f ks) := by
 cases g with
 | nd a b c => exact ⟨K1 h.1 hl, h.2.1, fun k iX => hk k (h.2.2 k iX)⟩
 | bl a b => exact hk _ h
section
variable {V : Va} {H : Int -> Int} {gh : mJ}
theorem FZ {n : Int} {met : List Int} (hn : n ∉ met) (hc : V.bw n ≠ 0) : dK V.rd met n = some (V.pg n) := by unfold dK; rw [ae hn, rD hc]
theorem Mq (h : Gv V H BA gh) {key : bN} : ∀ (f : Nat) (left n : Int) (met : List Int), gh n = .bl key left -> V.bw n ≠ 0 -> left <= f -> (∀ m ∈ met, ¬ rA (gh m) (.bl key left)) -> ∃ gk, iy V.rd f left n met = (0, gk) /\ ∀ m ∈ gk, m ∈ met \/ rA (gh m) (.bl key left)
 | 0, left, n, met, hg, hc, hl, hm => ⟨met, rfl, fun m h => .inl h⟩
 | f + 1, left, n, met, hg, hc, hl, hm => by
  have oF := h.loc n hc rfl;rw [hg] at oF;obtain ⟨l1, l2, l3, l4, l5⟩ := oF;have ZA : n ∉ met := fun h2 => hm n h2 (by rw [hg]; exact ⟨rfl, lV _⟩)
  rw [iy, ae oM, FZ ZA hc];simp only;rw [ae (not_not_intro l1), ae (not_not_intro ⟨l3, oM⟩)]
  by_cases h4 : left <= 480
  ·rw [CZ oM];refine ⟨_, rfl, fun m nA => ?_⟩;rcases bB.1 nA with rfl | nA
   ·exact .inr (by rw [hg]; exact ⟨rfl, lV _⟩)
   exact .inl nA
  have h5 := l5 oM;have Zz : (V.pg n).next ≠ 0 := fun e => h4 (l4.1 e)
  have h6 := h.Sy hc rfl (MC l1 Zz);have e : left - min 480 left = left - 480 := oM;rw [e];obtain ⟨gk, a1, a2⟩ := Mq h f (left - 480) (V.pg n).next (n :: met) h5 h6 oM (fun m nA => by
    rcases bB.1 nA with rfl | nA
    ·rw [hg]; rintro ⟨-, h7⟩; omega
    ·intro h7;refine hm m nA ?_;cases O6 : gh m with
     | nd a b c => rw [O6] at h7; exact h7
     | bl a b => rw [O6] at h7; exact ⟨h7.1, by have := h7.2; omega⟩)
  refine ⟨gk, a1, fun m nA => ?_⟩;rcases a2 m nA with h7 | h7
  ·rcases bB.1 h7 with rfl | h7
   ·exact .inr (by rw [hg]; exact ⟨rfl, lV _⟩)
   exact .inl h7
  right
  cases O6 : gh m with
  | nd a b c => rw [O6] at h7; exact h7
  | bl a b => rw [O6] at h7; exact ⟨h7.1, by have := h7.2; omega⟩
theorem Io (h : Gv V H BA gh) {r : Rg} {ks : List bN} {f : Nat} : ∀ (q : List It) (i : Nat) (s : List Int × Int), (∀ x ∈ q, lH r x.key /\ x.key ∈ ks /\ (32 < x.size -> gh x.child = .bl x.key x.size /\ V.bw x.child ≠ 0)) -> vr q -> (∀ m ∈ s.1, ∀ x ∈ q, ∀ lf, ¬ rA (gh m) (.bl x.key lf)) →
  ∃ gk, jn (fun _ x s => jI V.rd x r s) i q s = (0, gk, s.2 + q.length) /\ ∀ m ∈ gk, m ∈ s.1 \/ rA (gh m) (.nd 0 f ks)
 | [], i, s, _, _, _ => ⟨s.1, by rw [jn]; simp, fun m h => .inl h⟩
 | x :: q, i, s, hx, hr, hm => by
  obtain ⟨x1, x2, x3⟩ := hx x (fp ..);have JJ := (Jl.1 hr);have qu : ∃ P8, jI V.rd x r s = (0, P8, s.2 + 1) /\ ∀ m ∈ P8, m ∈ s.1 \/ ∃ lf, gh m = .bl x.key lf := by
   unfold jI;rw [ae (not_not_intro x1)]
   by_cases hs : x.size <= 32
   ·rw [ah hs]; exact ⟨_, rfl, fun m h => .inl h⟩
   rw [ae hs];obtain ⟨c1, c2⟩ := x3 oM;obtain ⟨gk, a1, a2⟩ := Mq h x.size.toNat x.size x.child s.1 c1 c2 oM (fun m nA => hm m nA x (fp ..) _);rw [a1];refine ⟨gk, rfl, fun m nA => ?_⟩;rcases a2 m nA with h7 | h7
   ·exact .inl h7
   right
   cases O6 : gh m with
   | nd a b c => rw [O6] at h7; exact absurd h7 id
   | bl a b => rw [O6] at h7; exact ⟨b, by rw [h7.1]⟩
  obtain ⟨P8, e1, e2⟩ := qu;rw [jn, e1];rw [ae sM];obtain ⟨gk, a1, a2⟩ := Io (f := f) h q (i + 1) (P8, s.2 + 1) (fun y hy => hx y (gF _ hy)) JJ.2 (fun m nA y hy lf hu => by
   rcases e2 m nA with h7 | ⟨b, h7⟩
   ·exact hm m h7 y (gF _ hy) lf hu
   ·rw [h7] at hu;have := JJ.1 y hy;rw [hu.1, B3] at this
    omega)
  refine ⟨gk, by rw [a1]; simp only [jO]; congr 2; omega, fun m nA => ?_⟩;rcases a2 m nA with h7 | h7
  ·rcases e2 m h7 with h8 | ⟨b, h8⟩
   ·exact .inl h8
   exact .inr (by rw [h8]; exact x2)
  exact .inr h7
theorem Fa {l : Nat} {r : Rg} {p : Pg} {f : Nat} {ks : List bN} (re : ∀ (n : Int) (f : Nat) (ks : List bN) (least : Int) (r : Rg) (s : List Int × Int), gh n = .nd l f ks -> V.bw n ≠ 0 -> least <= f -> ks ≠ [] -> (∀ key ∈ ks, lH r key) -> (∀ m ∈ s.1, ¬ rA (gh m) (gh n)) -> ∃ gk, fL V.rd l n least r s = (0, gk, s.2 + ks.length) /\ ∀ m ∈ gk, m ∈ s.1 \/ rA (gh m) (gh n)) :
  ∀ (q : List It) (i : Nat) (s : List Int × Int), p.items.drop i = q -> qi gh l q none -> vr q -> (∀ x ∈ q, V.bw x.child ≠ 0) -> (∀ k ∈ iG gh q, lH r k /\ k ∈ ks) -> (∀ m ∈ s.1, ∀ x ∈ q, ¬ rA (gh m) (gh x.child)) →
  ∃ gk, jn (fun i x s => fL V.rd l x.child 4 (gL r (nt p i)) s) i q s = (0, gk, s.2 + (iG gh q).length) /\ ∀ m ∈ gk, m ∈ s.1 \/ rA (gh m) (.nd l f ks)
 | [], i, s, _, _, _, _, _, _ => ⟨s.1, by rw [jn]; simp [iG], fun m h => .inl h⟩
 | x :: q, i, s, hd, qU, hr, CT, hk, hm => by
  have hx : p.items[i]? = some x := by
   have := congrArg (·[0]?) hd
   simpa using this
  have Bc : p.items.drop (i + 1) = q := by
   have := congrArg (List.drop 1) hd;rw [List.drop_drop] at this
   simpa using this
  obtain ⟨⟨fx, kx, o1, o2, o3, o4⟩, Tl⟩ := qU;have JJ := Jl.1 hr;have hkx : ∀ k ∈ kx, lH r k /\ k ∈ ks := fun k iX => hk k (by unfold iG; rw [ku, o1]; exact oT _ iX)
  obtain ⟨P8, e1, e2⟩ := re x.child fx kx 4 (gL r (nt p i)) s o1 (CT x (fp ..)) oM o3 (fun k iX => xu.2 ⟨(hkx k iX).1, (Jp hx k).2 (by rw [Bc]; exact o4 k iX)⟩) (fun m nA => hm m nA x (fp ..));rw [jn, e1];rw [ae sM];have aaX : ∀ y ∈ q, ∀ fy ky, gh y.child = .nd l fy ky -> ∀ a ∈ kx, ∀ b ∈ ky, a ≠ b := fun y hy fy ky hgy a ha b hb e => by
   subst e;cases q with
   | nil => cases hy
   | cons z q =>
    have h1 := (o4 a ha).2.2 z.key rfl;have h2 := IN Tl JJ.2 a (G2.2 ⟨y, hy, by rw [hgy]; exact hb⟩);omega
  obtain ⟨gk, a1, a2⟩ := Fa (f := f) re q (i + 1) (P8, s.2 + kx.length) Bc Tl JJ.2 (fun y hy => CT y (gF _ hy)) (fun k iX => hk k (by unfold iG at iX ⊢; rw [ku]; exact qV _ iX)) (fun m nA y hy hu => by
   rcases e2 m nA with h7 | h7
   ·exact hm m h7 y (gF _ hy) hu
   ·obtain ⟨j, hj⟩ := Ng hy;obtain ⟨fy, ky, p1, p2, p3, p4⟩ := AW.1 Tl j y hj;rw [p1] at hu;rw [o1] at h7
    cases O6 : gh m with
    | nd a b c =>
     rw [O6] at hu h7;obtain ⟨k0, Yu⟩ := UK _ h7.2.1;exact aaX y hy fy ky p1 k0 (h7.2.2 k0 Yu) k0 (hu.2.2 k0 Yu) rfl
    | bl a b =>
     rw [O6] at hu h7;exact aaX y hy fy ky p1 a h7 a hu rfl)
  have hlen : (iG gh (x :: q)).length = kx.length + (iG gh q).length := by
   unfold iG;rw [ku, cj, o1]; rfl
  refine ⟨gk, by rw [a1, hlen]; congr 2; omega, fun m nA => ?_⟩;rcases a2 m nA with h7 | h7
  ·rcases e2 m h7 with h8 | h8
   ·exact .inl h8
   rw [o1] at h8;exact .inr (yM (eW _) (fun k iX => (hkx k iX).2) h8)
  exact .inr h7
theorem UU (h : Gv V H BA gh) : ∀ (l : Nat) (n : Int) (f : Nat) (ks : List bN) (least : Int) (r : Rg) (s : List Int × Int), gh n = .nd l f ks -> V.bw n ≠ 0 -> least <= f -> ks ≠ [] -> (∀ key ∈ ks, lH r key) -> (∀ m ∈ s.1, ¬ rA (gh m) (gh n)) →
  ∃ gk, fL V.rd l n least r s = (0, gk, s.2 + ks.length) /\ ∀ m ∈ gk, m ∈ s.1 \/ rA (gh m) (gh n) := by
 intro l
 induction l with
 | zero =>
  intro n f ks least r s hg hc hf ly hk hm;have oF := h.loc n hc rfl;rw [hg] at oF hm ⊢;obtain ⟨l1, l2, l3, l4⟩ := cH.1 oF;have l2 : (V.pg n).kind = 1 := l2;have n4 : rA (gh n) (.nd 0 f ks) := by rw [hg]; exact ⟨eW _, ly, fun _ h => h⟩
  have ZA : n ∉ s.1 := fun h2 => hm n h2 n4
  rw [jf (FZ ZA hc), ae (by unfold nf; simp [l2]), ae oM];have l3 : ks = (V.pg n).items.map It.key := l3;obtain ⟨gk, a1, a2⟩ := Io (f := f) (ks := ks) (r := r) h (V.pg n).items 0 (n :: s.1, s.2) (fun x hx => by
   have xO : x.key ∈ ks := by rw [l3]; exact dd.2 ⟨x, hx, rfl⟩
   exact ⟨hk _ xO, xO, fun hs => ⟨(l4 x hx hs).1, h.Sy hc rfl (sU l2 hx (l4 x hx hs).2)⟩⟩) (tQ (h.J6 hc)) (fun m nA x hx lf hu => by
   have xO : x.key ∈ ks := by rw [l3]; exact dd.2 ⟨x, hx, rfl⟩
   rcases bB.1 nA with rfl | nA
   ·rw [hg] at hu; exact hu
   ·refine hm m nA ?_;cases O6 : gh m with
    | nd a b c => rw [O6] at hu; exact absurd hu id
    | bl a b => rw [O6] at hu; rw [hu.1]; exact xO)
  refine ⟨gk, Eq.trans a1 (by rw [l3, bA]), fun m nA => ?_⟩;rcases a2 m nA with h7 | h7
  ·rcases bB.1 h7 with rfl | h7
   ·exact .inr n4
   exact .inl h7
  exact .inr h7
 | succ l ih =>
  intro n f ks least r s hg hc hf ly hk hm;have oF := h.loc n hc rfl;rw [hg] at oF hm ⊢;obtain ⟨l1, l2, l3, l4, l5⟩ := qs.1 oF;have n4 : rA (gh n) (.nd (l + 1) f ks) := by rw [hg]; exact ⟨eW _, ly, fun _ h => h⟩
  have ZA : n ∉ s.1 := fun h2 => hm n h2 n4
  rw [jf (FZ ZA hc), ae (by unfold nf; rw [ae oM]; exact not_not_intro ⟨l2, by rw [l3]; simp⟩), ae oM];obtain ⟨gk, a1, a2⟩ := Fa (V := V) (gh := gh) (l := l) (r := r) (p := V.pg n) (f := f) (ks := ks) ih (V.pg n).items 0 (n :: s.1, s.2) rfl l5 (tQ (h.J6 hc)) (fun x hx => h.Sy hc rfl (g9 l2 hx)) (fun k iX => ⟨hk k (by rw [l4]; exact iX), by rw [l4]; exact iX⟩) (fun m nA x hx hu => by
   obtain ⟨j, hj⟩ := Ng hx;obtain ⟨fx, kx, p1, p2, p3, p4⟩ := AW.1 l5 j x hj;rw [p1] at hu;rcases bB.1 nA with rfl | nA
   ·rw [hg] at hu;have := hu.1; omega
   ·refine hm m nA (yM oM (fun k iX => ?_) hu);rw [l4]; exact G2.2 ⟨x, hx, by rw [p1]; exact iX⟩)
  refine ⟨gk, Eq.trans a1 (by rw [l4]), fun m nA => ?_⟩;rcases a2 m nA with h7 | h7
  ·rcases bB.1 h7 with rfl | h7
   ·exact .inr n4
   exact .inl h7
  exact .inr (yM oM (fun _ h => h) h7)
theorem VW (h : Gv V H BA gh) {T : Tr} (hT : p7 gh T) (hr : T.root ≠ 0 -> 1 <= H T.root) : sj V.rd T = 0 := by
 unfold sj;rcases hT with rfl | ⟨h1, l, f, ks, g1, g2, g3, g4, g5⟩
 ·rw [ah ⟨rfl, rfl, rfl⟩]
 have hc := h.held (hr h1);have oF := h.loc _ hc rfl;rw [g1] at oF;have hf := (cH.1 oF).1;have Qu := (cH.1 oF).2.1;have Qy := ji (h.J6 hc);have Hg := UG.2 g4;rw [ae (fun hn => h1 hn.1), ae (not_not_intro ⟨h1, oM, oM, oM⟩)];have hl : (T.aK - 1).toNat = l := oM;rw [hl];obtain ⟨gk, a1, a2⟩ := UU h l T.root f ks (U8 1 l) pJ ([], 0) g1 hc (by
   unfold U8;cases l with
   | zero => simp
   | succ l => have := (Qy.2.2.1 Qu.1); simp; omega) g4 (fun k hk => ⟨ON (h.J6 hc) oF k hk, AT _, .inl rfl⟩) (fun m hm => by cases hm)
 simp only [a1];rw [ae (fun h => h rfl), ae (by simp; omega)]
end
theorem Oq {f g : Nat -> Int} : ∀ {n : Nat}, (∀ i, i < n -> f i <= g i) -> oQ n f <= oQ n g
 | 0, _ => lV _
 | n + 1, h => by
  have h1 := Oq (n := n) fun i hi => h i oM
  have h2 := h n oM;rw [oQ, oQ]; omega
theorem Bl : ∀ n : Nat, oQ n (fun _ => (0 : Int)) = 0
 | 0 => rfl
 | n + 1 => by rw [oQ, Bl n]; rfl
theorem FU (kf : Int -> List Int) (N : Nat) (a : Int) : ∀ {W : List Int}, W.Nodup -> (∀ m ∈ W, 1 <= m /\ m <= (N : Int)) -> cI (W.flatMap kf) a = oQ N (fun i => if (i : Int) + 1 ∈ W then cI (kf ((i : Int) + 1)) a else 0)
 | [], _, _ => by
  rw [iZ (g := fun _ => 0) fun i _ => ae sM, Bl]; rfl
 | m :: W, hn, hm => by
  obtain ⟨h1, h2⟩ := xH.1 hn;have WK := hm m (fp ..);have e : ((m - 1).toNat : Int) + 1 = m := oM;rw [ku, cM, FU kf N a h2 (fun k hk => hm k (gF _ hk)),
   Ep (f := fun i : Nat => if (i : Int) + 1 ∈ W then cI (kf ((i : Int) + 1)) a else 0) (g := fun i : Nat => if (i : Int) + 1 ∈ m :: W then cI (kf ((i : Int) + 1)) a else 0) (j := (m - 1).toNat) oM (fun i _ hi => ?_)]
  ·simp only [e];rw [ah (fp ..), ae h1]; omega
  have ly : (i : Int) + 1 ≠ m := oM;simp only [bB, ly, false_or]
section
variable {V : Va} {H : Int -> Int} {gh : mJ}
def KY : Gn -> Nat
 | .nd l _ _ => 4000 + l
 | .bl _ left => left.toNat
theorem RV (h : Gv V H BA gh) {n k : Int} (hn : V.bw n ≠ 0) (hk : k ∈ aA (V.pg n)) : KY (gh k) < KY (gh n) := by
 have oF := h.loc n hn rfl;have tD := h.J6 hn;cases hg : gh n with
 | nd l f ks =>
  rw [hg] at oF;obtain ⟨l1, l2, l3, l4⟩ := cH.1 oF;cases l with
  | zero =>
   have l2 : (V.pg n).kind = 1 := l2;obtain ⟨x, hx, rfl, h0⟩ := E5 l2 k hk;have WL := sV tD l2 x hx;have hs : 32 < x.size := sN fun h5 => h0 (WL.2.1 oM).2
   rw [(l4 x hx hs).1]
   show x.size.toNat < 4000 + 0
   omega
  | succ l =>
   rw [dy l2.1] at hk;obtain ⟨x, hx, rfl⟩ := dd.1 hk;obtain ⟨j, hj⟩ := Ng hx;obtain ⟨fx, kx, p1, -⟩ := AW.1 l4 j x hj;rw [p1]
   show 4000 + l < 4000 + (l + 1)
   omega
 | bl key left =>
  rw [hg] at oF;obtain ⟨l1, l2, l3, l4, l5⟩ := oF;have iX : k = (V.pg n).next /\ (V.pg n).next ≠ 0 := by
   unfold aA at hk;rcases eu.1 hk with hk | hk
   ·obtain ⟨x, -, hx⟩ := UF.1 hk;rw [ae oM] at hx; cases hx
   split at hk
   ·rename_i h5;rw [Jj] at hk; exact ⟨hk, h5.2⟩
   cases hk
  have h6 : 480 < left := sN fun h7 => iX.2 (l4.2 oM)
  rw [iX.1, l5 h6]
  show (left - 480).toNat < left.toNat
  omega
theorem Mx (f : Nat -> Nat) : ∀ N : Nat, ∃ B, ∀ i, i < N -> f i <= B
 | 0 => ⟨0, fun i hi => by omega⟩
 | N + 1 => by
  obtain ⟨B, hB⟩ := Mx f N;exact ⟨max B (f N), fun i hi => by
   by_cases e : i = N
   ·subst e; omega
   ·have := hB i oM; omega⟩
theorem V7 {O : Int -> Bool} {a : Int} (h : arr V O a ≠ 0) : ∃ m, V.bw m ≠ 0 /\ a ∈ aA (V.pg m) := by
 refine Classical.byContradiction fun MU => h ?_
 unfold arr;rw [iZ (g := fun _ => 0) fun i _ => ?_, Bl];unfold uI;split
 ·rename_i h1
  by_cases e : cI (aA (V.pg ((i : Int) + 1))) a = 0
  ·exact e
  exact absurd ⟨_, h1.1, uF e⟩ MU
 rfl
theorem qg {m : Int} (h : V.bw m ≠ 0) : fX V.rd m = aA (V.pg m) := by unfold fX; rw [rD h]
theorem BF (h : Gv V H BA gh) {roots W A : List Int} (hl : QV V.rd roots W A) (hr : ∀ r ∈ roots, V.bw r ≠ 0) : ∀ n ∈ W, V.bw n ≠ 0 := by
 refine hl.min (fun n => V.bw n ≠ 0) hr fun n hn k hk => ?_
 rw [qg hn] at hk;exact h.Sy hn rfl hk
theorem IS (h : Gv V H BA gh) {roots W A : List Int} (hl : QV V.rd roots W A) (hr : ∀ n, 1 <= H n -> n ∈ roots) : ∀ n, V.bw n ≠ 0 -> n ∈ W := by
 obtain ⟨B, hB⟩ := Mx (fun i => KY (gh ((i : Int) + 1))) V.po.c.length;have VH : ∀ n, V.bw n ≠ 0 -> KY (gh n) <= B := fun n hn => by
  have ht : bg V.po.c n := cg hn;unfold bg at ht;have := hB (n - 1).toNat oM
  rwa [show (((n - 1).toNat : Nat) : Int) + 1 = n by omega] at this
 have key : ∀ (d : Nat) (n : Int), V.bw n ≠ 0 -> B - KY (gh n) < d -> n ∈ W := by
  intro d
  induction d with
  | zero => intro n _ hd; omega
  | succ d ih =>
   intro n hn hd;have hc := h.bw n
   by_cases e : 1 <= H n
   ·exact hl.sub n (by rw [hl.arr]; exact oT _ (hr n e))
   have h0 := h.h0 n;have IA := B0 h.ok n;obtain ⟨m, hm, hk⟩ := V7 (V := V) (O := BA) (a := n) oM;have hrk := RV h hm hk;have hmB := VH m hm;have hmW := ih m hm oM;refine hl.sub n ?_;rw [hl.arr];exact qV _ (G2.2 ⟨m, hmW, by rw [qg hm]; exact hk⟩)
 exact fun n hn => key _ n hn (Nat.lt_succ_self _)
theorem Im (h : Gv V H BA gh) {W : List Int} (hW : ∀ n ∈ W, V.bw n ≠ 0) : ∀ m ∈ W, 1 <= m /\ m <= (V.po.c.length : Int) := fun m hm => by
 have ht : bg V.po.c m := cg (hW m hm);exact ht
theorem BE (h : Gv V H BA gh) {roots W A : List Int} (hl : QV V.rd roots W A) (hW : ∀ n ∈ W, V.bw n ≠ 0) (a : Int) : cI A a <= cI roots a + arr V BA a /\ ((∀ n, V.bw n ≠ 0 -> n ∈ W) -> cI A a = cI roots a + arr V BA a) := by
 rw [hl.arr, cM, FU _ V.po.c.length a hl.nd (Im h hW)];unfold arr;refine ⟨?_, fun jv => ?_⟩
 ·have := Oq (n := V.po.c.length) (f := fun i : Nat => if (i : Int) + 1 ∈ W then cI (fX V.rd ((i : Int) + 1)) a else 0) (g := uI V BA a) fun i _ => by
   by_cases e : (i : Int) + 1 ∈ W
   ·rw [ah e, qg (hW _ e)];unfold uI;rw [ah ⟨hW _ e, rfl⟩]; exact lV _
   rw [ae e]; exact Kf _ _ _ _
  omega
 congr 1
 refine iZ fun i _ => ?_
 unfold uI
 by_cases e : V.bw ((i : Int) + 1) ≠ 0
 ·rw [ah (jv _ e), ah ⟨e, rfl⟩, qg e]
 rw [ae (fun h2 => e (hW _ h2)), ae (fun h2 => e h2.1)]
theorem FX {A : List Int} : yF V.po.c A ↔ ∀ n, bg V.po.c n -> cI A n = V.bw n := by
 unfold yF
 constructor
 ·intro h n ht;unfold bg at ht;have h1 : V.po.c[(n - 1).toNat]? = some (V.po.c.getD (n - 1).toNat 0) := by rw [qW, cV oM]; rfl
  have h2 := h _ _ h1;rw [show (((n - 1).toNat : Nat) : Int) + 1 = n by omega] at h2
  show (A.count n : Int) = iF V.po.c n
  unfold iF;rw [ah (by unfold bg; omega)]; exact h2
 intro h i x hx;have hi := (nU.1 hx).1;have h1 := h ((i : Int) + 1) (by unfold bg; omega);have h2 : V.bw ((i : Int) + 1) = x := by
  show iF V.po.c _ = x
  unfold iF;rw [ah (by unfold bg; omega), show ((i : Int) + 1 - 1).toNat = i by omega, qW, hx]; rfl
 rw [<-h2]; exact h1
end
theorem Na {V : Va} {H : Int -> Int} {gh : mJ} (h : Gv V H BA gh) {ts : List Tr} (hr : ∀ T ∈ ts, T.root ≠ 0 -> V.bw T.root ≠ 0) (a : Int) : cI (dz ts) a = cI (Bt ts) a := by
 induction ts with
 | nil => rfl
 | cons T ts ih =>
  have ih := ih fun U hU => hr U (gF _ hU)
  have e1 : dz (T :: ts) = (if 0 < T.root then [T.root] else []) ++ dz ts := by
   unfold dz;rw [cG, Ji]
   by_cases h0 : 0 < T.root <;> simp [h0]
  have e2 : Bt (T :: ts) = nZ T ++ Bt ts := by unfold Bt; rw [ku]
  rw [e1, e2, cM, cM, ih]
  congr 2
  unfold nZ nz
  by_cases h0 : T.root = 0
  ·rw [ae oM, ae (fun h => h h0)]
  have ht : bg V.po.c T.root := cg (hr T (fp ..) h0);unfold bg at ht;rw [ah oM, ah h0]
theorem Iq (rd : Int -> Option Pg) : ∀ W : List Int, jP rd 1 W + jP rd 2 W + pE rd W = (W.length : Int)
 | [] => rfl
 | n :: W => by
  have ih := Iq rd W;unfold jP pE at ih ⊢;simp only [Ji]
  by_cases h1 : lh rd n = 1
  ·simp [h1] at ih ⊢; omega
  by_cases h2 : lh rd n = 2
  ·simp [h2] at ih ⊢; omega
  simp [h1, h2] at ih ⊢; omega
theorem Mm : ∀ (c : List Int) (l : List Bool), l.length = c.length -> ri 3 c l + ri 4 c l = ((c.filter fun x => decide (0 < x)).length : Int)
 | [], [], _ => rfl
 | [], _ :: _, h => by simp at h
 | _ :: _, [], h => by simp at h
 | x :: c, b :: l, h => by
  have ih := Mm c l (by simpa using h);simp only [ri, Ji]
  by_cases hx : 0 < x
  ·cases b
   ·have e : I9 x false = 3 := by unfold I9; simp [hx]
    rw [e]; simp [hx]; omega
   have e : I9 x true = 4 := by unfold I9; simp [hx]
   rw [e]; simp [hx]; omega
  cases b
  ·have e : I9 x false = 1 := by unfold I9; simp [hx]
   rw [e]; simp [hx]; omega
  have e : I9 x true = 2 := by unfold I9; simp [hx]
  rw [e]; simp [hx]; omega
theorem KI (c : List Int) : oQ c.length (fun i => if 0 < c.getD i 0 then 1 else 0) = ((c.filter fun x => decide (0 < x)).length : Int) := by
 have : ∀ n, n <= c.length -> oQ n (fun i => if 0 < c.getD i 0 then 1 else 0) = (((c.take n).filter fun x => decide (0 < x)).length : Int) := by
  intro n
  induction n with
  | zero => intro _; rfl
  | succ n ih =>
   intro hn;obtain ⟨x, hx⟩ : ∃ x, c[n]? = some x := ⟨_, cV hn⟩;have hd : c.getD n 0 = x := by rw [qW, hx]; rfl
   rw [oQ, ih oM, hd, cP hx, G3, cj]
   by_cases h0 : 0 < x <;> simp [h0]
 rw [this _ (eW _), uZ]
theorem QE {V : Va} {ts : List Tr} {m : Int} (hg : Gi V ts m) : (∀ t ∈ ts, sj V.rd t = 0) /\ (∀ rp er, sD V.rd V.po.c ts rp er -> er = 0 /\ rp.trees = ts.length /\ rp.items = gX (ts.map Tr.items) /\ rp.bytes = gX (ts.map fun t => ew (cL V.rd t)) /\ rp.pages = ri 3 V.po.c V.po.l + ri 4 V.po.c V.po.l /\ rp.leaves + rp.index + rp.tz = rp.pages) ∧
  (∀ t ∈ ts, t.root ≠ 0 -> ∀ rp er, sD V.rd V.po.c (ts ++ [t]) rp er -> er = 18) /\ (∀ i t, ts[i]? = some t -> t.root ≠ 0 -> ∀ rp er, sD V.rd V.po.c (bJ ts i) rp er -> er = 18) := by
 obtain ⟨gh, h, hT⟩ := hg;have CT : ∀ T ∈ ts, T.root ≠ 0 -> V.bw T.root ≠ 0 := fun T rH hr => h.held (n := T.root) (Ja rH hr)
 have tD : ∀ t ∈ ts, sj V.rd t = 0 := fun t ht => VW h (hT t ht).1 fun hr => Ja ht hr
 have CO : ∀ us : List Tr, (∀ T ∈ us, T ∈ ts) -> (∀ r ∈ dz us, V.bw r ≠ 0) /\ ∀ a, cI (dz us) a = cI (Bt us) a := fun us hu => by
  have h2 := Na h (ts := us) fun T rH => CT T (hu T rH)
  refine ⟨fun r hr => ?_, h2⟩;unfold dz at hr;obtain ⟨h3, h4⟩ := G1.1 hr;obtain ⟨T, rH, rfl⟩ := dd.1 h3;exact CT T (hu T rH) (by have := of_decide_eq_true h4; omega)
 refine ⟨tD, fun rp er hw => ?_, fun t ht hr rp er hw => ?_, fun i t ht hr rp er hw => ?_⟩
 ·rcases hw with ⟨⟨t, ht, hc⟩, -⟩ | ⟨-, W, A, hl, hx⟩
  ·exact absurd (tD t ht) hc
  obtain ⟨r1, r2⟩ := CO ts fun _ h => h
  have w1 := BF h hl r1;have w2 := IS h hl fun n hn => uF (by rw [r2]; omega)
  have xP : yF V.po.c A := FX.2 fun n _ => by
   rw [(BE h hl w1 n).2 w2, r2, h.bw]
  obtain ⟨-, rfl, rfl⟩ := hx.resolve_right fun h2 => h2.1 xP
  refine ⟨rfl, rfl, rfl, rfl, ?_, Iq _ _⟩
  show (W.length : Int) = _
  have h5 := FU (fun _ => [0]) V.po.c.length 0 hl.nd (Im h w1);have h6 : ∀ U : List Int, cI (U.flatMap fun _ => [0]) 0 = (U.length : Int) := fun U => by
   induction U with
   | nil => rfl
   | cons a U ih => rw [ku, cM, ih, jO]; show (1 : Int) + _ = _; omega
  rw [h6] at h5;rw [h5, Mm _ _ h.ok.po.last, <-KI];refine iZ fun j hj => ?_
  have hcj : V.bw ((j : Int) + 1) = V.po.c.getD j 0 := by
   show iF V.po.c _ = _
   unfold iF;rw [ah (by unfold bg; omega), show ((j : Int) + 1 - 1).toNat = j by omega]
  have IA := B0 h.ok ((j : Int) + 1)
  by_cases e : V.bw ((j : Int) + 1) = 0
  ·rw [ae (fun h2 => w1 _ h2 e), ae oM]
  rw [ah (w2 _ e), ah oM]; rfl
 ·rcases hw with ⟨-, -, h2⟩ | ⟨-, W, A, hl, hx⟩
  ·exact h2
  obtain ⟨r1, r2⟩ := CO (ts ++ [t]) fun T rH => (eu.1 rH).elim id fun h2 => by rw [Jj] at h2; rw [h2]; exact ht
  have w1 := BF h hl r1;have w2 := IS h hl fun n hn => uF (by rw [r2, oA]; have := bW (Bt [t]) n; omega)
  refine (hx.resolve_left fun h2 => ?_).2.2;have hf := FX.1 h2.1 t.root (cg (CT t ht hr));rw [(BE h hl w1 t.root).2 w2, r2, oA, zZ, h.bw] at hf;have := Ex hr;omega
 rcases hw with ⟨-, -, h2⟩ | ⟨-, W, A, hl, hx⟩
 ·exact h2
 obtain ⟨r1, r2⟩ := CO (bJ ts i) fun T rH => ry rH
 have w1 := BF h hl r1;refine (hx.resolve_left fun h2 => ?_).2.2;have hf := FX.1 h2.1 t.root (cg (CT t (ed ht) hr));have hle := (BE h hl w1 t.root).1;rw [hf, r2, h.bw, Bs ht] at hle;have := Ex hr;omega
theorem UP {f : Nat} {V : Va} {T : Tr} {key value : bN} {r : Tr × Bool × Int × Va} (aJ : V.Ok) (h : yT f V T key value = some r) : r.2.2.2.sz <= V.sz + 20 * f + 4294967345 := by
 unfold yT at h;split at h
 ·cases h; show V.sz <= V.sz + 20 * f + 4294967345; omega
 split at h
 ·cases h; show V.sz <= V.sz + 20 * f + 4294967345; omega
 split at h
 ·cases h; show V.sz <= V.sz + 20 * f + 4294967345; omega
 split at h
 ·cases h; show V.sz <= V.sz + 20 * f + 4294967345; omega
 have h1 := Er aJ key value;split at h
 ·cases h
 rename_i r' h2;have h3 := (h1.trans (Ld (Su _ _) h1.ok h2)).sz;cases h;split
 ·show V.sz <= V.sz + 20 * f + 4294967345; omega
 show r'.1.sz <= V.sz + 20 * f + 4294967345; omega
theorem VS {f : Nat} {V : Va} {T : Tr} {key : bN} {r : Tr × Bool × Int × Va} (aJ : V.Ok) (h : Mh f V T key = some r) : r.2.2.2.sz <= V.sz + 60 * f + 4294967413 := by
 unfold Mh at h;split at h
 ·cases h; show V.sz <= V.sz + 60 * f + 4294967413; omega
 split at h
 ·cases h; show V.sz <= V.sz + 60 * f + 4294967413; omega
 have h1 := Lt.uJ aJ 0 T.root;simp only at h;split at h
 ·cases h
 rename_i d h2;have h3 := Lt.jr h1.ok h2;have h4 := (h1.trans (h3.trans (Lt.gn (key := key) h3.ok))).sz;cases h;split
 ·show V.sz <= V.sz + 60 * f + 4294967413; omega
 show (gn key d).1.sz <= V.sz + 60 * f + 4294967413; omega
theorem Cu {ts : List Tr} {i : Nat} : (bJ ts i).length <= ts.length := by
 unfold bJ; rw [cj, fK, iC]; omega
theorem RN {V : Va} {ts : List Tr} {o : Opr} {res : Va × List Tr} (aJ : V.Ok) (h : ye V ts o = some res) : res.1.sz <= V.sz + 4300000000 := by
 unfold ye at h;split at h
 ·cases h; show V.sz <= V.sz + 4300000000; omega
 simp only at h;split at h
 ·obtain ⟨r, h1, h2⟩ := La.1 h;have h3 := UP aJ h1;cases h2; show r.2.2.2.sz <= V.sz + 4300000000; omega
 split at h
 ·obtain ⟨r, h1, h2⟩ := La.1 h;have h3 := VS aJ h1;cases h2; show r.2.2.2.sz <= V.sz + 4300000000; omega
 split at h
 ·split at h
  ·cases h; show V.sz <= V.sz + 4300000000; omega
  split at h
  ·cases h; show V.sz <= V.sz + 4300000000; omega
  have h3 := (Lt.pC aJ (ts.getD (yf o.t ts.length) kp).root).sz;cases h; show (V.pC (ts.getD (yf o.t ts.length) kp).root).2.sz <= V.sz + 4300000000; omega
 split at h
 ·split at h
  ·cases h; show V.sz <= V.sz + 4300000000; omega
  have h3 := (Lt.drop aJ (ts.getD (yf o.t ts.length) kp).root).sz;cases h; show (V.drop (ts.getD (yf o.t ts.length) kp).root).2.sz <= V.sz + 4300000000; omega
 have h3 := Va.PC aJ;cases h; show V.settle.sz <= V.sz + 4300000000; omega
theorem PB {V : Va} {ts : List Tr} {o : Opr} {res : Va × List Tr} (hl : ts.length <= 20) (h : ye V ts o = some res) : res.2.length <= 20 := by
 have hi : ∀ (b : Prop) [Decidable b] (us : List Tr), us.length <= 20 -> (if b then us else ts).length <= 20 := fun b _ us hu => by split <;> assumption
 unfold ye at h;split at h
 ·cases h; show (if ts.length < 20 then ts ++ [kp] else ts).length <= 20
  split
  ·rw [cj, jt]; omega
  exact hl
 simp only at h;split at h
 ·obtain ⟨r, h1, h2⟩ := La.1 h;cases h2; exact hi _ _ (by rw [qC]; exact hl)
 split at h
 ·obtain ⟨r, h1, h2⟩ := La.1 h;cases h2; exact hi _ _ (by rw [qC]; exact hl)
 split at h
 ·split at h
  ·cases h; exact hl
  rename_i h5;have h6 : ∀ t : Tr, (ts ++ [t]).length <= 20 := fun t => by rw [cj, jt]; omega
  split at h
  ·cases h; exact h6 _
  cases h; exact hi _ _ (h6 _)
 split at h
 ·split at h
  ·cases h; exact K1 Cu hl
  cases h; exact hi _ _ (K1 Cu hl)
 cases h; exact hl
theorem Gi.ok {V : Va} {ts : List Tr} {m : Int} (h : Gi V ts m) : V.Ok := by obtain ⟨gh, h1, -⟩ := h; exact h1.ok
theorem Gi.trees {V : Va} {ts : List Tr} {m : Int} (h : Gi V ts m) (h0 : 0 <= m) (h1 : m <= 1000000) : ∀ t ∈ ts, (0 <= t.aK /\ t.aK <= 1000) /\ 0 <= t.items /\ t.items <= 1000000 := fun t ht => by
 obtain ⟨gh, -, h2⟩ := h;obtain ⟨h3, h4⟩ := h2 t ht;rcases h3 with rfl | ⟨-, l, f, ks, -, h5, h6, -, h7⟩
 ·exact ⟨⟨by decide, by decide⟩, by decide, by decide⟩
 exact ⟨⟨oM, oM⟩, oM, oM⟩
def P7 (pages refs : Int) : Va := tX refs (List.replicate pages.toNat 0) []
theorem U2 {pages refs : Int} (h : 1 <= pages /\ pages <= 65536 /\ 2 <= refs /\ refs < 65536) : (P7 pages refs).Ok :=
 Il ⟨by
  unfold Lk;rw [ae (not_not_intro (by rw [Ni]; exact ⟨oM, oM, h.2.2⟩)), ae (not_not_intro (fun x hx => by rw [PV hx]; omega))], rfl, fun i x hx h0 => by have hm := ed hx; rw [PV hm] at h0; omega⟩
theorem U3 {pages refs : Int} (h : 1 <= pages /\ pages <= 65536 /\ 2 <= refs /\ refs < 65536) : Gi (P7 pages refs) [] 0 :=
 Gi.start (U2 h) fun n => by
  show iF _ n = 0
  unfold iF;split
  ·show (List.replicate pages.toNat (0 : Int)).getD _ 0 = 0
   rw [qW];cases hx : (List.replicate pages.toNat (0 : Int))[(n - 1).toNat]? with
   | none => rfl
   | some x => exact PV (ed hx)
  rfl
theorem U1 {pages refs : Int} : (P7 pages refs).sz = 0 := rfl
theorem wy {rd : Int -> Option Pg} {t : Tr} (h : jC t \/ ∃ M, w8 rd t M) : ((cL rd t).length : Int) = t.items := by
 unfold cL;rcases h with h | ⟨M, h⟩
 ·rw [ah h.1, h.2.2]; rfl
 rw [ae h.form.1]; exact h.items
theorem Ez : ∀ (i : Nat) (l : List Tr), (r7 i l).map (·.2) = l
 | _, [] => rfl
 | i, t :: l => by rw [r7, cG, Ez]
theorem tP (l : List Tr) : (eh l).map (·.2) = l := Ez 0 l
theorem qB (l : List Tr) : (eh l).length = l.length := yh l 0
theorem KJ {M : Int} (hM : 0 <= M) : ∀ {l : List Int}, (∀ x ∈ l, 0 <= x /\ x <= M) -> 0 <= gX l /\ gX l <= M * l.length := fun {l} => by
 have key : ∀ n, ∀ l : List Int, l.length = n -> (∀ x ∈ l, 0 <= x /\ x <= M) -> 0 <= gX l /\ gX l <= M * l.length := by
  intro n
  induction n with
  | zero => intro l hl _; rw [yS hl]; exact ⟨lV _, by simp [gX]⟩
  | succ n ih =>
   intro l hl h;obtain ⟨a, x, rfl⟩ : ∃ a x, l = a ++ [x] := ⟨l.dropLast, l.getLast (fun h => by rw [h] at hl; cases hl), (PX _).symm⟩;rw [cj, jt] at hl;obtain ⟨h1, h2⟩ := ih a oM fun y hy => h y (oT _ hy)
   obtain ⟨h3, h4⟩ := h x (qV _ (Jj.2 rfl));rw [qm, cj, jt];have e : M * ((a.length + 1 : Nat) : Int) = M * a.length + M := by push_cast; rw [Int.mul_add, Int.mul_one]
   rw [e];omega
 exact key _ l rfl
theorem Rz {rd : Int -> Option Pg} {c : List Int} {ts : List Tr} {rp : Rp} {er : Int} (h : sD rd c ts rp er) : 0 <= rp.leaves /\ 0 <= rp.index /\ 0 <= rp.tz := by
 have hz : 0 <= GZ.leaves /\ 0 <= GZ.index /\ 0 <= GZ.tz := ⟨by decide, by decide, by decide⟩;rcases h with ⟨-, rfl, -⟩ | ⟨-, W, A, -, ⟨-, rfl, -⟩ | ⟨-, rfl, -⟩⟩
 ·exact hz
 ·exact ⟨Int.natCast_nonneg _, Int.natCast_nonneg _, Int.natCast_nonneg _⟩
 exact hz
def HQ (tb tc i n : Nat) (u : Value) : Prop := u = .slice (some ⟨tb, 0 + ((i : Int) + 1).toNat * 3, none⟩) (n - ((i : Int) + 1).toNat) (tc - ((i : Int) + 1).toNat) \/ ((i : Int) + 1 = n /\ u = sQ tb 0 0)
theorem HQ.slt {tb tc i : Nat} {ts : List Tr} {u : Value} {w : World} (h : HQ tb tc i ts.length u) (hi : i < ts.length) (hs : gC 3 (sQ tb ts.length tc) (ts.map aC) w) : gC 3 u ((ts.drop (i + 1)).map aC) w := by
 rcases h with rfl | ⟨h1, rfl⟩
 ·have h1 : gC 3 (sQ tb (ts.map aC).length tc) (ts.map aC) w := by rw [bA]; exact hs
  have h2 := h1.TA (lo := i + 1) (by rw [bA]; omega);rw [bA, <-K4] at h2;rw [show ((i : Int) + 1).toNat = i + 1 by omega];exact h2
 exact .inl ⟨_, rfl, fun _ _ => rfl, by rw [u0 oM]; rfl⟩
theorem RJ {tb tc i : Nat} {ts : List Tr} {w : World} (hi : i < ts.length) (hc : ts.length <= tc) (hs : gC 3 (sQ tb ts.length tc) (ts.map aC) w) : gC 3 (sQ tb (i : Int).toNat tc) ((ts.take i).map aC) w := by
 rw [fQ, K5];have h9 := hs.take (j := i) (cap' := tc) (by rw [bA]; omega) oM (fun h => by have := congrArg List.length h; rw [bA, vM] at this; omega);exact h9.resolve_right (fun h => by cases h)
theorem gC.spot {z m cap : Nat} {a : Option Addr} {rs : List (List Value)} {w : World} (h : gC z (.slice a m cap) rs w) : cap = 0 \/ ∀ x, a = some x -> x.spot = none := by
 rcases h with ⟨a', h1, -, -⟩ | ⟨b, o, c, h1, -, -, -⟩
 ·cases h1; exact .inl rfl
 cases h1; exact .inr fun x hx => by cases hx; rfl
section
variable {P : Program} {n : Nat} {ops : Array Oper} {dr : Bool} {done r : List Nat} {K : gj -> World -> Prop} {e : gj} {w : World} {i d : Nat} {t s : TypeId} {p : String} {af : Array Edge} {g : Option (Nat × Bool)} {x : Operand}
theorem Uq {c : TypeId} {q : Option Addr} {len cap : Nat} {hi : Int} {kh : IntKind} {h' : Operand} (ho : ops[i]? = some ⟨some d, .slice s x none (some h') none, t, p, af, g⟩) (hs : P.underlying s = some (.slice c)) (hz : ((P.info? c).map (·.size)).isSome = true)
  (hx : ev e x = some (.slice q len cap)) (hq : cap = 0 \/ ∀ a, q = some a -> a.spot = none) (hh : ev e h' = some (.int kh hi)) (hb : 0 <= hi /\ hi <= cap)
  (h : XL P n ops dr (i :: done) r K ((d, .slice q hi.toNat cap) :: e) w) (hd : Nat.blt d n = true := by exact rfl) (hg : Gd ops e g := by first | trivial | exact ⟨_, rfl, rfl⟩) : XL P n ops dr done (i :: r) K e w := by
 rcases hq with hq | hq
 ·subst hq;have hh0 : hi.toNat = 0 := oM;rw [hh0] at h;refine eO ho (by simpa [cS] using hd) hg (ρ := rh e) (by intro z hZ; simp [Op.operands] at hZ; exact Da hx hh hZ) rfl (v := .slice q 0 0) (fun w' => by
   cases uP : P.info? c with
   | none => simp [uP] at hz
   | some inf =>
    have h1 := mP (P := P) (k := kh) (v := hi) (y := 0) (c := .sliceAcap) hb w';simp [execOp, bO hx, bO hh, Instr.sliceAt, Instr.slice, Instr.sliceBounds, run_underlying hs, h1, sizeOf, typeInfo, uP, hh0]) h
 exact rX (hd := hd) (hg := hg) ho hs hz hx hq hh hb h
end
section
variable {G : Gh} {L R : List az} {w : World}
theorem AO {q : Nat} {P : Po} {k : Int} (hw : ar G (gZ q P :: L) w) (hk : k = 3 \/ k = 4) : Calls prog 18 #[pQ q, iQ k] w (dv fun u w' => u = iQ (ri k P.c P.l) /\ ar G (gZ q P :: L) w') := by
 obtain ⟨m, hf, hw⟩ := jH hw;refine ik (zo hw) fun v w' ⟨h1, h2⟩ => ⟨?_, fT hf h2⟩
 rw [h1];rcases hk with rfl | rfl <;> rfl
end
section
variable {G : Gh} {L R : List az} {w : World}
theorem NZ {pages refs : Int} {sv : Value} {l : List Pt} (hw : ar G L w) (Q0 : aX L EvK) (ks : aX L (gC 4 sv (l.map Pt.cells))) (oF : ∀ o ∈ l, o.Ok L) :
  Calls prog 4 #[iQ pages, iQ refs, sv] w (dv fun r w' => r = .bool true /\ ar G L w') := by
 obtain ⟨sa, sc, h1, h2, -⟩ := (ks.at hw).form;rw [bA] at h1 h2;subst h1;have tC := (ks.at hw).spot;refine al (args := [_, _, _]) func4 rfl ntmps4 rfl rfl ?_;refine z8 ?_;refine dQ rfl kR fh rfl ?_;refine yH rfl rfl rfl ?_;obtain ⟨n, hn⟩ : ∃ n : Nat, min (l.length : Int) 60 = (n : Int) := ⟨min l.length 60, oM⟩;rw [hn];refine Uq rfl fh xF rfl tC rfl ⟨oM, oM⟩ ?_;rw [fQ];refine z5 ?_;refine an rfl DN rfl (F7 hw (Q0.of sF)) rfl fun w v26 hv => ?_;obtain ⟨rfl, hw⟩ := hv;refine nY rfl rfl ?_;refine aH ?_;refine fm rfl (fun h1 => ?_) fun h1 => ?_
 ·
  cases h1
 refine z7 ?_;refine bY (l1 := [3, 4, 5]) (l2 := [6, 7, 8, 9, 10, 11, 12, 13]) rfl (d := 33) (pages < 1 \/ 400 < pages) rfl ?_ ?_
 ·
  refine aE (d := 30) rfl (fun h2 => ?_) fun h2 => ?_
  ·
   refine z4 ?_;refine cQ ?_;exact dC
  refine z4 ?_;refine cQ ?_;exact dC
 refine z1 ?_;refine bY (l1 := [7, 8, 9]) (l2 := [10, 11, 12, 13]) rfl (d := 37) (pages < 1 \/ 400 < pages \/ refs < 2) rfl ?_ ?_
 ·
  refine aE (d := 34) rfl (fun h3 => ?_) fun h3 => ?_
  ·
   refine z4 ?_;refine cQ ?_;exact dC
  refine z4 ?_;refine cQ ?_;exact dC
 refine z1 ?_;refine bY (l1 := [11, 12, 13]) (l2 := []) rfl (d := 41) (pages < 1 \/ 400 < pages \/ refs < 2 \/ 65535 < refs) rfl ?_ ?_
 ·
  refine aE (d := 38) rfl (fun h4 => ?_) fun h4 => ?_
  ·
   refine z4 ?_;refine cQ ?_;exact dC
  refine z4 ?_;refine cQ ?_;exact dC
 refine aH ?_;refine aS rfl (fun h5 => ?_) fun h5 => ?_
 ·
  refine z5 ?_;exact br rfl rfl rfl ⟨rfl, (by repeat (first | exact hw | replace hw := hw.tail))⟩
 refine z5 ?_;refine an rfl yw rfl (AG hw) rfl fun w v45 hv => ?_;have hpr : 1 <= pages /\ pages <= 65536 /\ 2 <= refs /\ refs < 65536 := oM;obtain ⟨-, vq, om, q, cv, lv, fq, fv, rfl, hw⟩ := hv.resolve_left (fun h => h.1 hpr);have hw : ar G (pI [] :: _) w := ar.bH (M := []) hw;have hw := hw.b [ag vq _ _, cX om _];have hw : ar G (aZ vq (P7 pages refs) :: L) w := Ik (on := []) (fun x hx => by rw [PV hx]; omega) (fun x hx => by cases hx) hw;have hg0 := U3 hpr;refine KA ?_;refine aE (d := 50) rfl (fun h6 => ?_) fun h6 => ?_
 ·
  exact absurd rfl h6
 refine z1 ?_;refine Oe rfl kR uX rfl ?_;refine z2 ?_;refine fm rfl (fun h7 => ?_) fun h7 => ?_
 ·
  cases h7
 refine Oc ?_;have hw : ar G (pw (nQ) [] :: aZ vq (P7 pages refs) :: L) w := cf hw 62 3;refine cO (fun m e w => ∃ (j : Nat) (tv : Value) (ts : List Tr) (V : Va), j <= n /\ m = n - j /\ e = [(2, .slice sa n sc), (7, pQ vq), (9, tv), (10, iQ j)] /\ (Gi V ts j /\ ts.length <= 20 /\ V.sz <= 4300000000 * j) /\ ar G (pw tv ts :: aZ vq V :: L) w)
  (m := n) sB
  ⟨0, nQ, [], P7 pages refs, fo _, rfl, rfl, ⟨hg0, by simp, by rw [U1]; decide⟩, hw⟩ ?_
 rintro m e w ⟨j, tv, ts, V, hj, rfl, rfl, ⟨Yz, GN, dm⟩, hw⟩;refine z5 ?_;refine dQ rfl kR fh rfl ?_;refine z2 ?_;refine aS rfl (fun h8 => ?_) fun h8 => ?_
 ·
  obtain ⟨o, ho⟩ : ∃ o, l[j]? = some o := ⟨_, cV oM⟩;have hor : (l.map Pt.cells)[j]? = some o.cells := by rw [dB, ho]; rfl
  obtain ⟨sb, so, rfl⟩ := ((ks.of sF).at hw).nn (by rw [bA]; omega);obtain ⟨res, bQ, hgr⟩ := Yz.step (o := o.o) oM;have NI := PB GN bQ;have GP := RN Yz.ok bQ;refine z8 ?_;refine dD rfl fh yN rfl rfl ⟨oM, oM⟩ ?_;refine bt rfl rfl (aj.many (cs := o.cells) vU rfl (by rw [fQ]; exact ((ks.of sF).at hw).at hor)) ?_;refine an rfl Gs rfl (HD (o := o) (res := res) hw Yz.ok oM GN (Yz.trees oM oM) ((oF o (ed ho)).of sF) bQ) rfl fun w v66 hv => ?_;have hw : ar G (pw v66 res.2 :: aZ vq res.1 :: L) _ := hv;refine z7 ?_;exact ⟨n - (j + 1), oM, [(2, _), (7, _), (9, _), (10, iQ (j + 1 : Nat))], sB, j + 1, v66, res.2, res.1, oM, rfl, rfl, ⟨by push_cast; exact hgr, NI, by push_cast; omega⟩, hw⟩
 obtain ⟨ta, tc, rfl⟩ := aM hw;obtain ⟨tD, hwh, OR, hwo⟩ := QE Yz;have aJ := Yz.ok;have G8 := Yz.trees oM oM;have gD : ∀ t ∈ ts, jC t \/ ∃ M, w8 V.rd t M := fun t ht => uw (Va.yP aJ) (tD t ht)
 have Sx : ∀ R, aX (pw (.slice ta ts.length tc) ts :: R) (gC 3 (.slice ta ts.length tc) (ts.map aC)) := fun R => (gC.row (T := 62) (by rw [bA]) (zS _)).head R
 refine z5 ?_;refine an rfl mr rfl (nH (l := ts) hw ((Sx _).of sF) oM) rfl fun w v70 hv => ?_;have hw : ar G (row 69 4 v70 ts.length ((eh ts).map dR).flatten :: _) _ := hv;have hkr : ∀ {v : Value} {us : List Tr} (R), aX (row 69 4 v us.length ((eh us).map dR).flatten :: R) (gC 4 v ((eh us).map dR)) := fun R => (gC.row (by rw [bA, qB]) (fun r hr => by obtain ⟨x, -, rfl⟩ := dd.1 hr; rfl)).head R
 refine an rfl jL rfl (kH (V := V) (l := eh ts) (hw.b [aZ vq V]) aJ ((hkr _).of sF) (by rw [qB]; omega) (Q0.of sF)) rfl (fun w v71 hv => ?_);obtain ⟨rp, er, rfl, ⟨SQ, acw⟩, hw⟩ := hv;rw [tP] at SQ;have IA := Rz SQ;obtain ⟨rfl, Di, JJ, hr3, hr4, hr5⟩ := hwh rp er SQ;refine z3 ?_;refine aN rfl jW hw rfl fun w mT hw => ?_;refine aL (cs := mY.cells ⟨rp, nQ⟩) (l' := mY.cells ⟨rp, nQ⟩) rfl tV rfl rfl ct rfl (by intro u hu; simp [mY.cells] at hu; rcases hu with rfl | rfl | rfl | rfl | rfl | rfl | rfl | rfl <;> rfl) hw pK (by simp [mY.cells]) rfl rfl (fun w hw => ?_);have hw := (hw.b [row 69 4 v70 _ _]).tail;have hw := hw.b [ag mT _ _, pw _ ts, aZ vq V];refine Zc ?_;have hib : ∀ i, 0 <= gX ((ts.take i).map Tr.items) /\ gX ((ts.take i).map Tr.items) <= 1000000 * 20 := fun i => by
  have h := KJ (M := 1000000) dM (l := (ts.take i).map Tr.items) (fun x hx => by obtain ⟨t, ht, rfl⟩ := dd.1 hx; exact (G8 t (r9 ht)).2);rw [bA, fK] at h;omega
 have hlb : ∀ i, 0 <= gX ((ts.take i).map fun t => ew (cL V.rd t)) /\ gX ((ts.take i).map fun t => ew (cL V.rd t)) <= 3840000000 * 20 := fun i => by
  have h := KJ (M := 3840000000) dM (l := (ts.take i).map fun t => ew (cL V.rd t)) (fun x hx => by
        obtain ⟨t, ht, rfl⟩ := dd.1 hx;have h1 := FW (rd := V.rd) (t := t);have h2 := wy (gD t (r9 ht));have h3 := (G8 t (r9 ht)).2;exact ⟨h1.1, oM⟩)
  rw [bA, fK] at h;omega
 refine cO (fun m e w => ∃ (i : Nat), i <= ts.length /\ m = ts.length - i /\ e = [(7, pQ vq), (8, iQ 0), (9, .slice ta ts.length tc), (11, pQ mT), (12, iQ (gX ((ts.take i).map Tr.items))), (13, iQ (gX ((ts.take i).map fun t => ew (cL V.rd t)))), (14, iQ i)] /\ ar G (ag mT (mY.cells ⟨rp, nQ⟩) 40 :: pw (.slice ta ts.length tc) ts :: aZ vq V :: L) w)
  (m := ts.length) sB
  ⟨0, fo _, rfl, rfl, hw⟩ ?_
 rintro m e w ⟨i, hi, rfl, rfl, hw⟩;refine z5 ?_;refine dQ rfl kR aU rfl ?_;refine z2 ?_;refine aS rfl (fun h9 => ?_) fun h9 => ?_
 ·
  obtain ⟨t, ht⟩ : ∃ t, ts[i]? = some t := ⟨_, cV oM⟩;have MP := ed ht;have Q1 : (ts.map aC)[i]? = some (aC t) := by rw [dB, ht]; rfl
  have Q5 : (ts.take (i + 1)) = ts.take i ++ [t] := cP ht;have q9 : gX ((ts.take (i + 1)).map Tr.items) = gX ((ts.take i).map Tr.items) + t.items := by rw [Q5, il, cG, j3, qm]
  have vw : gX ((ts.take (i + 1)).map fun t => ew (cL V.rd t)) = gX ((ts.take i).map fun t => ew (cL V.rd t)) + ew (cL V.rd t) := by rw [Q5, il, cG, j3, qm]
  have hi1 := hib i;have hi2 := hib (i + 1);have O3 := hlb i;have Kq := hlb (i + 1);have Tg := wy (gD t MP);have WA := (G8 t MP).2;obtain ⟨tb, to, CN⟩ := (((Sx _).of sF).at hw).nn (by rw [bA]; omega);subst CN;refine z8 ?_;refine dD rfl aU bV rfl rfl ⟨oM, oM⟩ ?_;refine bt rfl rfl (aj.many (cs := aC t) aF rfl (by rw [fQ]; exact (((Sx _).of sF).at hw).at Q1)) ?_;refine aQ (v := gQ C8.cells) rfl rfl (fun w => kR) ?_;refine an rfl HI rfl (J0 (t := t) (hw.b [aZ vq V]) aJ (gD t MP)) rfl fun w v87 hv => ?_;obtain ⟨ov, ol, rfl, ⟨LU, O1⟩, hw⟩ := hv;obtain ⟨oa, oc, rfl⟩ := aM hw;have aaH : (ol.length : Int) = t.items := by rw [<-Tg, <-LU, bA]
  have LN : ∀ k, ew ((cL V.rd t).take k) <= 3840 * k /\ 0 <= ew ((cL V.rd t).take k) := fun k => by
   have h1 := EW (l := (cL V.rd t).take k) (fun y hy => (wA (Va.yP aJ) y (r9 hy)).2);have h2 := List.length_take_le k (cL V.rd t);omega
  have hw := hw.b [row 66 2 _ _ _, aT (ol.flatMap dO), ag mT _ _, pw _ ts, aZ vq V];refine yb ?_;refine dQ rfl kR jl rfl ?_;refine z8 ?_;refine cO (fun m e w => ∃ (k : Nat), k <= ol.length /\ m = ol.length - k /\ e = [(7, pQ vq), (8, iQ 0), (9, .slice (some ⟨tb, to, none⟩) ts.length tc), (11, pQ mT), (12, iQ (gX ((ts.take i).map Tr.items) + ol.length)), (13, iQ (gX ((ts.take i).map fun t => ew (cL V.rd t)) + ew ((cL V.rd t).take k))), (14, iQ i), (15, .slice oa ol.length oc), (17, iQ k)] /\ ar G (row 66 2 (.slice oa ol.length oc) ol.length (ol.map pH.cells).flatten :: aT (ol.flatMap dO) :: ag mT (mY.cells ⟨rp, nQ⟩) 40 :: pw (.slice (some ⟨tb, to, none⟩) ts.length tc) ts :: aZ vq V :: L) w)
   (m := ol.length) (e₀ := [(7, pQ vq), (8, iQ 0), (9, .slice (some ⟨tb, to, none⟩) ts.length tc), (11, pQ mT), (12, iQ (gX ((ts.take i).map Tr.items) + ol.length)), (13, iQ (gX ((ts.take i).map fun t => ew (cL V.rd t)))), (14, iQ i), (15, .slice oa ol.length oc), (17, iQ (0 : Nat))]) sB
   ⟨0, fo _, rfl, by rw [K6, show ew [] = 0 from rfl, K0], hw⟩ ?_
  rintro m e w ⟨k, hk, rfl, rfl, hw⟩;refine z5 ?_;refine dQ rfl kR jl rfl ?_;refine z2 ?_;refine aS rfl (fun oG => ?_) fun oG => ?_
  ·
   have nS : k < ol.length := oM;obtain ⟨y, hy⟩ : ∃ y, ol[k]? = some y := ⟨_, cV nS⟩;have NB : (ol.map pH.cells)[k]? = some y.cells := by rw [dB, hy]; rfl
   obtain ⟨ya, yc, hyv⟩ := Sc hw.tail (ed hy);have O4 : ∀ R, aX (row 66 2 (.slice oa ol.length oc) ol.length (ol.map pH.cells).flatten :: R) (gC 2 (.slice oa ol.length oc) (ol.map pH.cells)) := fun R => (gC.row sM (fun r hr => by obtain ⟨z, _, rfl⟩ := dd.1 hr; rfl)).head R
   obtain ⟨ob, oo, hoa⟩ := (((O4 _).of sF).at hw).nn (by rw [bA]; omega);subst hoa;have hfy : (cL V.rd t)[k]? = some y.pr := by rw [<-LU, dB, hy]; rfl
   have SR := LN k;have Iy := LN (k + 1);have X1 : ew ((cL V.rd t).take (k + 1)) = ew ((cL V.rd t).take k) + y.pr.2.length := by rw [cP hfy, yZ]
   refine z7 ?_;refine dD rfl jl rB rfl rfl ⟨oM, oM⟩ ?_;refine cy rfl yo rfl ?_;refine bt rfl rfl (aj.one (v := .slice ya y.pr.2.length yc) ay (by rw [<-hyv]; exact (((O4 _).of sF).at hw).cell (j := 1) NB rfl)) ?_;refine z9 ?_;exact ⟨ol.length - (k + 1), oM, [(7, _), (8, _), (9, _), (11, _), (12, _), (13, iQ (gX ((ts.take i).map fun t => ew (cL V.rd t)) + ew ((cL V.rd t).take (k + 1)))), (14, _), (15, _), (17, iQ (k + 1 : Nat))], (by rw [X1, <-Int.add_assoc]; exact sB), k + 1, oM, rfl, rfl, hw⟩
  have wg : k = ol.length := oM;subst wg;have SW : (cL V.rd t).take ol.length = cL V.rd t := vN (by rw [<-LU, bA]; omega);rw [SW];refine z6 ?_;exact ⟨ts.length - (i + 1), oM, [(7, _), (8, _), (9, _), (11, _), (12, iQ (gX ((ts.take (i + 1)).map Tr.items))), (13, iQ (gX ((ts.take (i + 1)).map fun t => ew (cL V.rd t)))), (14, iQ (i + 1 : Nat))], (by rw [q9, vw, <-aaH]; exact sB), i + 1, oM, rfl, rfl, hw.tail.tail⟩
 have hie : i = ts.length := oM;have Vy := uv 3 V.po.c V.po.l;have ads := uv 4 V.po.c V.po.l;have kA := aJ.po.len;rw [hie, uZ];obtain ⟨m2, MX, hw⟩ := lg (hw.b [aZ vq _]);refine z3 ?_;refine bu [0, 1, 2, 3, 4, 5, 6, 7, 8, 9, 10, 11, 12, 13, 14, 15, 16, 17, 18, 19, 20, 21, 22, 23, 24, 25, 26, 27, 29, 30, 31, 32, 28, 33, 34, 35, 36, 37, 38, 39, 40, 41, 42, 43, 44, 45, 46, 47, 48, 49, 50, 51, 52, 53, 54, 55] bK kR ?_;replace hw := hw.drawn (w.drawn + 1);refine z3 ?_;refine aE (d := 110) rfl (fun Q9 => (by exfalso; exact Q9 rfl)) (fun Q9 => ?_);refine z1 ?_;refine lD (v := iQ rp.trees) ai hw ?_;refine z1 ?_;refine dQ rfl kR aU rfl ?_;refine z3 ?_;refine aE (d := 117) rfl (fun Pb => (by exfalso; exact Pb Di)) (fun Pb => ?_);refine z1 ?_;refine lD (v := iQ rp.items) ai hw ?_;refine z4 ?_;refine aE (d := 123) rfl (fun WW => (by exfalso; exact WW JJ)) (fun WW => ?_);refine z1 ?_;refine lD (v := iQ rp.bytes) ai hw ?_;refine z4 ?_;refine aE (d := 129) rfl (fun Tu => (by exfalso; exact Tu hr3)) (fun Tu => ?_);refine z1 ?_;refine lD (v := iQ rp.pages) ai hw ?_;refine z1 ?_;refine C3 rfl rfl ?_;refine z1 ?_;refine lD (v := .pointer (some ⟨m2.q, 0, none⟩)) bp hw ?_;refine z1 ?_;refine C3 rfl rfl ?_;refine z1 ?_;refine lD (v := .pointer (some ⟨m2.q, 0, none⟩)) bp hw ?_;refine dL rfl pY rfl (AO (k := 3) (hw.b [gZ m2.q _]) (.inl rfl)) (fun w aad hv q' hq => ?_) fun w aad hv => ?_
 ·
  obtain ⟨rfl, hw⟩ := hv;have hq := a9 (l := [32, 23]) kR hq;simp only [bB, cW, or_false] at hq;rcases hq with rfl | rfl
  ·exact aV rfl rfl rfl (aj.bx (v := .pointer (some ⟨m2.q, 0, none⟩)) bp hw pK rfl)
  exact aV rfl rfl rfl (aj.bx (v := iQ rp.pages) ai hw pK rfl)
 obtain ⟨rfl, hw⟩ := hv;refine dL rfl pY rfl (AO (k := 4) (hw.b [gZ m2.q _]) (.inr rfl)) (fun w abl hv q' hq => ?_) fun w abl hv => ?_
 ·
  obtain ⟨rfl, hw⟩ := hv;have hq := a9 (l := [23]) kR hq;simp only [bB, cW, or_false] at hq;subst hq;exact aV rfl rfl rfl (aj.bx (v := iQ rp.pages) ai hw pK rfl)
 obtain ⟨rfl, hw⟩ := hv;refine yJ rfl rfl rfl oM ?_;refine z3 ?_;refine aE (d := 145) rfl (fun ZI => (by exfalso; exact ZI hr4)) (fun ZI => ?_);refine z1 ?_;refine lD (v := iQ rp.leaves) ai hw ?_;refine z1 ?_;refine lD (v := iQ rp.index) ai hw ?_;refine yJ rfl rfl rfl oM ?_;refine z1 ?_;refine lD (v := iQ rp.tz) ai hw ?_;refine yJ rfl rfl rfl oM ?_;refine z1 ?_;refine lD (v := iQ rp.pages) ai hw ?_;refine z3 ?_;refine aE (d := 158) rfl (fun ZH => (by exfalso; exact ZH hr5)) (fun ZH => ?_);refine z1 ?_;refine lD (v := nQ) dU hw ?_;refine dQ rfl kR bP rfl ?_;refine z3 ?_;refine aS rfl (fun h17 => ?_) fun h17 => ?_
 ·
  exact absurd h17 dM
 have hw := ie MX (hw.b [ag vq _ _, cX m2.om _, pI m2.S, row 170 2 m2.av _ _, aT (m2.fu.map kM), gZ m2.q _]);have hw := (hw.b [ag mT _ _, pw _ ts, aZ vq V]).tail;refine z7 ?_;refine cO (fun m e w => ∃ (i : Nat), i <= ts.length /\ m = ts.length - i /\ e = [(7, pQ vq), (9, .slice ta ts.length tc), (18, iQ i)] /\ ar G (pw (.slice ta ts.length tc) ts :: aZ vq V :: L) w)
  (m := ts.length) sB
  ⟨0, fo _, rfl, rfl, hw⟩ ?_
 rintro m e w ⟨i, hi, rfl, rfl, hw⟩;refine z5 ?_;refine dQ rfl kR aU rfl ?_;refine z2 ?_;refine aS rfl (fun h18 => ?_) fun h18 => ?_
 ·
  obtain ⟨t, ht⟩ : ∃ t, ts[i]? = some t := ⟨_, cV oM⟩;have MP := ed ht;have Q1 : (ts.map aC)[i]? = some (aC t) := by rw [dB, ht]; rfl
  obtain ⟨-, tb, -, CN, SX, abL, -, -⟩ := ij hw oM;subst CN;refine z8 ?_;refine dD rfl aU bV rfl rfl ⟨oM, oM⟩ ?_;refine cy rfl jg rfl ?_;refine bt rfl rfl (aj.one (v := iQ t.root) ai ((((Sx _).of sF).at hw).cell (j := 0) Q1 rfl)) ?_;refine z2 ?_;refine aS rfl (fun h19 => ?_) fun h19 => ?_
  ·
   refine z6 ?_;exact ⟨ts.length - (i + 1), oM, [(7, _), (9, _), (18, iQ (i + 1 : Nat))], sB, i + 1, oM, rfl, rfl, hw⟩
  refine eH ?_;refine mZ (fun e w => e = [(7, pQ vq), (8, iQ 18), (9, .slice (some ⟨tb, 0, none⟩) ts.length tc), (18, iQ i)] /\ ar G (pw (.slice (some ⟨tb, 0, none⟩) ts.length tc) ts :: aZ vq V :: L) w) ?_ ?_
  ·
   refine IZ [0, 1, 3, 4, 5, 6, 7] 2 [8, 9, 10, 11, 12, 13, 14] 8 [2, 9, 10, 11, 12, 13, 14] bK kR ?_;replace hw := hw.drawn (w.drawn + 1);refine z4 ?_;refine dD rfl aU bV rfl rfl ⟨oM, oM⟩ ?_;refine bt rfl rfl (aj.many (cs := aC t) aF rfl (by rw [fQ]; exact (((Sx _).of sF).at hw).at Q1)) ?_;refine aQ (v := gQ (dR (99, t))) rfl rfl (fun w => kR) ?_;refine aH ?_;refine ⟨?_, ?_⟩
   ·
    refine dL rfl mr rfl (nH (l := ts) hw ((Sx _).of sF) oM) (fun w M5 hv q' hq => ?_) fun w M5 hv => ?_
    ·
     have hw : ar G (row 69 4 M5 ts.length ((eh ts).map dR).flatten :: _) _ := hv;have hq := a9 (l := [6]) kR hq;simp only [bB, cW, or_false] at hq;subst hq;exact aV rfl rfl rfl (aj.many (cs := aC t) aF rfl (by rw [fQ]; exact (((Sx _).of sF).at hw).at Q1))
    have hw : ar G (row 69 4 M5 ts.length ((eh ts).map dR).flatten :: _) _ := hv;refine hY (cs := dR (99, t)) rfl fz jR ld dM rfl rfl rfl hw kR fun w Y6 hw => ?_;refine gP (m := ts.length) (k := 1) (news := dR (99, t)) rfl fz jR wZ ld rfl rfl hw pK (Rd.nP hw pK) rfl (by intro u hu; simp [dR] at hu; rcases hu with rfl | rfl | rfl | rfl <;> rfl) mL oM kR (fun w RE hw => ?_);have e9 : ((eh ts).map dR).flatten ++ dR (99, t) = ((eh ts ++ [(99, t)]).map dR).flatten := by rw [il, K8]; simp
    have e8 : ts.length + 1 = (eh ts ++ [(99, t)]).length := by rw [cj, qB]; rfl
    rw [e9, e8] at hw;have hk9 : ∀ R, aX (row 69 4 RE (eh ts ++ [(99, t)]).length ((eh ts ++ [(99, t)]).map dR).flatten :: R) (gC 4 RE ((eh ts ++ [(99, t)]).map dR)) := fun R => (gC.row (by rw [bA]) (fun r hr => by obtain ⟨x, -, rfl⟩ := dd.1 hr; rfl)).head R
    refine an rfl jL rfl (kH (V := V) (l := eh ts ++ [(99, t)]) (hw.b [aZ vq V]) aJ ((hk9 _).of sF) (by rw [cj, qB, jt]; omega) (Q0.of sF)) kR (fun w abk hv => ?_);obtain ⟨rp1, er1, rfl, ⟨XR, -⟩, hw⟩ := hv;obtain rfl : er1 = 18 := OR t MP h19 rp1 er1 (by have h := XR; rw [il, tP] at h; exact h);refine z5 ?_;exact ⟨[(7, _), (8, iQ 18), (9, _), (18, _)], sB, rfl, (hw.b [row 69 4 _ _ _, ag Y6 _ _, pw _ ts, aZ vq V]).tail.tail⟩
   refine hY (cs := dR (99, t)) rfl fz jR ld dM rfl rfl rfl hw kR fun w Y6 hw => ?_;refine dL rfl mr rfl (nH (l := ts) hw ((Sx _).of sF) oM) (fun w M5 hv q' hq => ?_) fun w M5 hv => ?_
   ·
    have hw : ar G (row 69 4 M5 ts.length ((eh ts).map dR).flatten :: _) _ := hv;have hq := a9 (l := [6]) kR hq;simp only [bB, cW, or_false] at hq;subst hq;exact aV rfl rfl rfl (aj.many (cs := aC t) aF rfl (by rw [fQ]; exact (((Sx _).of sF).at hw).at Q1))
   have hw : ar G (row 69 4 M5 ts.length ((eh ts).map dR).flatten :: _) _ := hv;refine gP (m := ts.length) (k := 1) (news := dR (99, t)) rfl fz jR wZ ld rfl rfl hw pK (Rd.nP hw pK) rfl (by intro u hu; simp [dR] at hu; rcases hu with rfl | rfl | rfl | rfl <;> rfl) mL oM kR (fun w RE hw => ?_);have e9 : ((eh ts).map dR).flatten ++ dR (99, t) = ((eh ts ++ [(99, t)]).map dR).flatten := by rw [il, K8]; simp
   have e8 : ts.length + 1 = (eh ts ++ [(99, t)]).length := by rw [cj, qB]; rfl
   rw [e9, e8] at hw;have hk9 : ∀ R, aX (row 69 4 RE (eh ts ++ [(99, t)]).length ((eh ts ++ [(99, t)]).map dR).flatten :: R) (gC 4 RE ((eh ts ++ [(99, t)]).map dR)) := fun R => (gC.row (by rw [bA]) (fun r hr => by obtain ⟨x, -, rfl⟩ := dd.1 hr; rfl)).head R
   refine an rfl jL rfl (kH (V := V) (l := eh ts ++ [(99, t)]) (hw.b [aZ vq V]) aJ ((hk9 _).of sF) (by rw [cj, qB, jt]; omega) (Q0.of sF)) kR (fun w abk hv => ?_);obtain ⟨rp1, er1, rfl, ⟨XR, -⟩, hw⟩ := hv;obtain rfl : er1 = 18 := OR t MP h19 rp1 er1 (by have h := XR; rw [il, tP] at h; exact h);refine z5 ?_;exact ⟨[(7, _), (8, iQ 18), (9, _), (18, _)], sB, rfl, (hw.b [row 69 4 _ _ _, ag Y6 _ _, pw _ ts, aZ vq V]).tail.tail⟩
  clear hw;rintro e w ⟨rfl, hw⟩;refine zL ?_;refine zQ (G := G) (α := fun _ => Value × Nat × Value × Value × Value × Rp) [0, 2, 3, 4, 6, 7, 8, 9] [[1], [5], [10], [11], [12, 13, 14, 15]] [⟨16, 19, (mY.cells ⟨GZ, nQ⟩), 40⟩] [17, 18] [] (fun k (x : Value × Nat × Value × Value × Value × Rp) => match k, x with | 0, (ig, pn, oP, ng, nT, z') => [(7, pQ vq), (8, iQ 18), (9, .slice (some ⟨tb, 0, none⟩) ts.length tc), (18, iQ i), (191, pQ vq), (195, .slice (some ⟨tb, 0, none⟩) (i : Int).toNat tc), (200, ig)] | 1, (ig, pn, oP, ng, nT, z') => (192, .slice (some ⟨pn, 0, none⟩) 0 0) :: [(7, pQ vq), (8, iQ 18), (9, .slice (some ⟨tb, 0, none⟩) ts.length tc), (18, iQ i), (191, pQ vq), (195, .slice (some ⟨tb, 0, none⟩) (i : Int).toNat tc), (200, ig)] | 2, (ig, pn, oP, ng, nT, z') => (196, oP) :: [(7, pQ vq), (8, iQ 18), (9, .slice (some ⟨tb, 0, none⟩) ts.length tc), (18, iQ i), (191, pQ vq), (195, .slice (some ⟨tb, 0, none⟩) (i : Int).toNat tc), (200, ig)] | 3, (ig, pn, oP, ng, nT, z') => (201, ng) :: [(7, pQ vq), (8, iQ 18), (9, .slice (some ⟨tb, 0, none⟩) ts.length tc), (18, iQ i), (191, pQ vq), (195, .slice (some ⟨tb, 0, none⟩) (i : Int).toNat tc), (200, ig)] | 4, (ig, pn, oP, ng, nT, z') => (202, nT) :: [(7, pQ vq), (8, iQ 18), (9, .slice (some ⟨tb, 0, none⟩) ts.length tc), (18, iQ i), (191, pQ vq), (195, .slice (some ⟨tb, 0, none⟩) (i : Int).toNat tc), (200, ig)] | _, (ig, pn, oP, ng, nT, z') => (204, gQ (mY.cells ⟨z', nQ⟩)) :: (205, iQ 18) :: [(7, pQ vq), (8, iQ 18), (9, .slice (some ⟨tb, 0, none⟩) ts.length tc), (18, iQ i), (191, pQ vq), (195, .slice (some ⟨tb, 0, none⟩) (i : Int).toNat tc), (200, ig)]) (fun k (x : Value × Nat × Value × Value × Value × Rp) => match k, x with | 0, (ig, pn, oP, ng, nT, z') => dH (HQ tb tc i ts.length ig) (aT []) :: pw (.slice (some ⟨tb, 0, none⟩) ts.length tc) ts :: aZ vq V :: L | 1, (ig, pn, oP, ng, nT, z') => dH (HQ tb tc i ts.length ig) (aT []) :: row 62 3 (.slice (some ⟨pn, 0, none⟩) 0 0) 0 [] :: pw (.slice (some ⟨tb, 0, none⟩) ts.length tc) ts :: aZ vq V :: L | 2, (ig, pn, oP, ng, nT, z') => dH (HQ tb tc i ts.length ig) (aT []) :: row 62 3 oP (0 + ((ts.take i).map aC).length) ([] ++ ((ts.take i).map aC).flatten) :: pw (.slice (some ⟨tb, 0, none⟩) ts.length tc) ts :: aZ vq V :: L | 3, (ig, pn, oP, ng, nT, z') => pw ng (bJ ts i) :: pw (.slice (some ⟨tb, 0, none⟩) ts.length tc) ts :: aZ vq V :: L | 4, (ig, pn, oP, ng, nT, z') => row 69 4 nT (bJ ts i).length ((eh (bJ ts i)).map dR).flatten :: pw (.slice (some ⟨tb, 0, none⟩) ts.length tc) ts :: aZ vq V :: L | _, (ig, pn, oP, ng, nT, z') => dH (z'.bad = []) (aT []) :: pw (.slice (some ⟨tb, 0, none⟩) ts.length tc) ts :: aZ vq V :: L) bK kR kR ?_ ?_ ?_ ?_ ?_ ?_
  ·intro f hf;simp only [bB, cW, or_false] at hf;subst hf;exact ⟨_, _, _, rfl, jW, rfl, fun q hq => a9 (l := []) kR hq⟩
  ·rintro (_ | _ | _ | _ | _ | _) ⟨ig, pn, oP, ng, nT, z'⟩ <;> rfl
  ·intro k hk x w F hw qq Qn;cases Qn
  ·replace hw := hw.drawn (w.drawn + 1);refine z3 ?_;refine rX rfl aU tH rfl sM rfl ⟨oM, oM⟩ ?_;refine z3 ?_;refine I2 rfl aU bV rfl rfl ⟨oM, oM⟩ SX fun ig aas => ?_;refine aH ?_;refine ⟨(ig, 0, nQ, nQ, nQ, GZ), (show kK ([(7, pQ vq), (8, iQ 18), (9, .slice (some ⟨tb, 0, none⟩) ts.length tc), (18, iQ i), (191, pQ vq), (195, .slice (some ⟨tb, 0, none⟩) (i : Int).toNat tc), (200, ig)]) _ from sB), ?_⟩;exact nC (p := HQ tb tc i ts.length ig) aas hw
  ·clear hw;intro k Xr hk x w F hw;rcases x with ⟨ig, pn, oP, ng, nT, z'⟩;rcases k with _ | _ | _ | _ | _ | k
   ·cases hk;replace hw : ar G (F :: dH (HQ tb tc i ts.length ig) (aT []) :: pw (.slice (some ⟨tb, 0, none⟩) ts.length tc) ts :: aZ vq V :: L) w := hw;refine ee (kK.refl ([(7, pQ vq), (8, iQ 18), (9, .slice (some ⟨tb, 0, none⟩) ts.length tc), (18, iQ i), (191, pQ vq), (195, .slice (some ⟨tb, 0, none⟩) (i : Int).toNat tc), (200, ig)])) ?_;refine Ef rfl aU bV hw kR fun w pn hw => ?_;replace hw := Jd (z := 3) hw;refine aH ?_;refine ⟨(ig, pn, oP, ng, nT, z'), (show kK ((192, .slice (some ⟨pn, 0, none⟩) 0 0) :: [(7, pQ vq), (8, iQ 18), (9, .slice (some ⟨tb, 0, none⟩) ts.length tc), (18, iQ i), (191, pQ vq), (195, .slice (some ⟨tb, 0, none⟩) (i : Int).toNat tc), (200, ig)]) _ from sB), ?_⟩;exact hw.b [F, dH _ _, row 62 3 (.slice (some ⟨pn, 0, none⟩) 0 0) _ _, pw _ ts, aZ vq V]
   ·cases hk;replace hw : ar G (F :: dH (HQ tb tc i ts.length ig) (aT []) :: row 62 3 (.slice (some ⟨pn, 0, none⟩) 0 0) 0 [] :: pw (.slice (some ⟨tb, 0, none⟩) ts.length tc) ts :: aZ vq V :: L) w := hw;refine ee (kK.refl ((192, .slice (some ⟨pn, 0, none⟩) 0 0) :: [(7, pQ vq), (8, iQ 18), (9, .slice (some ⟨tb, 0, none⟩) ts.length tc), (18, iQ i), (191, pQ vq), (195, .slice (some ⟨tb, 0, none⟩) (i : Int).toNat tc), (200, ig)])) ?_;obtain ⟨hu, hw⟩ := (hw.b [dH _ _]).dx;replace hw := hw.tail;have LM : ((ts.take i).map aC).length <= 20 := by rw [bA, fK]; omega
    refine vB (rs := (ts.take i).map aC) rfl aU bV gW eL rfl rfl hw pK (RJ oM SX (((Sx _).of sF).at hw)) (n8 _) mL oM kR fun w oP hw => ?_;refine aH ?_;refine ⟨(ig, pn, oP, ng, nT, z'), (show kK ((196, oP) :: [(7, pQ vq), (8, iQ 18), (9, .slice (some ⟨tb, 0, none⟩) ts.length tc), (18, iQ i), (191, pQ vq), (195, .slice (some ⟨tb, 0, none⟩) (i : Int).toNat tc), (200, ig)]) _ from sB), ?_⟩;have hz := nC (p := HQ tb tc i ts.length ig) hu hw;exact hz.b [F, dH _ _, row 62 3 oP _ _, pw _ ts, aZ vq V]
   ·cases hk;replace hw : ar G (F :: dH (HQ tb tc i ts.length ig) (aT []) :: row 62 3 oP (0 + ((ts.take i).map aC).length) ([] ++ ((ts.take i).map aC).flatten) :: pw (.slice (some ⟨tb, 0, none⟩) ts.length tc) ts :: aZ vq V :: L) w := hw;refine ee (kK.refl ((196, oP) :: [(7, pQ vq), (8, iQ 18), (9, .slice (some ⟨tb, 0, none⟩) ts.length tc), (18, iQ i), (191, pQ vq), (195, .slice (some ⟨tb, 0, none⟩) (i : Int).toNat tc), (200, ig)])) ?_;obtain ⟨hu, hw⟩ := (hw.b [dH _ _]).dx;replace hw := hw.tail;have LM : (0 : Nat) + ((ts.take i).map aC).length + ((ts.drop (i + 1)).map aC).length = (bJ ts i).length := by
     unfold bJ; rw [bA, bA, cj]; omega
    have XS : ([] : List Value) ++ ((ts.take i).map aC).flatten ++ ((ts.drop (i + 1)).map aC).flatten = ((bJ ts i).map aC).flatten := by
     unfold bJ; rw [il, K8]; rfl
    have hwn : (bJ ts i).length <= 20 := by unfold bJ; rw [cj, fK, iC]; omega
    refine vB (rs := (ts.drop (i + 1)).map aC) rfl aU bV gW eL rfl rfl hw pK (hu.slt oM (((Sx _).of sF).at hw)) (n8 _) mL oM kR fun w ng hw => ?_;rw [LM, XS] at hw;refine aH ?_;refine ⟨(ig, pn, oP, ng, nT, z'), (show kK ((201, ng) :: [(7, pQ vq), (8, iQ 18), (9, .slice (some ⟨tb, 0, none⟩) ts.length tc), (18, iQ i), (191, pQ vq), (195, .slice (some ⟨tb, 0, none⟩) (i : Int).toNat tc), (200, ig)]) _ from sB), ?_⟩;exact hw.b [F, pw ng (bJ ts i), pw _ ts, aZ vq V]
   ·cases hk;replace hw : ar G (F :: pw ng (bJ ts i) :: pw (.slice (some ⟨tb, 0, none⟩) ts.length tc) ts :: aZ vq V :: L) w := hw;refine ee (kK.refl ((201, ng) :: [(7, pQ vq), (8, iQ 18), (9, .slice (some ⟨tb, 0, none⟩) ts.length tc), (18, iQ i), (191, pQ vq), (195, .slice (some ⟨tb, 0, none⟩) (i : Int).toNat tc), (200, ig)])) ?_;have hwn : (bJ ts i).length <= 20 := by unfold bJ; rw [cj, fK, iC]; omega
    have ktw : ∀ R, aX (pw ng (bJ ts i) :: R) (gC 3 ng ((bJ ts i).map aC)) := fun R => (gC.row (T := 62) (by rw [bA]) (zS _)).head R
    refine an rfl mr rfl (nH (l := bJ ts i) hw ((ktw _).of sF) oM) kR fun w nT hv => ?_;have hw : ar G (row 69 4 nT (bJ ts i).length ((eh (bJ ts i)).map dR).flatten :: _) _ := hv;refine aH ?_;refine ⟨(ig, pn, oP, ng, nT, z'), (show kK ((202, nT) :: [(7, pQ vq), (8, iQ 18), (9, .slice (some ⟨tb, 0, none⟩) ts.length tc), (18, iQ i), (191, pQ vq), (195, .slice (some ⟨tb, 0, none⟩) (i : Int).toNat tc), (200, ig)]) _ from sB), ?_⟩;exact ((hw.b [pw ng (bJ ts i)]).tail).b [F, row 69 4 nT _ _, pw _ ts, aZ vq V]
   ·cases hk;replace hw : ar G (F :: row 69 4 nT (bJ ts i).length ((eh (bJ ts i)).map dR).flatten :: pw (.slice (some ⟨tb, 0, none⟩) ts.length tc) ts :: aZ vq V :: L) w := hw;refine ee (kK.refl ((202, nT) :: [(7, pQ vq), (8, iQ 18), (9, .slice (some ⟨tb, 0, none⟩) ts.length tc), (18, iQ i), (191, pQ vq), (195, .slice (some ⟨tb, 0, none⟩) (i : Int).toNat tc), (200, ig)])) ?_;have hwn : (bJ ts i).length <= 20 := by unfold bJ; rw [cj, fK, iC]; omega
    refine an rfl jL rfl (kH (V := V) (l := eh (bJ ts i)) (hw.b [aZ vq V]) aJ ((hkr _).of sF) (by rw [qB]; omega) (Q0.of sF)) kR (fun w acX hv => ?_);obtain ⟨z', er3, rfl, ⟨abC, aa2⟩, hw⟩ := hv;obtain rfl : er3 = 18 := hwo i t ht h19 z' er3 (by have h := abC; rw [tP] at h; exact h);refine z4 ?_;refine ⟨(ig, pn, oP, ng, nT, z'), (show kK ((204, gQ (mY.cells ⟨z', nQ⟩)) :: (205, iQ 18) :: [(7, pQ vq), (8, iQ 18), (9, .slice (some ⟨tb, 0, none⟩) ts.length tc), (18, iQ i), (191, pQ vq), (195, .slice (some ⟨tb, 0, none⟩) (i : Int).toNat tc), (200, ig)]) _ from sB), ?_⟩;have hz := nC (p := z'.bad = []) aa2 ((hw.b [row 69 4 nT _ _]).tail);exact hz.b [F, dH _ _, pw _ ts, aZ vq V]
   simp at hk
  clear hw;rintro ⟨ig, pn, oP, ng, nT, z'⟩ w bs hw;obtain ⟨b19, YM⟩ : ∃ b, b = bs 16 := ⟨_, rfl⟩;replace hw : ar G (ag b19 (mY.cells ⟨GZ, nQ⟩) 40 :: dH (z'.bad = []) (aT []) :: pw (.slice (some ⟨tb, 0, none⟩) ts.length tc) ts :: aZ vq V :: L) w := by
   subst YM; exact hw
  refine ee (e' := (19, pQ b19) :: (204, gQ (mY.cells ⟨z', nQ⟩)) :: (205, iQ 18) :: [(7, pQ vq), (8, iQ 18), (9, .slice (some ⟨tb, 0, none⟩) ts.length tc), (18, iQ i), (191, pQ vq), (195, .slice (some ⟨tb, 0, none⟩) (i : Int).toNat tc), (200, ig)]) (by
             subst YM; exact kK.refl _) ?_
  clear YM;obtain ⟨aa3, hw⟩ := (hw.b [dH _ _]).dx;replace hw := hw.tail;refine aL (cs := mY.cells ⟨z', nQ⟩) (l' := mY.cells ⟨z', nQ⟩) rfl tV rfl rfl ct rfl (by intro u hu; simp [mY.cells] at hu; rcases hu with rfl | rfl | rfl | rfl | rfl | rfl | rfl | rfl <;> rfl) hw pK (by simp [mY.cells]) rfl kR (fun w hw => ?_);refine z7 ?_;refine aE (d := 208) rfl (fun YS => ?_) fun YS => ?_
  ·
   exact absurd rfl YS
  refine z4 ?_;refine aS rfl (fun h21 => ?_) fun h21 => ?_
  ·
   exact absurd rfl h21
  refine z6 ?_;exact ⟨ts.length - (i + 1), oM, [(7, _), (9, _), (18, iQ (i + 1 : Nat))], sB, i + 1, oM, rfl, rfl, (hw.b [ag b19 _ _]).tail⟩
 refine z6 ?_;exact br rfl rfl rfl ⟨rfl, (by repeat (first | exact hw | replace hw := hw.tail))⟩
end
section
open Go.ChangeShapes Go.WideShapes Go.RowKit
theorem abd : prog.cellsOf 57 = 4 := by kernel_rfl
theorem acN : prog.bytesOf 57 = 64 := by kernel_rfl
section
variable {H : Type} {enc : TypeId × Value -> H} {W : World} {n : Nat} {cs : List Value} {x : DataW H × List MemPlace}
theorem UW (h : DataW.trod enc prog W 0 (fun _ => true) true n 57 cs = some x) (OR : ∀ q ∈ DataW.weights prog 57 x.1, q <= reachBytes) : ∃ o : Pt, cs = o.cells /\ o.Ok [Rh W] := by
 obtain ⟨xs, m, rfl, rfl, hl, SO, hf⟩ := DataW.trod_struct underlying57 h;have hu := underlying57;have hl4 : cs.length = 4 := hl.trans abd
 match cs, hl4 with
 | [a, b, c, d], _ =>
  match xs, (show xs.length = 4 from SO) with
  | [x0, x1, x2, x3], _ =>
   have h0 : DataW.trod enc prog W 0 (fun _ => true) true m 3 (([a, b, c, d].drop 0).take (prog.cellsOf 3)) = some x0 := hf 0 _ rfl;have h1 : DataW.trod enc prog W 0 (fun _ => true) true m 3 (([a, b, c, d].drop 1).take (prog.cellsOf 3)) = some x1 := hf 1 _ rfl;have h2 : DataW.trod enc prog W 0 (fun _ => true) true m 55 (([a, b, c, d].drop 2).take (prog.cellsOf 55)) = some x2 := hf 2 _ rfl;have h3 : DataW.trod enc prog W 0 (fun _ => true) true m 55 (([a, b, c, d].drop 3).take (prog.cellsOf 55)) = some x3 := hf 3 _ rfl;rw [coI] at h0 h1;rw [coB] at h2 h3
   simp only [List.drop_zero, R4, R5, K6] at h0 h1 h2 h3;obtain ⟨i, hi, -, -⟩ := DataW.trod_int kY h0;obtain ⟨j, hj, -, -⟩ := DataW.trod_int kY h1;simp only [DataW.weights, hu, cG, j3, DataW.weightsEach, my] at OR
   obtain ⟨v, l, hv, hs, hb⟩ := EM bL xz coU boU h2 fun q hq => OR q (by simp [hq])
   obtain ⟨v', l', OT, MQ, L5⟩ := EM bL xz coU boU h3 fun q hq => OR q (by simp [hq])
   simp only [List.cons.injEq, and_true] at hi hj hv OT;subst hi; subst hj; subst hv; subst OT;exact ⟨⟨⟨i, j, l, l'⟩, c, d⟩, rfl, hs.C', MQ.C'⟩
theorem XD {v : Value} {r : Reach} {b0 : Nat} (hv : Value.okWide prog W r b0 51 v) (h : DataW.trod enc prog W 0 (fun _ => true) true n 51 v.cells.toList = some x) (OR : ∀ q ∈ DataW.weights prog 51 x.1, q <= reachBytes) : ∃ l : List Pt, aX [Rh W] (gC 4 v (l.map Pt.cells)) /\ ∀ o ∈ l, o.Ok [Rh W] := by
 obtain ⟨a, len, cap, rfl⟩ := okWide_slice fh hv;obtain ⟨v, rows, iu, hb, hs, hr⟩ := EL fh abd dM acN h OR;obtain rfl : Value.slice a len cap = v := by simpa [Value.cells] using iu
 obtain ⟨l, rfl, hl⟩ := Xz (f := Pt.cells) (Q := fun o => o.Ok [Rh W]) rows fun r hm => by
  obtain ⟨m, y, h1, h2⟩ := hr r hm;exact UW h1 h2
 exact ⟨l, (Xp (fun r hr => by obtain ⟨t, -, rfl⟩ := dd.1 hr; rfl) hs).C', hl⟩
end
end
end Go.Proofs.YteifbglognfgdaaGreatDoor.X
