/- The ground and the walks of this claim, part 5: XCut7 XCut8 XCut9 XCut10 XCut11 XGro2 XGro3 XGro4 XGro5 XGro6 XGro7 XGro8 XGro9 XGro10 XGro11 XGro12 XGro13 XGro14. -/
import Derived.Test.YteifbglognfgdaaGreatDoorY4
namespace Go.Proofs.YteifbglognfgdaaGreatDoor.X
open _root_.Go.Proofs.Tryz _root_.Go.Proofs.YteifbglognfgdaaGreatDoor.Tryz
set_option linter.unusedVariables false
set_option linter.unusedSimpArgs false
set_option maxRecDepth 20000
set_option maxHeartbeats 8000000
structure Ct where
 V : Va
 e : Int
 up : Pg
 at_ : Nat
 ch : Pg
def DY (b : Bool) (e : Int) : Int := if b = true then e else DC e 15
def l9 (l : List It) (k : Nat) (key : bN) : List It := l.modify k fun x => { x with key := key }
def eY (s : Ct) : Bool × Ct :=
 if ¬ s.at_ + 1 < s.up.items.length then (false, s) else
 let r := px s.V s.e (bh s.up.items (s.at_ + 1))
 if r.1.items.length <= 4 then (false, { s with e := r.2 }) else
 let h := uJ s.V r.2 (bh s.up.items (s.at_ + 1))
 let q := px h.2.2 h.2.1 h.1
 let z := jm s.ch q.1 (jU s.up.items (s.at_ + 1)) false
 let y := z.getD (bI.pg, bI.pg, [])
 let u := vC h.2.2 (DY z.isSome q.2) h.1 y.2.1
 (true, ⟨u.2, u.1, { s.up with items := s.up.items.set (s.at_ + 1) ⟨y.2.2, [], h.1, 0⟩ }, s.at_, y.1⟩)
def fY (s : Ct) : Bool × Ct :=
 if s.at_ < 1 then (false, s) else
 let r := px s.V s.e (bh s.up.items (s.at_ - 1))
 if r.1.items.length <= 4 then (false, { s with e := r.2 }) else
 let h := uJ s.V r.2 (bh s.up.items (s.at_ - 1))
 let q := px h.2.2 h.2.1 h.1
 let z := jm q.1 s.ch (jU s.up.items s.at_) true
 let y := z.getD (bI.pg, bI.pg, [])
 let u := vC h.2.2 (DY z.isSome q.2) h.1 y.1
 (true, ⟨u.2, u.1, { s.up with items := l9 (aP s.up.items (s.at_ - 1) h.1) s.at_ y.2.2 }, s.at_, y.2.1⟩)
def D7 (vq wq sq : Nat) (s : Ct) : az := ex fun u : bm × bm => dH (u.1.pg = s.up /\ u.2.pg = s.ch /\ u.1.Sm /\ u.2.Sm) (aT [aZ vq s.V, ag wq (l8 vq s.e) 148, ag sq (iB u.1 s.at_ u.2) 196, aR u.1, aR u.2])
theorem nI {vq wq sq : Nat} {s : Ct} {G : Gh} {L : List az} {w : World} (h : ar G (D7 vq wq sq s :: L) w) : ∃ up ch : bm, up.pg = s.up /\ ch.pg = s.ch /\ up.Sm /\ ch.Sm /\ ar G (aZ vq s.V :: ag wq (l8 vq s.e) 148 :: ag sq (iB up s.at_ ch) 196 :: aR up :: aR ch :: L) w := by
 obtain ⟨u, h⟩ := h.iv;obtain ⟨⟨h1, h2, h3, h4⟩, h⟩ := h.dx;exact ⟨u.1, u.2, h1, h2, h3, h4, h.cD⟩
theorem ix {vq wq sq : Nat} {s : Ct} {up ch : bm} {G : Gh} {L : List az} {w : World} (h1 : up.pg = s.up) (h2 : ch.pg = s.ch) (h3 : up.Sm) (h4 : ch.Sm) (h : ar G (aZ vq s.V :: ag wq (l8 vq s.e) 148 :: ag sq (iB up s.at_ ch) 196 :: aR up :: aR ch :: L) w) : ar G (D7 vq wq sq s :: L) w :=
 ar.jq (up, ch) (ar.iR ⟨h1, h2, h3, h4⟩ (ar.bH (M := [aZ vq s.V, ag wq (l8 vq s.e) 148, ag sq (iB up s.at_ ch) 196, aR up, aR ch]) h))
theorem EG {V : Va} (aJ : V.Ok) {n : Int} {p : Pg} (h : V.rd n = some p) : bD p = 0 := by
 unfold Va.rd at h;split at h
 ·cases h
 rename_i hc;cases h;exact EF aJ.toKm hc
theorem B5 {p : Pg} (h : bD p = 0) : p.items.length <= 8 := by
 unfold bD at h;simp only [bZ] at h
 have h1 := (gz dM).1 h.1.2;unfold lk at h1;obtain ⟨h2, h3, h4⟩ := h1
 by_cases e1 : p.kind = 1
 ·have := h2 e1; omega
 by_cases e2 : p.kind = 2
 ·have := h3 e2; omega
 have := h4 e1 e2; omega
theorem DV {V : Va} (aJ : V.Ok) (e n : Int) : (px V e n).1.items.length <= 8 := by
 unfold px;split
 ·exact fo _
 split
 ·exact fo _
 rename_i h; exact B5 (EG aJ h)
theorem Ux {V : Va} (aJ : V.Ok) (e n : Int) : (xE V e n).1.items.length <= 8 := by
 unfold xE;split
 ·exact fo _
 unfold Va.take;split
 ·exact fo _
 rename_i h;split
 ·exact fo _
 exact B5 (EG aJ h)
theorem Lt.uJ {V : Va} (aJ : V.Ok) (e n : Int) : Lt V 13 (uJ V e n).2.2 := by
 unfold X.uJ;split
 ·exact (Lt.refl aJ).mono oM
 exact Lt.aO aJ n
theorem Lt.xE {V : Va} (aJ : V.Ok) (e n : Int) : Lt V 11 (xE V e n).2.2 := by
 unfold X.xE;split
 ·exact (Lt.refl aJ).mono oM
 exact Lt.take aJ n
theorem Lt.vC {V : Va} (aJ : V.Ok) (e n : Int) (p : Pg) : Lt V 2 (vC V e n p).2 := by
 unfold X.vC;split
 ·exact (Lt.refl aJ).mono oM
 exact Lt.write aJ n p
theorem Lt.BS {s : Ct} (aJ : s.V.Ok) : Lt s.V 15 (eY s).2.V := by
 unfold eY;split
 ·exact (Lt.refl aJ).mono oM
 simp only;split
 ·exact (Lt.refl aJ).mono oM
 exact (Lt.uJ aJ _ _).trans (Lt.vC (Lt.uJ aJ _ _).ok _ _ _)
theorem Lt.Fx {s : Ct} (aJ : s.V.Ok) : Lt s.V 15 (fY s).2.V := by
 unfold fY;split
 ·exact (Lt.refl aJ).mono oM
 simp only;split
 ·exact (Lt.refl aJ).mono oM
 exact (Lt.uJ aJ _ _).trans (Lt.vC (Lt.uJ aJ _ _).ok _ _ _)
theorem Bp : ∀ {l : List It} {k : Nat} {x : It} (c : bN), l[k]? = some x -> l9 l k c = l.set k { x with key := c }
 | [], k, x, c, h => by simp at h
 | y :: l, 0, x, c, h => by simp at h; subst h; rfl
 | y :: l, k + 1, x, c, h => by
  have ih := Bp (l := l) (k := k) (x := x) c (by simpa using h);unfold l9 at ih ⊢;simp only [UJ, PR, ih]
theorem Lv {p q : bm} {sep : bN} {b : Bool} {v : Value} {w : World} {G : Gh} {L : List az} (hv : (jm p.pg q.pg sep b = none /\ v = .tuple #[gQ bI.cells, gQ bI.cells, nQ, .bool false] /\ ar G L w) ∨
    (∃ (pl pr : bm) (s : bN) (jY : Value), jm p.pg q.pg sep b = some (pl.pg, pr.pg, s) /\ v = .tuple #[gQ pl.cells, gQ pr.cells, jY, .bool true] /\ pl.Sm /\ pr.Sm /\ ar G (aR pl :: aR pr :: row 5 1 jY s.length (dV s) :: L) w)) :
  ∃ (pl pr : bm) (s : bN) (jY : Value), (jm p.pg q.pg sep b).getD (bI.pg, bI.pg, []) = (pl.pg, pr.pg, s) /\ v = .tuple #[gQ pl.cells, gQ pr.cells, jY, .bool (jm p.pg q.pg sep b).isSome] /\ pl.Sm /\ pr.Sm /\ jN pl.cells /\ jN pr.cells /\ ar G (aR pl :: aR pr :: row 5 1 jY s.length (dV s) :: L) w := by
 rcases hv with ⟨h1, h2, h3⟩ | ⟨pl, pr, s, jY, h1, h2, h3, h4, h5⟩
 ·rw [h1];exact ⟨bI, bI, [], nQ, rfl, h2, tU, tU, bF, bF, ns (ns (cf h3 _ _))⟩
 rw [h1];exact ⟨pl, pr, s, jY, rfl, h2, h3, h4, cF (aB h3 .here) h5, cF (aB h4 (.there .here)) h5, h5⟩
theorem PF {p q : bm} {sep : bN} (hp : p.Sm) (hq : q.Sm) (hs : bz sep) : ∀ x ∈ jF p.pg q.pg sep, bz x.key := by
 intro x hx;unfold jF at hx;split at hx
 ·rcases eu.1 hx with hx | hx
  ·obtain ⟨y, hy, rfl⟩ := dd.1 hx; exact (hp.it y hy).1
  unfold An at hx;split at hx
  ·cases hx
  rename_i y r e;rcases bB.1 hx with rfl | hx
  ·exact hs
  have : x ∈ q.pg.items := by rw [e]; exact gF _ hx
  obtain ⟨y, hy, rfl⟩ := dd.1 this; exact (hq.it y hy).1
 rcases eu.1 hx with hx | hx
 ·obtain ⟨y, hy, rfl⟩ := dd.1 hx; exact (hp.it y hy).1
 obtain ⟨y, hy, rfl⟩ := dd.1 hx; exact (hq.it y hy).1
theorem Ao {l : List It} (h : ∀ x ∈ l, bz x.key) (k : Nat) : bz (jU l k) := by
 unfold jU;cases hx : l[k]? with
 | none => exact fo _
 | some x => exact h x (ed hx)
theorem EX {p q : bm} {sep : bN} {b : Bool} {pl pr : Pg} {s : bN} (h : (jm p.pg q.pg sep b).getD (bI.pg, bI.pg, []) = (pl, pr, s)) (hp : p.Sm) (hq : q.Sm) (hs : bz sep) : bz s := by
 have h0 : bz ([] : bN) := by unfold bz; decide
 have hr := PF hp hq hs;unfold jm jz at h;split at h
 ·split at h
  ·cases h; exact Ao hr _
  split at h
  ·cases h; exact h0
  rename_i s' hb; cases h; exact yD hb (Ao hr _)
 cases h; exact h0
section
variable {G : Gh} {L R : List az} {w : World}
theorem wL {vq wq sq : Nat} {s : Ct} (hw : ar G (D7 vq wq sq s :: L) w) (aJ : s.V.Ok) (dm : s.V.sz <= 999999999900) (oY : s.at_ < s.up.items.length) (LP : s.up.items.length <= 8) (O8 : s.ch.items.length <= 8) :
  Calls prog 158 #[pQ wq, pQ sq] w (dv fun r w' => r = .bool (eY s).1 /\ ar G (D7 vq wq sq (eY s).2 :: L) w') := by
 rcases s with ⟨V, e, U, a, C⟩;obtain ⟨up, ch, xr, sg, tB, iu, hw⟩ := nI hw;simp only at xr sg aJ dm oY LP O8;subst xr sg;replace hw : ar G (aZ vq V :: ag wq (l8 vq e) 148 :: ag sq (iB up a ch) 196 :: aR up :: aR ch :: L) w := hw;have kA : up.pg.items.length = up.l.length := by simp [bm.pg]
 have gJ : ch.pg.items.length = ch.l.length := by simp [bm.pg]
 obtain ⟨E1, JT⟩ : ∃ E1, E1 = if a + 1 < up.pg.items.length then (px V e (bh up.pg.items (a + 1))).2 else e := ⟨_, rfl⟩
 obtain ⟨ib, ic, hs⟩ := qF hw (p := up) pK oM;refine al (args := [_, _]) func158 rfl ntmps158 rfl rfl ?_;refine z8 ?_;refine an rfl lL rfl (ml (up := up) (ch := ch) (at_ := a) (k := 1) (hw.b [ag sq _ _]) (aB tB pK) oM oM) rfl fun w v11 hv => ?_;obtain ⟨rfl, hw⟩ := hv;refine jX rfl rfl ?_;refine z1 ?_;refine tG (l1 := [4, 5, 6, 7, 8, 9, 10, 11]) (l2 := []) rfl (d := 21) (¬ a + 1 < up.pg.items.length \/ (px V e (bh up.pg.items (a + 1))).1.items.length <= 4) (fun w => ar G (aZ vq V :: ag wq (l8 vq E1) 148 :: ag sq (iB up a ch) 196 :: aR up :: aR ch :: L) w) rfl ?_ ?_
 ·
  refine aE (d := 13) rfl (fun h1 => ?_) fun h1 => ?_
  ·
   have Tt : E1 = e := by rw [JT, ae oM]
   refine z9 ?_;refine ⟨(by
 rw [Tt]
 first | exact (hw.b [aR Sk, aZ vq V, ag wq _ _, ag sq _ _, aR up, aR ch]).tail | exact hw.b [aZ vq V, ag wq _ _, ag sq _ _, aR up, aR ch]), congrArg some (congrArg Value.bool ?_)⟩
   first | exact (decide_eq_true (.inl oM)).symm | exact cZ.2 ⟨fun h => .inr oM, fun h => by omega⟩
  have Tt : E1 = (px V e (bh up.pg.items (a + 1))).2 := by rw [JT, ah oM]
  refine z2 ?_;refine an rfl dZ rfl (eC (up := up) (ch := ch) (at_ := a) (k := 1) (j := a + 1) (hw.b [ag sq _ _]) (aB tB pK) oM oM oM oM) rfl fun w v16 hv => ?_;obtain ⟨rfl, hw⟩ := hv;refine an rfl gg rfl (gG (n := bh up.pg.items (a + 1)) (hw.b [aZ vq V, ag wq _ _]) aJ) rfl fun w Xl hv => ?_;obtain ⟨Sk, rfl, Yk, S1, hw⟩ := hv;obtain ⟨i17, c17, Yc⟩ := S1.form hw pK;have Yr : Sk.pg.items.length = Sk.l.length := by simp [bm.pg]
  rw [Yk] at Yr;refine Ed (cs := Sk.cells) rfl underlying75 rfl kR kR rfl rfl rfl ?_;rw [Yc];refine dQ rfl kR aG rfl ?_;refine z3 ?_;refine ⟨(by
 rw [Tt]
 first | exact (hw.b [aR Sk, aZ vq V, ag wq _ _, ag sq _ _, aR up, aR ch]).tail | exact hw.b [aZ vq V, ag wq _ _, ag sq _ _, aR up, aR ch]), congrArg some (congrArg Value.bool ?_)⟩
  first | exact (decide_eq_true (.inl oM)).symm | exact cZ.2 ⟨fun h => .inr oM, fun h => by omega⟩
 clear hw; intro w hw;refine aH ?_;refine aS rfl (fun h2 => ?_) fun h2 => ?_
 ·
  refine z5 ?_;exact br rfl rfl rfl (by
 have e0 : eY ⟨V, e, up.pg, a, ch.pg⟩ = (false, ⟨V, E1, up.pg, a, ch.pg⟩) := by
  unfold eY;simp only
  by_cases h3 : a + 1 < up.pg.items.length
  ·rw [ae oM, ah (h2.resolve_left oM), JT, ah h3]
  ·rw [ah h3, JT, ae h3]
 rw [e0];exact ⟨rfl, ix rfl rfl tB iu hw⟩)
 have h3 : a + 1 < up.pg.items.length := oM;have h4 : ¬ (px V e (bh up.pg.items (a + 1))).1.items.length <= 4 := oM;have Tt : E1 = (px V e (bh up.pg.items (a + 1))).2 := by rw [JT, ah h3]
 obtain ⟨y, hy⟩ : ∃ y, up.l[a + 1]? = some y := ⟨_, cV oM⟩;have Ta : jU up.pg.items (a + 1) = y.it.key := ny hy;have G6 := tB.it y (ed hy);refine z5 ?_;refine an rfl dZ rfl (eC (up := up) (ch := ch) (at_ := a) (k := 1) (j := a + 1) (hw.b [ag sq _ _]) (aB tB pK) oM oM oM oM) rfl fun w MN hv => ?_;obtain ⟨rfl, hw⟩ := hv;refine an rfl iz rfl (iS (n := bh up.pg.items (a + 1)) (hw.b [aZ vq V, ag wq _ _]) aJ oM) rfl fun w v25 hv => ?_;obtain ⟨rfl, hw⟩ := hv;have Fh := Lt.uJ aJ E1 (bh up.pg.items (a + 1));obtain ⟨h, hh⟩ : ∃ h, h = uJ V E1 (bh up.pg.items (a + 1)) := ⟨_, rfl⟩;rw [<-hh] at hw Fh;rw [<-hh];have q8 := Fh.ok;have T0 := Fh.sz;refine z3 ?_;obtain ⟨q, hq⟩ : ∃ q, q = px h.2.2 h.2.1 h.1 := ⟨_, rfl⟩;have MR := DV q8 h.2.1 h.1
 (try unfold sQ at MR); rw [<-hq] at MR
 obtain ⟨z, hz⟩ : ∃ z, z = jm ch.pg q.1 y.it.key false := ⟨_, rfl⟩;refine zQ (G := G) (α := fun _ => bm × bm × bm × bN × Value) [0, 1, 2, 3, 4, 5, 7, 8, 9, 10, 11, 12, 13, 14, 15, 16, 17, 18, 19] [[6], [20, 21, 22, 23, 24, 25]] [⟨26, 6, bI.cells, 75⟩, ⟨27, 7, bI.cells, 75⟩] [28, 29, 30, 31] [3, 11, 15, 19] (fun k (x : bm × bm × bm × bN × Value) => match k, x with | 0, (kz, pl, pr, sp, jY) => [(0, pQ wq), (1, pQ sq), (5, iQ h.1), (29, .pointer (some ⟨sq, 6, none⟩)), (30, gQ ch.cells), (31, pQ wq), (32, iQ h.1), (37, .pointer (some ⟨sq, 2, none⟩)), (38, .slice (some ⟨ib, 0, none⟩) up.l.length ic), (41, .pointer (some ⟨sq, 5, none⟩)), (42, iQ a), (45, .pointer (some ⟨ib, 0 + ((a : Int) + 1).toNat * 4, none⟩)), (46, y.kv)] | 1, (kz, pl, pr, sp, jY) => (33, gQ kz.cells) :: [(0, pQ wq), (1, pQ sq), (5, iQ h.1), (29, .pointer (some ⟨sq, 6, none⟩)), (30, gQ ch.cells), (31, pQ wq), (32, iQ h.1), (37, .pointer (some ⟨sq, 2, none⟩)), (38, .slice (some ⟨ib, 0, none⟩) up.l.length ic), (41, .pointer (some ⟨sq, 5, none⟩)), (42, iQ a), (45, .pointer (some ⟨ib, 0 + ((a : Int) + 1).toNat * 4, none⟩)), (46, y.kv)] | _, (kz, pl, pr, sp, jY) => (48, gQ pl.cells) :: (49, gQ pr.cells) :: (50, jY) :: (51, .bool z.isSome) :: [(0, pQ wq), (1, pQ sq), (5, iQ h.1), (29, .pointer (some ⟨sq, 6, none⟩)), (30, gQ ch.cells), (31, pQ wq), (32, iQ h.1), (37, .pointer (some ⟨sq, 2, none⟩)), (38, .slice (some ⟨ib, 0, none⟩) up.l.length ic), (41, .pointer (some ⟨sq, 5, none⟩)), (42, iQ a), (45, .pointer (some ⟨ib, 0 + ((a : Int) + 1).toNat * 4, none⟩)), (46, y.kv)]) (fun k (x : bm × bm × bm × bN × Value) => match k, x with | 0, (kz, pl, pr, sp, jY) => aZ vq h.2.2 :: ag wq (l8 vq h.2.1) 148 :: ag sq (iB up a ch) 196 :: aR up :: aR ch :: L | 1, (kz, pl, pr, sp, jY) => dH (kz.pg = q.1 /\ kz.Sm) (aT []) :: aR kz :: aZ vq h.2.2 :: ag wq (l8 vq q.2) 148 :: ag sq (iB up a ch) 196 :: aR up :: aR ch :: L | _, (kz, pl, pr, sp, jY) => dH (z.getD (bI.pg, bI.pg, []) = (pl.pg, pr.pg, sp) /\ pl.Sm /\ pr.Sm /\ bz sp) (aT []) :: aR pl :: aR pr :: row 5 1 jY sp.length (dV sp) :: aR kz :: aZ vq h.2.2 :: ag wq (l8 vq q.2) 148 :: ag sq (iB up a ch) 196 :: aR up :: aR ch :: L) bK kR kR ?_ ?_ ?_ ?_ ?_ ?_
 ·intro f hf;simp only [bB, cW, or_false] at hf;rcases hf with rfl | rfl
  ·exact ⟨_, _, _, rfl, bf, rfl, fun q hq => a9 (l := [3, 11, 15, 19]) kR hq⟩
  exact ⟨_, _, _, rfl, bf, rfl, fun q hq => a9 (l := [3, 11, 15, 19]) kR hq⟩
 ·rintro (_ | _ | _) ⟨kz, pl, pr, sp, jY⟩ <;> rfl
 ·intro k hk x w F hw qq Qn;refine D8 (e1 := [(0, pQ wq), (1, pQ sq), (5, iQ h.1), (29, .pointer (some ⟨sq, 6, none⟩)), (30, gQ ch.cells), (31, pQ wq), (32, iQ h.1), (37, .pointer (some ⟨sq, 2, none⟩)), (38, .slice (some ⟨ib, 0, none⟩) up.l.length ic), (41, .pointer (some ⟨sq, 5, none⟩)), (42, iQ a), (45, .pointer (some ⟨ib, 0 + ((a : Int) + 1).toNat * 4, none⟩)), (46, y.kv)]) (by
    rcases x with ⟨kz, pl, pr, sp, jY⟩;rcases k with _ | _ | _
    ·exact (show kK _ ([(0, pQ wq), (1, pQ sq), (5, iQ h.1), (29, .pointer (some ⟨sq, 6, none⟩)), (30, gQ ch.cells), (31, pQ wq), (32, iQ h.1), (37, .pointer (some ⟨sq, 2, none⟩)), (38, .slice (some ⟨ib, 0, none⟩) up.l.length ic), (41, .pointer (some ⟨sq, 5, none⟩)), (42, iQ a), (45, .pointer (some ⟨ib, 0 + ((a : Int) + 1).toNat * 4, none⟩)), (46, y.kv)]) from sB)
    ·exact (show kK _ ((33, gQ kz.cells) :: [(0, pQ wq), (1, pQ sq), (5, iQ h.1), (29, .pointer (some ⟨sq, 6, none⟩)), (30, gQ ch.cells), (31, pQ wq), (32, iQ h.1), (37, .pointer (some ⟨sq, 2, none⟩)), (38, .slice (some ⟨ib, 0, none⟩) up.l.length ic), (41, .pointer (some ⟨sq, 5, none⟩)), (42, iQ a), (45, .pointer (some ⟨ib, 0 + ((a : Int) + 1).toNat * 4, none⟩)), (46, y.kv)]) from sB)
    ·exact (show kK _ ((48, gQ pl.cells) :: (49, gQ pr.cells) :: (50, jY) :: (51, .bool z.isSome) :: [(0, pQ wq), (1, pQ sq), (5, iQ h.1), (29, .pointer (some ⟨sq, 6, none⟩)), (30, gQ ch.cells), (31, pQ wq), (32, iQ h.1), (37, .pointer (some ⟨sq, 2, none⟩)), (38, .slice (some ⟨ib, 0, none⟩) up.l.length ic), (41, .pointer (some ⟨sq, 5, none⟩)), (42, iQ a), (45, .pointer (some ⟨ib, 0 + ((a : Int) + 1).toNat * 4, none⟩)), (46, y.kv)]) from sB)) ?_
  have hz : ∃ R, ar G (ag sq (iB up a ch) 196 :: aR up :: R) w := by
   rcases x with ⟨kz, pl, pr, sp, jY⟩;rcases k with _ | _ | _
   ·replace hw : ar G (F :: aZ vq h.2.2 :: ag wq (l8 vq h.2.1) 148 :: ag sq (iB up a ch) 196 :: aR up :: aR ch :: L) w := hw;exact ⟨_, hw.b [ag sq (iB up a ch) 196, aR up]⟩
   ·replace hw : ar G (F :: dH (kz.pg = q.1 /\ kz.Sm) (aT []) :: aR kz :: aZ vq h.2.2 :: ag wq (l8 vq q.2) 148 :: ag sq (iB up a ch) 196 :: aR up :: aR ch :: L) w := hw;exact ⟨_, hw.b [ag sq (iB up a ch) 196, aR up]⟩
   replace hw : ar G (F :: dH (z.getD (bI.pg, bI.pg, []) = (pl.pg, pr.pg, sp) /\ pl.Sm /\ pr.Sm /\ bz sp) (aT []) :: aR pl :: aR pr :: row 5 1 jY sp.length (dV sp) :: aR kz :: aZ vq h.2.2 :: ag wq (l8 vq q.2) 148 :: ag sq (iB up a ch) 196 :: aR up :: aR ch :: L) w := hw;exact ⟨_, hw.b [ag sq (iB up a ch) 196, aR up]⟩
  clear hw;obtain ⟨R, hw⟩ := hz;simp only [bB, cW, or_false] at Qn;rcases Qn with rfl | rfl | rfl | rfl
  ·exact aV rfl rfl rfl (aj.many (cs := ch.cells) ad rfl (Rd.gN (l := iB up a ch) (o := 6) hw pK))
  ·exact aV rfl rfl rfl (aj.bx (v := .slice (some ⟨ib, 0, none⟩) up.l.length ic) ao hw pK (by first | exact congrArg some hs | (rw [<-hs]; rfl)))
  ·exact aV rfl rfl rfl (aj.bx (v := iQ a) ai hw pK rfl)
  exact aV rfl rfl rfl (aj.one (v := y.kv) ay (nr (j := 0) hw (p := up) pK tB hs hy rfl oM))
 ·replace hw := hw.drawn (w.drawn + 1);refine z3 ?_;refine bt rfl rfl (aj.many (cs := ch.cells) ad rfl (Rd.gN (l := iB up a ch) (o := 6) hw pK)) ?_;refine z5 ?_;refine cy rfl dE rfl ?_;refine bt rfl rfl (aj.bx (v := .slice (some ⟨ib, 0, none⟩) up.l.length ic) ao hw pK (by first | exact congrArg some hs | (rw [<-hs]; rfl))) ?_;refine z3 ?_;refine lD (v := iQ a) ai hw ?_;refine z1 ?_;refine dD rfl aG aY rfl rfl ⟨oM, oM⟩ ?_;refine cy rfl cE rfl ?_;refine bt rfl rfl (aj.one (v := y.kv) ay (nr (j := 0) hw (p := up) pK tB hs hy rfl oM)) ?_;refine aH ?_;refine ⟨(bI, bI, bI, [], nQ), (show kK ([(0, pQ wq), (1, pQ sq), (5, iQ h.1), (29, .pointer (some ⟨sq, 6, none⟩)), (30, gQ ch.cells), (31, pQ wq), (32, iQ h.1), (37, .pointer (some ⟨sq, 2, none⟩)), (38, .slice (some ⟨ib, 0, none⟩) up.l.length ic), (41, .pointer (some ⟨sq, 5, none⟩)), (42, iQ a), (45, .pointer (some ⟨ib, 0 + ((a : Int) + 1).toNat * 4, none⟩)), (46, y.kv)]) _ from sB), ?_⟩;exact hw
 ·clear hw;intro k Xr hk x w F hw;rcases x with ⟨kz, pl, pr, sp, jY⟩;rcases k with _ | _ | k
  ·cases hk;replace hw : ar G (F :: aZ vq h.2.2 :: ag wq (l8 vq h.2.1) 148 :: ag sq (iB up a ch) 196 :: aR up :: aR ch :: L) w := hw;refine ee (kK.refl ([(0, pQ wq), (1, pQ sq), (5, iQ h.1), (29, .pointer (some ⟨sq, 6, none⟩)), (30, gQ ch.cells), (31, pQ wq), (32, iQ h.1), (37, .pointer (some ⟨sq, 2, none⟩)), (38, .slice (some ⟨ib, 0, none⟩) up.l.length ic), (41, .pointer (some ⟨sq, 5, none⟩)), (42, iQ a), (45, .pointer (some ⟨ib, 0 + ((a : Int) + 1).toNat * 4, none⟩)), (46, y.kv)])) ?_;refine dL rfl gg rfl (gG (n := h.1) (hw.b [aZ vq _, ag wq _ _]) q8) (fun w v33 hv q' hq => ?_) fun w v33 hv => ?_
   ·
    obtain ⟨kz, rfl, ze, vZ, hw⟩ := hv;have hq := a9 (l := [3, 11, 15, 19]) kR hq;simp only [bB, cW, or_false] at hq;rcases hq with rfl | rfl | rfl | rfl
    ·exact aV rfl rfl rfl (aj.many (cs := ch.cells) ad rfl (Rd.gN (l := iB up a ch) (o := 6) hw pK))
    ·exact aV rfl rfl rfl (aj.bx (v := .slice (some ⟨ib, 0, none⟩) up.l.length ic) ao hw pK (by first | exact congrArg some hs | (rw [<-hs]; rfl)))
    ·exact aV rfl rfl rfl (aj.bx (v := iQ a) ai hw pK rfl)
    exact aV rfl rfl rfl (aj.one (v := y.kv) ay (nr (j := 0) hw (p := up) pK tB hs hy rfl oM))
   obtain ⟨kz, rfl, ze, vZ, hw⟩ := hv;rw [<-hq] at hw ze;refine aH ?_;refine ⟨(kz, pl, pr, sp, jY), (show kK ((33, gQ kz.cells) :: [(0, pQ wq), (1, pQ sq), (5, iQ h.1), (29, .pointer (some ⟨sq, 6, none⟩)), (30, gQ ch.cells), (31, pQ wq), (32, iQ h.1), (37, .pointer (some ⟨sq, 2, none⟩)), (38, .slice (some ⟨ib, 0, none⟩) up.l.length ic), (41, .pointer (some ⟨sq, 5, none⟩)), (42, iQ a), (45, .pointer (some ⟨ib, 0 + ((a : Int) + 1).toNat * 4, none⟩)), (46, y.kv)]) _ from sB), ?_⟩;have hz := nC (p := kz.pg = q.1 /\ kz.Sm) ⟨ze, vZ⟩ hw;exact hz.b [F, dH _ _, aR kz, aZ vq _, ag wq _ _, ag sq _ _, aR up, aR ch]
  ·cases hk;replace hw : ar G (F :: dH (kz.pg = q.1 /\ kz.Sm) (aT []) :: aR kz :: aZ vq h.2.2 :: ag wq (l8 vq q.2) 148 :: ag sq (iB up a ch) 196 :: aR up :: aR ch :: L) w := hw;refine ee (kK.refl ((33, gQ kz.cells) :: [(0, pQ wq), (1, pQ sq), (5, iQ h.1), (29, .pointer (some ⟨sq, 6, none⟩)), (30, gQ ch.cells), (31, pQ wq), (32, iQ h.1), (37, .pointer (some ⟨sq, 2, none⟩)), (38, .slice (some ⟨ib, 0, none⟩) up.l.length ic), (41, .pointer (some ⟨sq, 5, none⟩)), (42, iQ a), (45, .pointer (some ⟨ib, 0 + ((a : Int) + 1).toNat * 4, none⟩)), (46, y.kv)])) ?_;obtain ⟨⟨ze, vZ⟩, hw⟩ := (hw.b [dH _ _]).dx;replace hw := hw.tail;have S3 : kz.pg.items.length = kz.l.length := by simp [bm.pg]
   rw [ze] at S3;refine an rfl yA rfl (AQ (p := ch) (q := kz) (sep := y.it.key) (b := false) hw (aB iu pK) (aB vZ pK) (((aB tB pK).its.it y (ed hy)).k) G6.1 oM oM) kR fun w v47 hv => ?_;obtain ⟨pl, pr, sp, jY, hle, rfl, JN, JM, MT, JP, hw⟩ := Lv hv;have NG := EX hle iu vZ G6.1;rw [ze, <-hz] at hle
   rw [ze, <-hz];refine z6 ?_;refine ⟨(kz, pl, pr, sp, jY), (show kK ((48, gQ pl.cells) :: (49, gQ pr.cells) :: (50, jY) :: (51, .bool z.isSome) :: [(0, pQ wq), (1, pQ sq), (5, iQ h.1), (29, .pointer (some ⟨sq, 6, none⟩)), (30, gQ ch.cells), (31, pQ wq), (32, iQ h.1), (37, .pointer (some ⟨sq, 2, none⟩)), (38, .slice (some ⟨ib, 0, none⟩) up.l.length ic), (41, .pointer (some ⟨sq, 5, none⟩)), (42, iQ a), (45, .pointer (some ⟨ib, 0 + ((a : Int) + 1).toNat * 4, none⟩)), (46, y.kv)]) _ from sB), ?_⟩;have hz := nC (p := z.getD (bI.pg, bI.pg, []) = (pl.pg, pr.pg, sp) /\ pl.Sm /\ pr.Sm /\ bz sp) ⟨hle, JN, JM, NG⟩ hw;exact hz.b [F, dH _ _, aR pl, aR pr, row 5 1 jY _ _, aR kz, aZ vq _, ag wq _ _, ag sq _ _, aR up, aR ch]
  simp at hk
 clear hw;rintro ⟨kz, pl, pr, sp, jY⟩ w bs hw;obtain ⟨b6, NQ⟩ : ∃ b, b = bs 26 := ⟨_, rfl⟩;obtain ⟨b7, YL⟩ : ∃ b, b = bs 27 := ⟨_, rfl⟩;replace hw : ar G (ag b6 bI.cells 75 :: ag b7 bI.cells 75 :: dH (z.getD (bI.pg, bI.pg, []) = (pl.pg, pr.pg, sp) /\ pl.Sm /\ pr.Sm /\ bz sp) (aT []) :: aR pl :: aR pr :: row 5 1 jY sp.length (dV sp) :: aR kz :: aZ vq h.2.2 :: ag wq (l8 vq q.2) 148 :: ag sq (iB up a ch) 196 :: aR up :: aR ch :: L) w := by
  subst NQ YL; exact hw
 refine ee (e' := (6, pQ b6) :: (7, pQ b7) :: (48, gQ pl.cells) :: (49, gQ pr.cells) :: (50, jY) :: (51, .bool z.isSome) :: [(0, pQ wq), (1, pQ sq), (5, iQ h.1), (29, .pointer (some ⟨sq, 6, none⟩)), (30, gQ ch.cells), (31, pQ wq), (32, iQ h.1), (37, .pointer (some ⟨sq, 2, none⟩)), (38, .slice (some ⟨ib, 0, none⟩) up.l.length ic), (41, .pointer (some ⟨sq, 5, none⟩)), (42, iQ a), (45, .pointer (some ⟨ib, 0 + ((a : Int) + 1).toNat * 4, none⟩)), (46, y.kv)]) (by
    subst NQ YL; exact kK.refl _) ?_
 clear NQ YL;obtain ⟨⟨hle, JN, JM, NG⟩, hw⟩ := (hw.b [dH _ _]).dx;replace hw := hw.tail;have MT := cF (aB JN pK) hw;have JP := cF (aB JM pK) hw;obtain ⟨sa, sc, rfl⟩ := aM (hw.pick (A := row 5 1 jY _ _) pK);refine aL (cs := pl.cells) (l' := pl.cells) rfl tV rfl rfl ad rfl MT hw pK (by simp [bm.cells]) rfl kR fun w hw => ?_;refine aL (cs := pr.cells) (l' := pr.cells) rfl tV rfl rfl ad rfl JP hw pK (by simp [bm.cells]) rfl kR fun w hw => ?_;refine z7 ?_;refine an rfl fF rfl (fZ (vq := vq) (e := q.2) (b := z.isSome) (hw.b [ag wq _ _])) rfl fun w v54 hv => ?_;obtain ⟨rfl, hw⟩ := hv;refine z2 ?_;refine bu [0, 1, 2, 3, 4, 5, 6, 7, 8, 9, 10, 11, 12, 13, 14] bK kR ?_;replace hw := hw.drawn (w.drawn + 1);refine z3 ?_;refine cy rfl dE rfl ?_;refine bt rfl rfl (aj.bx (v := .slice (some ⟨ib, 0, none⟩) up.l.length ic) ao hw pK (by first | exact congrArg some hs | (rw [<-hs]; rfl))) ?_;refine z3 ?_;refine lD (v := iQ a) ai hw ?_;refine z3 ?_;refine aQ (v := gQ (bT.cells ⟨⟨sp, [], h.1, 0⟩, .slice sa sp.length sc, nQ⟩)) rfl rfl (fun w => kR) ?_;refine dD rfl aG aY rfl rfl ⟨oM, oM⟩ ?_;refine Rs (p := up) (k := a + 1) (key := sp) (kv := .slice sa sp.length sc) (c := h.1) (z := y) rfl tV rfl rfl aI hw pK pK hs hy oM kR fun w hw => ?_;have LO : bm.Sm { up with l := up.l.set (a + 1) ⟨⟨sp, [], h.1, 0⟩, .slice sa sp.length sc, nQ⟩ } := tB.set NG (fo _);refine z5 ?_;refine lA (l := pr.cells) ad hw ?_;refine an rfl iU rfl (jJ (n := h.1) (e := if z.isSome = true then q.2 else DC q.2 15) (p := pr) (hw.b [aZ vq _, ag wq _ _]) q8 oM (aB JM pK)) rfl fun w v72 hv => ?_;obtain ⟨rfl, hw⟩ := hv;refine z4 ?_;refine lA (l := pl.cells) ad hw ?_;refine z2 ?_;refine aL (cs := pl.cells) (l' := iB up a pl) rfl tV rfl rfl ad rfl MT hw pK sM rfl rfl fun w hw => ?_;refine z6 ?_;exact br rfl rfl rfl (by
 have e0 : eY ⟨V, e, up.pg, a, ch.pg⟩ = (true, ⟨(vC h.2.2 (DY z.isSome q.2) h.1 pr.pg).2, (vC h.2.2 (DY z.isSome q.2) h.1 pr.pg).1, { up.pg with items := up.pg.items.set (a + 1) ⟨sp, [], h.1, 0⟩ }, a, pl.pg⟩) := by
  unfold eY;simp only;rw [ae (not_not_intro h3), ae h4, <-Tt, <-hh, <-hq, Ta, <-hz, hle]
 rw [e0];refine ⟨rfl, ix (up := { up with l := up.l.set (a + 1) ⟨⟨sp, [], h.1, 0⟩, .slice sa sp.length sc, nQ⟩ }) (by simp [bm.pg, tS]) rfl LO JN ?_⟩;have hz := (hw.b [ag b7 _ _, ag b6 _ _, aR pr, aR kz, aR ch]).tail.tail.tail.tail.tail;have hz := hz.b [aZ vq _, ag wq _ _, ag sq _ _, aR _, aR pl];exact hz)
theorem xY {vq wq sq : Nat} {s : Ct} (hw : ar G (D7 vq wq sq s :: L) w) (aJ : s.V.Ok) (dm : s.V.sz <= 999999999900) (oY : s.at_ < s.up.items.length) (LP : s.up.items.length <= 8) (O8 : s.ch.items.length <= 8) :
  Calls prog 159 #[pQ wq, pQ sq] w (dv fun r w' => r = .bool (fY s).1 /\ ar G (D7 vq wq sq (fY s).2 :: L) w') := by
 rcases s with ⟨V, e, U, a, C⟩;obtain ⟨up, ch, xr, sg, tB, iu, hw⟩ := nI hw;simp only at xr sg aJ dm oY LP O8;subst xr sg;replace hw : ar G (aZ vq V :: ag wq (l8 vq e) 148 :: ag sq (iB up a ch) 196 :: aR up :: aR ch :: L) w := hw;have kA : up.pg.items.length = up.l.length := by simp [bm.pg]
 have gJ : ch.pg.items.length = ch.l.length := by simp [bm.pg]
 obtain ⟨E1, JT⟩ : ∃ E1, E1 = if a < 1 then e else (px V e (bh up.pg.items (a - 1))).2 := ⟨_, rfl⟩
 obtain ⟨ib, ic, hs⟩ := qF hw (p := up) pK oM;refine al (args := [_, _]) func159 rfl ntmps159 rfl rfl ?_;refine z8 ?_;refine an rfl lL rfl (ml (up := up) (ch := ch) (at_ := a) (k := -1) (hw.b [ag sq _ _]) (aB tB pK) oM oM) rfl fun w v11 hv => ?_;obtain ⟨rfl, hw⟩ := hv;refine jX rfl rfl ?_;refine z1 ?_;refine tG (l1 := [4, 5, 6, 7, 8, 9, 10, 11]) (l2 := []) rfl (d := 21) (a < 1 \/ (px V e (bh up.pg.items (a - 1))).1.items.length <= 4) (fun w => ar G (aZ vq V :: ag wq (l8 vq E1) 148 :: ag sq (iB up a ch) 196 :: aR up :: aR ch :: L) w) rfl ?_ ?_
 ·
  refine aE (d := 13) rfl (fun h1 => ?_) fun h1 => ?_
  ·
   have Tt : E1 = e := by rw [JT, ah oM]
   refine z9 ?_;refine ⟨(by
 rw [Tt]
 first | exact (hw.b [aR Sk, aZ vq V, ag wq _ _, ag sq _ _, aR up, aR ch]).tail | exact hw.b [aZ vq V, ag wq _ _, ag sq _ _, aR up, aR ch]), congrArg some (congrArg Value.bool ?_)⟩
   first | exact (decide_eq_true (.inl oM)).symm | exact cZ.2 ⟨fun h => .inr oM, fun h => by omega⟩
  have Tt : E1 = (px V e (bh up.pg.items (a - 1))).2 := by rw [JT, ae oM]
  refine z2 ?_;refine an rfl dZ rfl (eC (up := up) (ch := ch) (at_ := a) (k := -1) (j := a - 1) (hw.b [ag sq _ _]) (aB tB pK) oM oM oM oM) rfl fun w v16 hv => ?_;obtain ⟨rfl, hw⟩ := hv;refine an rfl gg rfl (gG (n := bh up.pg.items (a - 1)) (hw.b [aZ vq V, ag wq _ _]) aJ) rfl fun w Xl hv => ?_;obtain ⟨Sk, rfl, Yk, S1, hw⟩ := hv;obtain ⟨i17, c17, Yc⟩ := S1.form hw pK;have Yr : Sk.pg.items.length = Sk.l.length := by simp [bm.pg]
  rw [Yk] at Yr;refine Ed (cs := Sk.cells) rfl underlying75 rfl kR kR rfl rfl rfl ?_;rw [Yc];refine dQ rfl kR aG rfl ?_;refine z3 ?_;refine ⟨(by
 rw [Tt]
 first | exact (hw.b [aR Sk, aZ vq V, ag wq _ _, ag sq _ _, aR up, aR ch]).tail | exact hw.b [aZ vq V, ag wq _ _, ag sq _ _, aR up, aR ch]), congrArg some (congrArg Value.bool ?_)⟩
  first | exact (decide_eq_true (.inl oM)).symm | exact cZ.2 ⟨fun h => .inr oM, fun h => by omega⟩
 clear hw; intro w hw;refine aH ?_;refine aS rfl (fun h2 => ?_) fun h2 => ?_
 ·
  refine z5 ?_;exact br rfl rfl rfl (by
 have e0 : fY ⟨V, e, up.pg, a, ch.pg⟩ = (false, ⟨V, E1, up.pg, a, ch.pg⟩) := by
  unfold fY;simp only
  by_cases h3 : a < 1
  ·rw [ah h3, JT, ah h3]
  ·rw [ae h3, ah (h2.resolve_left h3), JT, ae h3]
 rw [e0];exact ⟨rfl, ix rfl rfl tB iu hw⟩)
 have h3 : ¬ a < 1 := oM;have h4 : ¬ (px V e (bh up.pg.items (a - 1))).1.items.length <= 4 := oM;have Tt : E1 = (px V e (bh up.pg.items (a - 1))).2 := by rw [JT, ae h3]
 obtain ⟨x, hx⟩ : ∃ x, up.l[a - 1]? = some x := ⟨_, cV oM⟩;obtain ⟨y, hy⟩ : ∃ y, up.l[a]? = some y := ⟨_, cV oM⟩;have Ta : jU up.pg.items a = y.it.key := ny hy;have G6 := tB.it y (ed hy);have LL := tB.it x (ed hx);refine z5 ?_;refine an rfl dZ rfl (eC (up := up) (ch := ch) (at_ := a) (k := -1) (j := a - 1) (hw.b [ag sq _ _]) (aB tB pK) oM oM oM oM) rfl fun w MN hv => ?_;obtain ⟨rfl, hw⟩ := hv;refine an rfl iz rfl (iS (n := bh up.pg.items (a - 1)) (hw.b [aZ vq V, ag wq _ _]) aJ oM) rfl fun w v25 hv => ?_;obtain ⟨rfl, hw⟩ := hv;have Fh := Lt.uJ aJ E1 (bh up.pg.items (a - 1));obtain ⟨h, hh⟩ : ∃ h, h = uJ V E1 (bh up.pg.items (a - 1)) := ⟨_, rfl⟩;rw [<-hh] at hw Fh;rw [<-hh];have q8 := Fh.ok;have T0 := Fh.sz;refine z3 ?_;refine bu [0, 1, 2, 3, 4, 5, 6, 7, 8, 9, 10, 11, 12, 13] bK kR ?_;replace hw := hw.drawn (w.drawn + 1);refine z3 ?_;refine cy rfl dE rfl ?_;refine bt rfl rfl (aj.bx (v := .slice (some ⟨ib, 0, none⟩) up.l.length ic) ao hw pK (by first | exact congrArg some hs | (rw [<-hs]; rfl))) ?_;refine z3 ?_;refine lD (v := iQ a) ai hw ?_;refine z2 ?_;refine dD rfl aG aY rfl rfl ⟨oM, oM⟩ ?_;refine cy rfl gm rfl ?_;refine Bg (p := up) (k := a - 1) (c := h.1) (z := x) rfl tV rfl rfl ai hw pK hs hx oM kR fun w hw => ?_;have u5 : bm.Sm { up with l := up.l.set (a - 1) ⟨{ x.it with child := h.1 }, x.kv, x.vv⟩ } := tB.set LL.1 LL.2;have JH : bm.pg { up with l := up.l.set (a - 1) ⟨{ x.it with child := h.1 }, x.kv, x.vv⟩ } = { up.pg with items := aP up.pg.items (a - 1) h.1 } := by
  rw [gS h.1 (x := x.it) (by show (up.l.map bT.it)[_]? = _; rw [dB, hx]; rfl)];simp [bm.pg, tS]
 have NF : (bm.l { up with l := up.l.set (a - 1) ⟨{ x.it with child := h.1 }, x.kv, x.vv⟩ }).length = up.l.length := by simp
 have Aq : (bm.l { up with l := up.l.set (a - 1) ⟨{ x.it with child := h.1 }, x.kv, x.vv⟩ })[a]? = some y := by
  show (up.l.set (a - 1) _)[a]? = _
  rw [List.getElem?_set_ne oM]; exact hy
 have SU : iB up a ch = iB { up with l := up.l.set (a - 1) ⟨{ x.it with child := h.1 }, x.kv, x.vv⟩ } a ch := rfl;rw [SU] at hw;have q9 : bm.s { up with l := up.l.set (a - 1) ⟨{ x.it with child := h.1 }, x.kv, x.vv⟩ } = .slice (some ⟨ib, 0, none⟩) up.l.length ic := hs;obtain ⟨dF, SS⟩ : ∃ u : bm, u = { up with l := up.l.set (a - 1) ⟨{ x.it with child := h.1 }, x.kv, x.vv⟩ } := ⟨_, rfl⟩;rw [<-SS] at u5 JH NF Aq hw q9
 (try unfold sQ at q9); rw [<-NF] at q9
 refine z2 ?_;obtain ⟨q, hq⟩ : ∃ q, q = px h.2.2 h.2.1 h.1 := ⟨_, rfl⟩;have MR := DV q8 h.2.1 h.1
 (try unfold sQ at MR); rw [<-hq] at MR
 obtain ⟨z, hz⟩ : ∃ z, z = jm q.1 ch.pg y.it.key true := ⟨_, rfl⟩;refine zQ (G := G) (α := fun _ => bm × bm × bm × bN × Value) [0, 1, 3, 4, 5, 6, 7, 8, 9, 10, 11, 12, 13, 14, 15, 16, 17, 18] [[2], [19, 20, 21, 22, 23, 24]] [⟨25, 6, bI.cells, 75⟩, ⟨26, 7, bI.cells, 75⟩] [27, 28, 29, 30] [6, 11, 15, 18] (fun k (x : bm × bm × bm × bN × Value) => match k, x with | 0, (kz, pl, pr, sp, jY) => [(0, pQ wq), (1, pQ sq), (5, iQ h.1), (40, pQ wq), (41, iQ h.1), (45, .pointer (some ⟨sq, 6, none⟩)), (46, gQ ch.cells), (50, .pointer (some ⟨sq, 2, none⟩)), (51, .slice (some ⟨ib, 0, none⟩) dF.l.length ic), (54, .pointer (some ⟨sq, 5, none⟩)), (55, iQ a), (57, .pointer (some ⟨ib, 0 + (a : Int).toNat * 4, none⟩)), (58, y.kv)] | 1, (kz, pl, pr, sp, jY) => (42, gQ kz.cells) :: [(0, pQ wq), (1, pQ sq), (5, iQ h.1), (40, pQ wq), (41, iQ h.1), (45, .pointer (some ⟨sq, 6, none⟩)), (46, gQ ch.cells), (50, .pointer (some ⟨sq, 2, none⟩)), (51, .slice (some ⟨ib, 0, none⟩) dF.l.length ic), (54, .pointer (some ⟨sq, 5, none⟩)), (55, iQ a), (57, .pointer (some ⟨ib, 0 + (a : Int).toNat * 4, none⟩)), (58, y.kv)] | _, (kz, pl, pr, sp, jY) => (60, gQ pl.cells) :: (61, gQ pr.cells) :: (62, jY) :: (63, .bool z.isSome) :: [(0, pQ wq), (1, pQ sq), (5, iQ h.1), (40, pQ wq), (41, iQ h.1), (45, .pointer (some ⟨sq, 6, none⟩)), (46, gQ ch.cells), (50, .pointer (some ⟨sq, 2, none⟩)), (51, .slice (some ⟨ib, 0, none⟩) dF.l.length ic), (54, .pointer (some ⟨sq, 5, none⟩)), (55, iQ a), (57, .pointer (some ⟨ib, 0 + (a : Int).toNat * 4, none⟩)), (58, y.kv)]) (fun k (x : bm × bm × bm × bN × Value) => match k, x with | 0, (kz, pl, pr, sp, jY) => aZ vq h.2.2 :: ag wq (l8 vq h.2.1) 148 :: ag sq (iB dF a ch) 196 :: aR dF :: aR ch :: L | 1, (kz, pl, pr, sp, jY) => dH (kz.pg = q.1 /\ kz.Sm) (aT []) :: aR kz :: aZ vq h.2.2 :: ag wq (l8 vq q.2) 148 :: ag sq (iB dF a ch) 196 :: aR dF :: aR ch :: L | _, (kz, pl, pr, sp, jY) => dH (z.getD (bI.pg, bI.pg, []) = (pl.pg, pr.pg, sp) /\ pl.Sm /\ pr.Sm /\ bz sp) (aT []) :: aR pl :: aR pr :: row 5 1 jY sp.length (dV sp) :: aR kz :: aZ vq h.2.2 :: ag wq (l8 vq q.2) 148 :: ag sq (iB dF a ch) 196 :: aR dF :: aR ch :: L) bK kR kR ?_ ?_ ?_ ?_ ?_ ?_
 ·intro f hf;simp only [bB, cW, or_false] at hf;rcases hf with rfl | rfl
  ·exact ⟨_, _, _, rfl, bf, rfl, fun q hq => a9 (l := [6, 11, 15, 18]) kR hq⟩
  exact ⟨_, _, _, rfl, bf, rfl, fun q hq => a9 (l := [6, 11, 15, 18]) kR hq⟩
 ·rintro (_ | _ | _) ⟨kz, pl, pr, sp, jY⟩ <;> rfl
 ·intro k hk x w F hw qq Qn;refine D8 (e1 := [(0, pQ wq), (1, pQ sq), (5, iQ h.1), (40, pQ wq), (41, iQ h.1), (45, .pointer (some ⟨sq, 6, none⟩)), (46, gQ ch.cells), (50, .pointer (some ⟨sq, 2, none⟩)), (51, .slice (some ⟨ib, 0, none⟩) dF.l.length ic), (54, .pointer (some ⟨sq, 5, none⟩)), (55, iQ a), (57, .pointer (some ⟨ib, 0 + (a : Int).toNat * 4, none⟩)), (58, y.kv)]) (by
    rcases x with ⟨kz, pl, pr, sp, jY⟩;rcases k with _ | _ | _
    ·exact (show kK _ ([(0, pQ wq), (1, pQ sq), (5, iQ h.1), (40, pQ wq), (41, iQ h.1), (45, .pointer (some ⟨sq, 6, none⟩)), (46, gQ ch.cells), (50, .pointer (some ⟨sq, 2, none⟩)), (51, .slice (some ⟨ib, 0, none⟩) dF.l.length ic), (54, .pointer (some ⟨sq, 5, none⟩)), (55, iQ a), (57, .pointer (some ⟨ib, 0 + (a : Int).toNat * 4, none⟩)), (58, y.kv)]) from sB)
    ·exact (show kK _ ((42, gQ kz.cells) :: [(0, pQ wq), (1, pQ sq), (5, iQ h.1), (40, pQ wq), (41, iQ h.1), (45, .pointer (some ⟨sq, 6, none⟩)), (46, gQ ch.cells), (50, .pointer (some ⟨sq, 2, none⟩)), (51, .slice (some ⟨ib, 0, none⟩) dF.l.length ic), (54, .pointer (some ⟨sq, 5, none⟩)), (55, iQ a), (57, .pointer (some ⟨ib, 0 + (a : Int).toNat * 4, none⟩)), (58, y.kv)]) from sB)
    ·exact (show kK _ ((60, gQ pl.cells) :: (61, gQ pr.cells) :: (62, jY) :: (63, .bool z.isSome) :: [(0, pQ wq), (1, pQ sq), (5, iQ h.1), (40, pQ wq), (41, iQ h.1), (45, .pointer (some ⟨sq, 6, none⟩)), (46, gQ ch.cells), (50, .pointer (some ⟨sq, 2, none⟩)), (51, .slice (some ⟨ib, 0, none⟩) dF.l.length ic), (54, .pointer (some ⟨sq, 5, none⟩)), (55, iQ a), (57, .pointer (some ⟨ib, 0 + (a : Int).toNat * 4, none⟩)), (58, y.kv)]) from sB)) ?_
  have hz : ∃ R, ar G (ag sq (iB dF a ch) 196 :: aR dF :: R) w := by
   rcases x with ⟨kz, pl, pr, sp, jY⟩;rcases k with _ | _ | _
   ·replace hw : ar G (F :: aZ vq h.2.2 :: ag wq (l8 vq h.2.1) 148 :: ag sq (iB dF a ch) 196 :: aR dF :: aR ch :: L) w := hw;exact ⟨_, hw.b [ag sq (iB dF a ch) 196, aR dF]⟩
   ·replace hw : ar G (F :: dH (kz.pg = q.1 /\ kz.Sm) (aT []) :: aR kz :: aZ vq h.2.2 :: ag wq (l8 vq q.2) 148 :: ag sq (iB dF a ch) 196 :: aR dF :: aR ch :: L) w := hw;exact ⟨_, hw.b [ag sq (iB dF a ch) 196, aR dF]⟩
   replace hw : ar G (F :: dH (z.getD (bI.pg, bI.pg, []) = (pl.pg, pr.pg, sp) /\ pl.Sm /\ pr.Sm /\ bz sp) (aT []) :: aR pl :: aR pr :: row 5 1 jY sp.length (dV sp) :: aR kz :: aZ vq h.2.2 :: ag wq (l8 vq q.2) 148 :: ag sq (iB dF a ch) 196 :: aR dF :: aR ch :: L) w := hw;exact ⟨_, hw.b [ag sq (iB dF a ch) 196, aR dF]⟩
  clear hw;obtain ⟨R, hw⟩ := hz;simp only [bB, cW, or_false] at Qn;rcases Qn with rfl | rfl | rfl | rfl
  ·exact aV rfl rfl rfl (aj.many (cs := ch.cells) ad rfl (Rd.gN (l := iB dF a ch) (o := 6) hw pK))
  ·exact aV rfl rfl rfl (aj.bx (v := .slice (some ⟨ib, 0, none⟩) dF.l.length ic) ao hw pK (by first | exact congrArg some q9 | (rw [<-q9]; rfl)))
  ·exact aV rfl rfl rfl (aj.bx (v := iQ a) ai hw pK rfl)
  exact aV rfl rfl rfl (aj.one (v := y.kv) ay (nr (j := 0) hw (p := dF) pK u5 q9 Aq rfl oM))
 ·replace hw := hw.drawn (w.drawn + 1);refine z5 ?_;refine bt rfl rfl (aj.many (cs := ch.cells) ad rfl (Rd.gN (l := iB dF a ch) (o := 6) hw pK)) ?_;refine z3 ?_;refine cy rfl dE rfl ?_;refine bt rfl rfl (aj.bx (v := .slice (some ⟨ib, 0, none⟩) dF.l.length ic) ao hw pK (by first | exact congrArg some q9 | (rw [<-q9]; rfl))) ?_;refine z3 ?_;refine lD (v := iQ a) ai hw ?_;refine dD rfl aG aY rfl rfl ⟨oM, oM⟩ ?_;refine cy rfl cE rfl ?_;refine bt rfl rfl (aj.one (v := y.kv) ay (nr (j := 0) hw (p := dF) pK u5 q9 Aq rfl oM)) ?_;refine aH ?_;refine ⟨(bI, bI, bI, [], nQ), (show kK ([(0, pQ wq), (1, pQ sq), (5, iQ h.1), (40, pQ wq), (41, iQ h.1), (45, .pointer (some ⟨sq, 6, none⟩)), (46, gQ ch.cells), (50, .pointer (some ⟨sq, 2, none⟩)), (51, .slice (some ⟨ib, 0, none⟩) dF.l.length ic), (54, .pointer (some ⟨sq, 5, none⟩)), (55, iQ a), (57, .pointer (some ⟨ib, 0 + (a : Int).toNat * 4, none⟩)), (58, y.kv)]) _ from sB), ?_⟩;exact hw.b [aZ vq _, ag wq _ _, ag sq _ _, aR dF, aR ch]
 ·clear hw;intro k Xr hk x w F hw;rcases x with ⟨kz, pl, pr, sp, jY⟩;rcases k with _ | _ | k
  ·cases hk;replace hw : ar G (F :: aZ vq h.2.2 :: ag wq (l8 vq h.2.1) 148 :: ag sq (iB dF a ch) 196 :: aR dF :: aR ch :: L) w := hw;refine ee (kK.refl ([(0, pQ wq), (1, pQ sq), (5, iQ h.1), (40, pQ wq), (41, iQ h.1), (45, .pointer (some ⟨sq, 6, none⟩)), (46, gQ ch.cells), (50, .pointer (some ⟨sq, 2, none⟩)), (51, .slice (some ⟨ib, 0, none⟩) dF.l.length ic), (54, .pointer (some ⟨sq, 5, none⟩)), (55, iQ a), (57, .pointer (some ⟨ib, 0 + (a : Int).toNat * 4, none⟩)), (58, y.kv)])) ?_;refine dL rfl gg rfl (gG (n := h.1) (hw.b [aZ vq _, ag wq _ _]) q8) (fun w Zg hv q' hq => ?_) fun w Zg hv => ?_
   ·
    obtain ⟨kz, rfl, ze, vZ, hw⟩ := hv;have hq := a9 (l := [6, 11, 15, 18]) kR hq;simp only [bB, cW, or_false] at hq;rcases hq with rfl | rfl | rfl | rfl
    ·exact aV rfl rfl rfl (aj.many (cs := ch.cells) ad rfl (Rd.gN (l := iB dF a ch) (o := 6) hw pK))
    ·exact aV rfl rfl rfl (aj.bx (v := .slice (some ⟨ib, 0, none⟩) dF.l.length ic) ao hw pK (by first | exact congrArg some q9 | (rw [<-q9]; rfl)))
    ·exact aV rfl rfl rfl (aj.bx (v := iQ a) ai hw pK rfl)
    exact aV rfl rfl rfl (aj.one (v := y.kv) ay (nr (j := 0) hw (p := dF) pK u5 q9 Aq rfl oM))
   obtain ⟨kz, rfl, ze, vZ, hw⟩ := hv;rw [<-hq] at hw ze;refine aH ?_;refine ⟨(kz, pl, pr, sp, jY), (show kK ((42, gQ kz.cells) :: [(0, pQ wq), (1, pQ sq), (5, iQ h.1), (40, pQ wq), (41, iQ h.1), (45, .pointer (some ⟨sq, 6, none⟩)), (46, gQ ch.cells), (50, .pointer (some ⟨sq, 2, none⟩)), (51, .slice (some ⟨ib, 0, none⟩) dF.l.length ic), (54, .pointer (some ⟨sq, 5, none⟩)), (55, iQ a), (57, .pointer (some ⟨ib, 0 + (a : Int).toNat * 4, none⟩)), (58, y.kv)]) _ from sB), ?_⟩;have hz := nC (p := kz.pg = q.1 /\ kz.Sm) ⟨ze, vZ⟩ hw;exact hz.b [F, dH _ _, aR kz, aZ vq _, ag wq _ _, ag sq _ _, aR dF, aR ch]
  ·cases hk;replace hw : ar G (F :: dH (kz.pg = q.1 /\ kz.Sm) (aT []) :: aR kz :: aZ vq h.2.2 :: ag wq (l8 vq q.2) 148 :: ag sq (iB dF a ch) 196 :: aR dF :: aR ch :: L) w := hw;refine ee (kK.refl ((42, gQ kz.cells) :: [(0, pQ wq), (1, pQ sq), (5, iQ h.1), (40, pQ wq), (41, iQ h.1), (45, .pointer (some ⟨sq, 6, none⟩)), (46, gQ ch.cells), (50, .pointer (some ⟨sq, 2, none⟩)), (51, .slice (some ⟨ib, 0, none⟩) dF.l.length ic), (54, .pointer (some ⟨sq, 5, none⟩)), (55, iQ a), (57, .pointer (some ⟨ib, 0 + (a : Int).toNat * 4, none⟩)), (58, y.kv)])) ?_;obtain ⟨⟨ze, vZ⟩, hw⟩ := (hw.b [dH _ _]).dx;replace hw := hw.tail;have S3 : kz.pg.items.length = kz.l.length := by simp [bm.pg]
   rw [ze] at S3;refine an rfl yA rfl (AQ (p := kz) (q := ch) (sep := y.it.key) (b := true) hw (aB vZ pK) (aB iu pK) (((aB u5 pK).its.it y (ed Aq)).k) G6.1 oM oM) kR fun w v59 hv => ?_;obtain ⟨pl, pr, sp, jY, hle, rfl, JN, JM, MT, JP, hw⟩ := Lv hv;have NG := EX hle vZ iu G6.1;rw [ze, <-hz] at hle
   rw [ze, <-hz];refine z6 ?_;refine ⟨(kz, pl, pr, sp, jY), (show kK ((60, gQ pl.cells) :: (61, gQ pr.cells) :: (62, jY) :: (63, .bool z.isSome) :: [(0, pQ wq), (1, pQ sq), (5, iQ h.1), (40, pQ wq), (41, iQ h.1), (45, .pointer (some ⟨sq, 6, none⟩)), (46, gQ ch.cells), (50, .pointer (some ⟨sq, 2, none⟩)), (51, .slice (some ⟨ib, 0, none⟩) dF.l.length ic), (54, .pointer (some ⟨sq, 5, none⟩)), (55, iQ a), (57, .pointer (some ⟨ib, 0 + (a : Int).toNat * 4, none⟩)), (58, y.kv)]) _ from sB), ?_⟩;have hz := nC (p := z.getD (bI.pg, bI.pg, []) = (pl.pg, pr.pg, sp) /\ pl.Sm /\ pr.Sm /\ bz sp) ⟨hle, JN, JM, NG⟩ hw;exact hz.b [F, dH _ _, aR pl, aR pr, row 5 1 jY _ _, aR kz, aZ vq _, ag wq _ _, ag sq _ _, aR dF, aR ch]
  simp at hk
 clear hw;rintro ⟨kz, pl, pr, sp, jY⟩ w bs hw;obtain ⟨b6, NQ⟩ : ∃ b, b = bs 25 := ⟨_, rfl⟩;obtain ⟨b7, YL⟩ : ∃ b, b = bs 26 := ⟨_, rfl⟩;replace hw : ar G (ag b6 bI.cells 75 :: ag b7 bI.cells 75 :: dH (z.getD (bI.pg, bI.pg, []) = (pl.pg, pr.pg, sp) /\ pl.Sm /\ pr.Sm /\ bz sp) (aT []) :: aR pl :: aR pr :: row 5 1 jY sp.length (dV sp) :: aR kz :: aZ vq h.2.2 :: ag wq (l8 vq q.2) 148 :: ag sq (iB dF a ch) 196 :: aR dF :: aR ch :: L) w := by
  subst NQ YL; exact hw
 refine ee (e' := (6, pQ b6) :: (7, pQ b7) :: (60, gQ pl.cells) :: (61, gQ pr.cells) :: (62, jY) :: (63, .bool z.isSome) :: [(0, pQ wq), (1, pQ sq), (5, iQ h.1), (40, pQ wq), (41, iQ h.1), (45, .pointer (some ⟨sq, 6, none⟩)), (46, gQ ch.cells), (50, .pointer (some ⟨sq, 2, none⟩)), (51, .slice (some ⟨ib, 0, none⟩) dF.l.length ic), (54, .pointer (some ⟨sq, 5, none⟩)), (55, iQ a), (57, .pointer (some ⟨ib, 0 + (a : Int).toNat * 4, none⟩)), (58, y.kv)]) (by
    subst NQ YL; exact kK.refl _) ?_
 clear NQ YL;obtain ⟨⟨hle, JN, JM, NG⟩, hw⟩ := (hw.b [dH _ _]).dx;replace hw := hw.tail;have MT := cF (aB JN pK) hw;have JP := cF (aB JM pK) hw;obtain ⟨sa, sc, rfl⟩ := aM (hw.pick (A := row 5 1 jY _ _) pK);refine aL (cs := pl.cells) (l' := pl.cells) rfl tV rfl rfl ad rfl MT hw pK (by simp [bm.cells]) rfl kR fun w hw => ?_;refine aL (cs := pr.cells) (l' := pr.cells) rfl tV rfl rfl ad rfl JP hw pK (by simp [bm.cells]) rfl kR fun w hw => ?_;refine z7 ?_;refine an rfl fF rfl (fZ (vq := vq) (e := q.2) (b := z.isSome) (hw.b [ag wq _ _])) rfl fun w v66 hv => ?_;obtain ⟨rfl, hw⟩ := hv;refine z2 ?_;refine bu [0, 1, 2, 3, 4, 5, 6, 7, 8, 9, 10, 11, 12] bK kR ?_;replace hw := hw.drawn (w.drawn + 1);refine z3 ?_;refine cy rfl dE rfl ?_;refine bt rfl rfl (aj.bx (v := .slice (some ⟨ib, 0, none⟩) dF.l.length ic) ao hw pK (by first | exact congrArg some q9 | (rw [<-q9]; rfl))) ?_;refine z3 ?_;refine lD (v := iQ a) ai hw ?_;refine z1 ?_;refine dD rfl aG aY rfl rfl ⟨oM, oM⟩ ?_;refine cy rfl cE rfl ?_;refine Um (p := dF) (k := a) (key := sp) (kv := .slice sa sp.length sc) (z := y) rfl tV rfl rfl ay hw pK pK q9 Aq oM kR fun w hw => ?_;have LO : bm.Sm { dF with l := dF.l.set a ⟨{ y.it with key := sp }, .slice sa sp.length sc, y.vv⟩ } := u5.set NG G6.2;refine z5 ?_;refine lA (l := pl.cells) ad hw ?_;refine an rfl iU rfl (jJ (n := h.1) (e := if z.isSome = true then q.2 else DC q.2 15) (p := pl) (hw.b [aZ vq _, ag wq _ _]) q8 oM (aB JN pK)) rfl fun w v82 hv => ?_;obtain ⟨rfl, hw⟩ := hv;refine z4 ?_;refine lA (l := pr.cells) ad hw ?_;refine z2 ?_;refine aL (cs := pr.cells) (l' := iB dF a pr) rfl tV rfl rfl ad rfl JP hw pK sM rfl rfl fun w hw => ?_;refine z6 ?_;exact br rfl rfl rfl (by
 have e0 : fY ⟨V, e, up.pg, a, ch.pg⟩ = (true, ⟨(vC h.2.2 (DY z.isSome q.2) h.1 pl.pg).2, (vC h.2.2 (DY z.isSome q.2) h.1 pl.pg).1, { up.pg with items := l9 (aP up.pg.items (a - 1) h.1) a sp }, a, pr.pg⟩) := by
  unfold fY;simp only;rw [ae h3, ae h4, <-Tt, <-hh, <-hq, Ta, <-hz, hle]
 rw [e0];refine ⟨rfl, ix (up := { dF with l := dF.l.set a ⟨{ y.it with key := sp }, .slice sa sp.length sc, y.vv⟩ }) ?_ rfl LO JM ?_⟩
 ·have e2 : dF.pg.items = aP up.pg.items (a - 1) h.1 := by rw [JH]
  have e3 : bm.pg { dF with l := dF.l.set a ⟨{ y.it with key := sp }, .slice sa sp.length sc, y.vv⟩ } = { dF.pg with items := (dF.pg.items).set a { y.it with key := sp } } := by simp [bm.pg, tS]
  rw [e3, <-Bp sp (show dF.pg.items[a]? = some y.it by show (dF.l.map bT.it)[a]? = _; rw [dB, Aq]; rfl), e2];rw [JH]
 ·have hz := (hw.b [ag b7 _ _, ag b6 _ _, aR pl, aR kz, aR ch]).tail.tail.tail.tail.tail;have hz := hz.b [aZ vq _, ag wq _ _, ag sq _ _, aR _, aR pr];exact hz)
end
def F1 (s : Ct) (k : Nat) : Ct := { s with up := { s.up with items := s.up.items.take k ++ s.up.items.drop (k + 1) } }
def sX (p q : Pg) (sep : bN) : Pg := if eB p q then { p with items := jF p q sep } else bI.pg
def eJ (s : Ct) : Bool × Ct :=
 if ¬ s.at_ + 1 < s.up.items.length then (false, s) else
 let t := xE s.V s.e (bh s.up.items (s.at_ + 1))
 (true, F1 ⟨t.2.2, DY (decide (eB s.ch t.1)) t.2.1, s.up, s.at_, sX s.ch t.1 (jU s.up.items (s.at_ + 1))⟩ (s.at_ + 1))
def fG (s : Ct) : Bool × Ct :=
 if s.at_ < 1 then (false, s) else
 let h := uJ s.V s.e (bh s.up.items (s.at_ - 1))
 let t := xE h.2.2 h.2.1 (bh s.up.items s.at_)
 let q := px t.2.2 t.2.1 h.1
 let d := F1 ⟨t.2.2, DY (decide (eB q.1 s.ch)) q.2, { s.up with items := aP s.up.items (s.at_ - 1) h.1 }, s.at_, sX q.1 s.ch (jU s.up.items s.at_)⟩ s.at_
 (true, { d with at_ := s.at_ - 1 })
theorem LI {p q : bm} {sep : bN} {v : Value} {w : World} {G : Gh} {L : List az} (hv : (¬ eB p.pg q.pg /\ v = .tuple #[gQ bI.cells, .bool false] /\ ar G L w) ∨
    (eB p.pg q.pg /\ ∃ p' : bm, v = .tuple #[gQ p'.cells, .bool true] /\ p'.pg = { p.pg with items := jF p.pg q.pg sep } /\ p'.Sm /\ ar G (aR p' :: L) w)) :
  ∃ p' : bm, v = .tuple #[gQ p'.cells, .bool (decide (eB p.pg q.pg))] /\ p'.pg = sX p.pg q.pg sep /\ p'.Sm /\ jN p'.cells /\ ar G (aR p' :: L) w := by
 unfold sX;rcases hv with ⟨h1, h2, h3⟩ | ⟨h1, p', h2, h3, h4, h5⟩
 ·rw [decide_eq_false h1, ae h1];exact ⟨bI, h2, rfl, tU, bF, ns h3⟩
 rw [decide_eq_true h1, ah h1];exact ⟨p', h2, h3, h4, cF (aB h4 .here) h5, h5⟩
theorem Lt.BH {s : Ct} (aJ : s.V.Ok) : Lt s.V 11 (eJ s).2.V := by
 unfold eJ;split
 ·exact (Lt.refl aJ).mono oM
 exact Lt.xE aJ _ _
theorem Lt.E7 {s : Ct} (aJ : s.V.Ok) : Lt s.V 24 (fG s).2.V := by
 unfold fG;split
 ·exact (Lt.refl aJ).mono oM
 exact (Lt.uJ aJ _ _).trans (Lt.xE (Lt.uJ aJ _ _).ok _ _)
section
variable {G : Gh} {L R : List az} {w : World}
theorem uR {vq wq sq k : Nat} {s : Ct} (hw : ar G (D7 vq wq sq s :: L) w) (hk : k < s.up.items.length) (LP : s.up.items.length <= 8) :
  Calls prog 182 #[pQ wq, pQ sq, iQ k] w (dv fun r w' => r = .tuple #[] /\ ar G (D7 vq wq sq (F1 s k) :: L) w') := by
 rcases s with ⟨V, e, U, a, C⟩;obtain ⟨up, ch, xr, sg, tB, iu, hw⟩ := nI hw;simp only at xr sg hk LP;subst xr sg;replace hw : ar G (aZ vq V :: ag wq (l8 vq e) 148 :: ag sq (iB up a ch) 196 :: aR up :: aR ch :: L) w := hw;have kA : up.pg.items.length = up.l.length := by simp [bm.pg]
 refine al (args := [_, _, _]) func182 rfl ntmps182 rfl rfl ?_;refine z5 ?_;refine bt rfl rfl (aj.many (cs := up.cells) ad rfl ((Rd.gN (l := iB up a ch) (o := 0) hw pK).take 5)) ?_;refine z1 ?_;refine an rfl uV rfl (wI (p := up) (at_ := k) hw (aB tB pK) (sR (hw.pick (A := aR up) pK)) oM) rfl fun w QY hv => ?_;obtain ⟨-, p', rfl, Zy, S2, hw⟩ := hv.resolve_left (fun h => h.1 oM);have ho := cF (aB S2 pK) hw;refine z3 ?_;refine aN rfl bf hw rfl fun w b6 hw => ?_;refine aL (cs := p'.cells) (l' := p'.cells) rfl tV rfl rfl ad rfl ho hw pK (by simp [bm.cells]) rfl rfl fun w hw => ?_;refine z6 ?_;refine an rfl fF rfl (fZ (vq := vq) (e := e) (b := true) (hw.b [ag wq _ _])) rfl fun w RD hv => ?_;obtain ⟨rfl, hw⟩ := hv;refine z3 ?_;refine lA (l := p'.cells) ad hw ?_;refine z2 ?_;refine aL (cs := p'.cells) (l' := iB p' a ch) rfl tV rfl rfl ad rfl ho hw pK sM rfl rfl fun w hw => ?_;refine aH ?_;exact j7 rfl rfl (by
 refine ⟨rfl, ix (up := p') Zy rfl S2 iu ?_⟩;have hz := (hw.b [aR up, ag b6 _ _]).tail.tail;have hz := hz.b [aZ vq _, ag wq _ _, ag sq _ _, aR p', aR ch];exact hz)
theorem wK {vq wq sq : Nat} {s : Ct} (hw : ar G (D7 vq wq sq s :: L) w) (aJ : s.V.Ok) (dm : s.V.sz <= 999999999900) (oY : s.at_ < s.up.items.length) (LP : s.up.items.length <= 8) (O8 : s.ch.items.length <= 8) :
  Calls prog 160 #[pQ wq, pQ sq] w (dv fun r w' => r = .bool (eJ s).1 /\ ar G (D7 vq wq sq (eJ s).2 :: L) w') := by
 rcases s with ⟨V, e, U, a, C⟩;obtain ⟨up, ch, xr, sg, tB, iu, hw⟩ := nI hw;simp only at xr sg aJ dm oY LP O8;subst xr sg;replace hw : ar G (aZ vq V :: ag wq (l8 vq e) 148 :: ag sq (iB up a ch) 196 :: aR up :: aR ch :: L) w := hw;have kA : up.pg.items.length = up.l.length := by simp [bm.pg]
 have gJ : ch.pg.items.length = ch.l.length := by simp [bm.pg]
 obtain ⟨ib, ic, hs⟩ := qF hw (p := up) pK oM;refine al (args := [_, _]) func160 rfl ntmps160 rfl rfl ?_;refine z8 ?_;refine an rfl lL rfl (ml (up := up) (ch := ch) (at_ := a) (k := 1) (hw.b [ag sq _ _]) (aB tB pK) oM oM) rfl fun w v9 hv => ?_;obtain ⟨rfl, hw⟩ := hv;refine jX rfl rfl ?_;refine aH ?_;refine aS rfl (fun h1 => ?_) fun h1 => ?_
 ·
  refine z5 ?_;exact br rfl rfl rfl (by
 have e0 : eJ ⟨V, e, up.pg, a, ch.pg⟩ = (false, ⟨V, e, up.pg, a, ch.pg⟩) := ah (by simp only; omega);rw [e0];exact ⟨rfl, ix rfl rfl tB iu (hw.b [aZ vq V, ag wq _ _, ag sq _ _, aR up, aR ch])⟩)
 have h3 : a + 1 < up.pg.items.length := oM;obtain ⟨y, hy⟩ : ∃ y, up.l[a + 1]? = some y := ⟨_, cV oM⟩;have Ta : jU up.pg.items (a + 1) = y.it.key := ny hy;have G6 := tB.it y (ed hy);refine z5 ?_;refine an rfl dZ rfl (eC (up := up) (ch := ch) (at_ := a) (k := 1) (j := a + 1) (hw.b [ag sq _ _]) (aB tB pK) oM oM oM oM) rfl fun w Xm hv => ?_;obtain ⟨rfl, hw⟩ := hv;refine an rfl lK rfl (mj (n := bh up.pg.items (a + 1)) (hw.b [aZ vq V, ag wq _ _]) aJ oM) rfl fun w QY hv => ?_;obtain ⟨p5, rfl, hp5, aay, hw⟩ := hv;have GN := Ux aJ e (bh up.pg.items (a + 1));obtain ⟨t, ht⟩ : ∃ t, t = xE V e (bh up.pg.items (a + 1)) := ⟨_, rfl⟩;rw [<-ht] at hw hp5 GN;have abW : p5.pg.items.length = p5.l.length := by simp [bm.pg]
 rw [hp5] at abW;have ho5 := cF (aB aay pK) hw;refine aN rfl bf hw rfl fun w b5 hw => ?_;refine aL (cs := p5.cells) (l' := p5.cells) rfl tV rfl rfl ad rfl ho5 hw pK (by simp [bm.cells]) rfl rfl fun w hw => ?_;refine z2 ?_;refine zQ (G := G) (α := fun _ => bm × Unit) [0, 1, 2, 3, 4, 5, 6, 7, 8, 9, 10, 11, 12, 13, 14, 15, 16, 17] [[18, 19, 20, 21]] [⟨22, 6, bI.cells, 75⟩] [23, 24] [3, 4, 9, 13, 17] (fun k (x : bm × Unit) => match k, x with | 0, (p6, u) => [(0, pQ wq), (1, pQ sq), (5, pQ b5), (18, .pointer (some ⟨sq, 6, none⟩)), (19, gQ ch.cells), (20, gQ p5.cells), (24, .pointer (some ⟨sq, 2, none⟩)), (25, .slice (some ⟨ib, 0, none⟩) up.l.length ic), (28, .pointer (some ⟨sq, 5, none⟩)), (29, iQ a), (32, .pointer (some ⟨ib, 0 + ((a : Int) + 1).toNat * 4, none⟩)), (33, y.kv)] | _, (p6, u) => (35, gQ p6.cells) :: (36, .bool (decide (eB ch.pg t.1))) :: [(0, pQ wq), (1, pQ sq), (5, pQ b5), (18, .pointer (some ⟨sq, 6, none⟩)), (19, gQ ch.cells), (20, gQ p5.cells), (24, .pointer (some ⟨sq, 2, none⟩)), (25, .slice (some ⟨ib, 0, none⟩) up.l.length ic), (28, .pointer (some ⟨sq, 5, none⟩)), (29, iQ a), (32, .pointer (some ⟨ib, 0 + ((a : Int) + 1).toNat * 4, none⟩)), (33, y.kv)]) (fun k (x : bm × Unit) => match k, x with | 0, (p6, u) => ag b5 p5.cells 75 :: aR p5 :: aZ vq t.2.2 :: ag wq (l8 vq t.2.1) 148 :: ag sq (iB up a ch) 196 :: aR up :: aR ch :: L | _, (p6, u) => dH (p6.pg = sX ch.pg t.1 y.it.key /\ p6.Sm) (aT []) :: aR p6 :: ag b5 p5.cells 75 :: aR p5 :: aZ vq t.2.2 :: ag wq (l8 vq t.2.1) 148 :: ag sq (iB up a ch) 196 :: aR up :: aR ch :: L) bK kR kR ?_ ?_ ?_ ?_ ?_ ?_
 ·intro f hf;simp only [bB, cW, or_false] at hf;subst hf;exact ⟨_, _, _, rfl, bf, rfl, fun q hq => a9 (l := [3, 4, 9, 13, 17]) kR hq⟩
 ·rintro (_ | _) ⟨p6, u⟩ <;> rfl
 ·intro k hk x w F hw qq Qn;refine D8 (e1 := [(0, pQ wq), (1, pQ sq), (5, pQ b5), (18, .pointer (some ⟨sq, 6, none⟩)), (19, gQ ch.cells), (20, gQ p5.cells), (24, .pointer (some ⟨sq, 2, none⟩)), (25, .slice (some ⟨ib, 0, none⟩) up.l.length ic), (28, .pointer (some ⟨sq, 5, none⟩)), (29, iQ a), (32, .pointer (some ⟨ib, 0 + ((a : Int) + 1).toNat * 4, none⟩)), (33, y.kv)]) (by
    rcases x with ⟨p6, u⟩;rcases k with _ | _
    ·exact (show kK _ ([(0, pQ wq), (1, pQ sq), (5, pQ b5), (18, .pointer (some ⟨sq, 6, none⟩)), (19, gQ ch.cells), (20, gQ p5.cells), (24, .pointer (some ⟨sq, 2, none⟩)), (25, .slice (some ⟨ib, 0, none⟩) up.l.length ic), (28, .pointer (some ⟨sq, 5, none⟩)), (29, iQ a), (32, .pointer (some ⟨ib, 0 + ((a : Int) + 1).toNat * 4, none⟩)), (33, y.kv)]) from sB)
    ·exact (show kK _ ((35, gQ p6.cells) :: (36, .bool (decide (eB ch.pg t.1))) :: [(0, pQ wq), (1, pQ sq), (5, pQ b5), (18, .pointer (some ⟨sq, 6, none⟩)), (19, gQ ch.cells), (20, gQ p5.cells), (24, .pointer (some ⟨sq, 2, none⟩)), (25, .slice (some ⟨ib, 0, none⟩) up.l.length ic), (28, .pointer (some ⟨sq, 5, none⟩)), (29, iQ a), (32, .pointer (some ⟨ib, 0 + ((a : Int) + 1).toNat * 4, none⟩)), (33, y.kv)]) from sB)) ?_
  have hz : ∃ R, ar G (ag b5 p5.cells 75 :: ag sq (iB up a ch) 196 :: aR up :: R) w := by
   rcases x with ⟨p6, u⟩;rcases k with _ | _
   ·replace hw : ar G (F :: ag b5 p5.cells 75 :: aR p5 :: aZ vq t.2.2 :: ag wq (l8 vq t.2.1) 148 :: ag sq (iB up a ch) 196 :: aR up :: aR ch :: L) w := hw;exact ⟨_, hw.b [ag b5 p5.cells 75, ag sq (iB up a ch) 196, aR up]⟩
   replace hw : ar G (F :: dH (p6.pg = sX ch.pg t.1 y.it.key /\ p6.Sm) (aT []) :: aR p6 :: ag b5 p5.cells 75 :: aR p5 :: aZ vq t.2.2 :: ag wq (l8 vq t.2.1) 148 :: ag sq (iB up a ch) 196 :: aR up :: aR ch :: L) w := hw;exact ⟨_, hw.b [ag b5 p5.cells 75, ag sq (iB up a ch) 196, aR up]⟩
  clear hw;obtain ⟨R, hw⟩ := hz;simp only [bB, cW, or_false] at Qn;rcases Qn with rfl | rfl | rfl | rfl | rfl
  ·exact aV rfl rfl rfl (aj.many (cs := ch.cells) ad rfl (Rd.gN (l := iB up a ch) (o := 6) hw pK))
  ·exact aV rfl rfl rfl (aj.cw (l := p5.cells) ad hw pK rfl)
  ·exact aV rfl rfl rfl (aj.bx (v := .slice (some ⟨ib, 0, none⟩) up.l.length ic) ao hw pK (by first | exact congrArg some hs | (rw [<-hs]; rfl)))
  ·exact aV rfl rfl rfl (aj.bx (v := iQ a) ai hw pK rfl)
  exact aV rfl rfl rfl (aj.one (v := y.kv) ay (nr (j := 0) hw (p := up) pK tB hs hy rfl oM))
 ·replace hw := hw.drawn (w.drawn + 1);refine z3 ?_;refine bt rfl rfl (aj.many (cs := ch.cells) ad rfl (Rd.gN (l := iB up a ch) (o := 6) hw pK)) ?_;refine lA (l := p5.cells) ad hw ?_;refine z3 ?_;refine cy rfl dE rfl ?_;refine bt rfl rfl (aj.bx (v := .slice (some ⟨ib, 0, none⟩) up.l.length ic) ao hw pK (by first | exact congrArg some hs | (rw [<-hs]; rfl))) ?_;refine z3 ?_;refine lD (v := iQ a) ai hw ?_;refine z1 ?_;refine dD rfl aG aY rfl rfl ⟨oM, oM⟩ ?_;refine cy rfl cE rfl ?_;refine bt rfl rfl (aj.one (v := y.kv) ay (nr (j := 0) hw (p := up) pK tB hs hy rfl oM)) ?_;refine aH ?_;refine ⟨(bI, ()), (show kK ([(0, pQ wq), (1, pQ sq), (5, pQ b5), (18, .pointer (some ⟨sq, 6, none⟩)), (19, gQ ch.cells), (20, gQ p5.cells), (24, .pointer (some ⟨sq, 2, none⟩)), (25, .slice (some ⟨ib, 0, none⟩) up.l.length ic), (28, .pointer (some ⟨sq, 5, none⟩)), (29, iQ a), (32, .pointer (some ⟨ib, 0 + ((a : Int) + 1).toNat * 4, none⟩)), (33, y.kv)]) _ from sB), ?_⟩;exact hw.b [ag b5 _ _, aR p5, aZ vq _, ag wq _ _, ag sq _ _, aR up, aR ch]
 ·clear hw;intro k Xr hk x w F hw;rcases x with ⟨p6, u⟩;rcases k with _ | k
  ·cases hk;replace hw : ar G (F :: ag b5 p5.cells 75 :: aR p5 :: aZ vq t.2.2 :: ag wq (l8 vq t.2.1) 148 :: ag sq (iB up a ch) 196 :: aR up :: aR ch :: L) w := hw;refine ee (kK.refl ([(0, pQ wq), (1, pQ sq), (5, pQ b5), (18, .pointer (some ⟨sq, 6, none⟩)), (19, gQ ch.cells), (20, gQ p5.cells), (24, .pointer (some ⟨sq, 2, none⟩)), (25, .slice (some ⟨ib, 0, none⟩) up.l.length ic), (28, .pointer (some ⟨sq, 5, none⟩)), (29, iQ a), (32, .pointer (some ⟨ib, 0 + ((a : Int) + 1).toNat * 4, none⟩)), (33, y.kv)])) ?_;refine an rfl yB rfl (AR (p := ch) (q := p5) (sep := y.it.key) hw (aB iu pK) (aB aay pK) (((aB tB pK).its.it y (ed hy)).k) G6.1 oM oM) kR fun w Zi hv => ?_;obtain ⟨p6, rfl, Vo, JL, Yo, hw⟩ := LI hv;rw [hp5] at Vo;rw [hp5];refine z4 ?_;refine ⟨(p6, u), (show kK ((35, gQ p6.cells) :: (36, .bool (decide (eB ch.pg t.1))) :: [(0, pQ wq), (1, pQ sq), (5, pQ b5), (18, .pointer (some ⟨sq, 6, none⟩)), (19, gQ ch.cells), (20, gQ p5.cells), (24, .pointer (some ⟨sq, 2, none⟩)), (25, .slice (some ⟨ib, 0, none⟩) up.l.length ic), (28, .pointer (some ⟨sq, 5, none⟩)), (29, iQ a), (32, .pointer (some ⟨ib, 0 + ((a : Int) + 1).toNat * 4, none⟩)), (33, y.kv)]) _ from sB), ?_⟩;have hz := nC (p := p6.pg = sX ch.pg t.1 y.it.key /\ p6.Sm) ⟨Vo, JL⟩ hw;exact hz.b [F, dH _ _, aR p6, ag b5 _ _, aR p5, aZ vq _, ag wq _ _, ag sq _ _, aR up, aR ch]
  simp at hk
 clear hw;rintro ⟨p6, u⟩ w bs hw;obtain ⟨b6, NQ⟩ : ∃ b, b = bs 22 := ⟨_, rfl⟩;replace hw : ar G (ag b6 bI.cells 75 :: dH (p6.pg = sX ch.pg t.1 y.it.key /\ p6.Sm) (aT []) :: aR p6 :: ag b5 p5.cells 75 :: aR p5 :: aZ vq t.2.2 :: ag wq (l8 vq t.2.1) 148 :: ag sq (iB up a ch) 196 :: aR up :: aR ch :: L) w := by
  subst NQ; exact hw
 refine ee (e' := (6, pQ b6) :: (35, gQ p6.cells) :: (36, .bool (decide (eB ch.pg t.1))) :: [(0, pQ wq), (1, pQ sq), (5, pQ b5), (18, .pointer (some ⟨sq, 6, none⟩)), (19, gQ ch.cells), (20, gQ p5.cells), (24, .pointer (some ⟨sq, 2, none⟩)), (25, .slice (some ⟨ib, 0, none⟩) up.l.length ic), (28, .pointer (some ⟨sq, 5, none⟩)), (29, iQ a), (32, .pointer (some ⟨ib, 0 + ((a : Int) + 1).toNat * 4, none⟩)), (33, y.kv)]) (by
    subst NQ; exact kK.refl _) ?_
 clear NQ;obtain ⟨⟨Vo, JL⟩, hw⟩ := (hw.b [dH _ _]).dx;replace hw := hw.tail;have Yo := cF (aB JL pK) hw;refine aL (cs := p6.cells) (l' := p6.cells) rfl tV rfl rfl ad rfl Yo hw pK (by simp [bm.cells]) rfl kR fun w hw => ?_;refine z6 ?_;refine an rfl fF rfl (fZ (vq := vq) (e := t.2.1) (b := decide (eB ch.pg t.1)) (hw.b [ag wq _ _])) rfl fun w RC hv => ?_;obtain ⟨rfl, hw⟩ := hv;refine z4 ?_;refine lA (l := p6.cells) ad hw ?_;refine z2 ?_;refine aL (cs := p6.cells) (l' := iB up a p6) rfl tV rfl rfl ad rfl Yo hw pK sM rfl rfl fun w hw => ?_;refine z8 ?_;refine lD (v := iQ a) ai hw ?_;refine z1 ?_;rw [show (a : Int) + 1 = ((a + 1 : Nat) : Int) by omega];have hz := hw.b [aZ vq _, ag wq _ _, ag sq _ _, aR up, aR p6];have hct := ix (s := ⟨t.2.2, DY (decide (eB ch.pg t.1)) t.2.1, up.pg, a, p6.pg⟩) (up := up) (ch := p6) rfl rfl tB JL hz;refine an rfl tt rfl (uR (k := a + 1) hct h3 LP) rfl fun w Zf hv => ?_;obtain ⟨rfl, hw⟩ := hv;refine z6 ?_;exact br rfl rfl rfl (by
 have e0 : eJ ⟨V, e, up.pg, a, ch.pg⟩ = (true, F1 ⟨t.2.2, DY (decide (eB ch.pg t.1)) t.2.1, up.pg, a, p6.pg⟩ (a + 1)) := by
  unfold eJ;simp only;rw [ae (not_not_intro h3), <-ht, Ta, Vo]
 rw [e0];have hz := (hw.b [ag b6 _ _, ag b5 _ _, aR p5, aR ch]).tail.tail.tail.tail;exact ⟨rfl, hz⟩)
theorem xX {vq wq sq : Nat} {s : Ct} (hw : ar G (D7 vq wq sq s :: L) w) (aJ : s.V.Ok) (dm : s.V.sz <= 999999999900) (oY : s.at_ < s.up.items.length) (LP : s.up.items.length <= 8) (O8 : s.ch.items.length <= 8) :
  Calls prog 161 #[pQ wq, pQ sq] w (dv fun r w' => r = .bool (fG s).1 /\ ar G (D7 vq wq sq (fG s).2 :: L) w') := by
 rcases s with ⟨V, e, U, a, C⟩;obtain ⟨up, ch, xr, sg, tB, iu, hw⟩ := nI hw;simp only at xr sg aJ dm oY LP O8;subst xr sg;replace hw : ar G (aZ vq V :: ag wq (l8 vq e) 148 :: ag sq (iB up a ch) 196 :: aR up :: aR ch :: L) w := hw;have kA : up.pg.items.length = up.l.length := by simp [bm.pg]
 have gJ : ch.pg.items.length = ch.l.length := by simp [bm.pg]
 obtain ⟨ib, ic, hs⟩ := qF hw (p := up) pK oM;refine al (args := [_, _]) func161 rfl ntmps161 rfl rfl ?_;refine z8 ?_;refine an rfl lL rfl (ml (up := up) (ch := ch) (at_ := a) (k := -1) (hw.b [ag sq _ _]) (aB tB pK) oM oM) rfl fun w v9 hv => ?_;obtain ⟨rfl, hw⟩ := hv;refine jX rfl rfl ?_;refine aH ?_;refine aS rfl (fun h1 => ?_) fun h1 => ?_
 ·
  refine z5 ?_;exact br rfl rfl rfl (by
 have e0 : fG ⟨V, e, up.pg, a, ch.pg⟩ = (false, ⟨V, e, up.pg, a, ch.pg⟩) := ah (by simp only; omega);rw [e0];exact ⟨rfl, ix rfl rfl tB iu (hw.b [aZ vq V, ag wq _ _, ag sq _ _, aR up, aR ch])⟩)
 have h3 : ¬ a < 1 := oM;obtain ⟨x, hx⟩ : ∃ x, up.l[a - 1]? = some x := ⟨_, cV oM⟩;obtain ⟨y, hy⟩ : ∃ y, up.l[a]? = some y := ⟨_, cV oM⟩;have Ta : jU up.pg.items a = y.it.key := ny hy;have hcy : bh up.pg.items a = y.it.child := lB hy;have G6 := tB.it y (ed hy);have LL := tB.it x (ed hx);refine z5 ?_;refine an rfl dZ rfl (eC (up := up) (ch := ch) (at_ := a) (k := -1) (j := a - 1) (hw.b [ag sq _ _]) (aB tB pK) oM oM oM oM) rfl fun w Xm hv => ?_;obtain ⟨rfl, hw⟩ := hv;refine an rfl iz rfl (iS (n := bh up.pg.items (a - 1)) (hw.b [aZ vq V, ag wq _ _]) aJ oM) rfl fun w QY hv => ?_;obtain ⟨rfl, hw⟩ := hv;have Fh := Lt.uJ aJ e (bh up.pg.items (a - 1));obtain ⟨h, hh⟩ : ∃ h, h = uJ V e (bh up.pg.items (a - 1)) := ⟨_, rfl⟩;rw [<-hh] at hw Fh;rw [<-hh];have q8 := Fh.ok;have T0 := Fh.sz;refine z3 ?_;refine bu [0, 1, 2, 3, 4, 5, 6, 7, 8, 9, 10, 11, 12, 13] bK kR ?_;replace hw := hw.drawn (w.drawn + 1);refine z3 ?_;refine cy rfl dE rfl ?_;refine bt rfl rfl (aj.bx (v := .slice (some ⟨ib, 0, none⟩) up.l.length ic) ao hw pK (by first | exact congrArg some hs | (rw [<-hs]; rfl))) ?_;refine z3 ?_;refine lD (v := iQ a) ai hw ?_;refine z2 ?_;refine dD rfl aG aY rfl rfl ⟨oM, oM⟩ ?_;refine cy rfl gm rfl ?_;refine Bg (p := up) (k := a - 1) (c := h.1) (z := x) rfl tV rfl rfl ai hw pK hs hx oM kR fun w hw => ?_;have u5 : bm.Sm { up with l := up.l.set (a - 1) ⟨{ x.it with child := h.1 }, x.kv, x.vv⟩ } := tB.set LL.1 LL.2;have JH : bm.pg { up with l := up.l.set (a - 1) ⟨{ x.it with child := h.1 }, x.kv, x.vv⟩ } = { up.pg with items := aP up.pg.items (a - 1) h.1 } := by
  rw [gS h.1 (x := x.it) (by show (up.l.map bT.it)[_]? = _; rw [dB, hx]; rfl)];simp [bm.pg, tS]
 have NF : (bm.l { up with l := up.l.set (a - 1) ⟨{ x.it with child := h.1 }, x.kv, x.vv⟩ }).length = up.l.length := by simp
 have Aq : (bm.l { up with l := up.l.set (a - 1) ⟨{ x.it with child := h.1 }, x.kv, x.vv⟩ })[a]? = some y := by
  show (up.l.set (a - 1) _)[a]? = _
  rw [List.getElem?_set_ne oM]; exact hy
 have SU : iB up a ch = iB { up with l := up.l.set (a - 1) ⟨{ x.it with child := h.1 }, x.kv, x.vv⟩ } a ch := rfl;rw [SU] at hw;have q9 : bm.s { up with l := up.l.set (a - 1) ⟨{ x.it with child := h.1 }, x.kv, x.vv⟩ } = .slice (some ⟨ib, 0, none⟩) up.l.length ic := hs;obtain ⟨dF, SS⟩ : ∃ u : bm, u = { up with l := up.l.set (a - 1) ⟨{ x.it with child := h.1 }, x.kv, x.vv⟩ } := ⟨_, rfl⟩;rw [<-SS] at u5 JH NF Aq hw q9
 (try unfold sQ at q9); rw [<-NF] at q9
 have abI : dF.pg.items.length = dF.l.length := by simp [bm.pg]
 have Bd : bh dF.pg.items a = bh up.pg.items a := (lB Aq).trans hcy.symm;refine z5 ?_;refine an rfl dZ rfl (eC (up := dF) (ch := ch) (at_ := a) (k := 0) (j := a) (hw.b [ag sq _ _]) (aB u5 pK) oM oM oM oM) rfl fun w v30 hv => ?_;obtain ⟨rfl, hw⟩ := hv;rw [Bd];refine an rfl lK rfl (mj (n := bh up.pg.items a) (hw.b [aZ vq _, ag wq _ _]) q8 oM) rfl fun w v31 hv => ?_;obtain ⟨p31, rfl, adj, acU, hw⟩ := hv;have Zv := Lt.xE q8 h.2.1 (bh up.pg.items a);obtain ⟨t, ht⟩ : ∃ t, t = xE h.2.2 h.2.1 (bh up.pg.items a) := ⟨_, rfl⟩;rw [<-ht] at hw Zv;have Zu := Zv.ok;replace hw := hw.tail;refine z2 ?_;obtain ⟨q, hq⟩ : ∃ q, q = px t.2.2 t.2.1 h.1 := ⟨_, rfl⟩;have MR := DV Zu t.2.1 h.1
 (try unfold sQ at MR); rw [<-hq] at MR
 refine zQ (G := G) (α := fun _ => bm × bm) [0, 1, 3, 4, 5, 6, 7, 8, 9, 10, 11, 12, 13, 14, 15, 16, 17, 18] [[2], [19, 20, 21, 22]] [⟨23, 6, bI.cells, 75⟩] [24, 25] [6, 11, 15, 18] (fun k (x : bm × bm) => match k, x with | 0, (uL, p6) => [(0, pQ wq), (1, pQ sq), (5, iQ h.1), (33, pQ wq), (34, iQ h.1), (38, .pointer (some ⟨sq, 6, none⟩)), (39, gQ ch.cells), (43, .pointer (some ⟨sq, 2, none⟩)), (44, .slice (some ⟨ib, 0, none⟩) dF.l.length ic), (47, .pointer (some ⟨sq, 5, none⟩)), (48, iQ a), (50, .pointer (some ⟨ib, 0 + (a : Int).toNat * 4, none⟩)), (51, y.kv)] | 1, (uL, p6) => (35, gQ uL.cells) :: [(0, pQ wq), (1, pQ sq), (5, iQ h.1), (33, pQ wq), (34, iQ h.1), (38, .pointer (some ⟨sq, 6, none⟩)), (39, gQ ch.cells), (43, .pointer (some ⟨sq, 2, none⟩)), (44, .slice (some ⟨ib, 0, none⟩) dF.l.length ic), (47, .pointer (some ⟨sq, 5, none⟩)), (48, iQ a), (50, .pointer (some ⟨ib, 0 + (a : Int).toNat * 4, none⟩)), (51, y.kv)] | _, (uL, p6) => (53, gQ p6.cells) :: (54, .bool (decide (eB q.1 ch.pg))) :: [(0, pQ wq), (1, pQ sq), (5, iQ h.1), (33, pQ wq), (34, iQ h.1), (38, .pointer (some ⟨sq, 6, none⟩)), (39, gQ ch.cells), (43, .pointer (some ⟨sq, 2, none⟩)), (44, .slice (some ⟨ib, 0, none⟩) dF.l.length ic), (47, .pointer (some ⟨sq, 5, none⟩)), (48, iQ a), (50, .pointer (some ⟨ib, 0 + (a : Int).toNat * 4, none⟩)), (51, y.kv)]) (fun k (x : bm × bm) => match k, x with | 0, (uL, p6) => aZ vq t.2.2 :: ag wq (l8 vq t.2.1) 148 :: ag sq (iB dF a ch) 196 :: aR dF :: aR ch :: L | 1, (uL, p6) => dH (uL.pg = q.1 /\ uL.Sm) (aT []) :: aR uL :: aZ vq t.2.2 :: ag wq (l8 vq q.2) 148 :: ag sq (iB dF a ch) 196 :: aR dF :: aR ch :: L | _, (uL, p6) => dH (p6.pg = sX q.1 ch.pg y.it.key /\ p6.Sm) (aT []) :: aR p6 :: aR uL :: aZ vq t.2.2 :: ag wq (l8 vq q.2) 148 :: ag sq (iB dF a ch) 196 :: aR dF :: aR ch :: L) bK kR kR ?_ ?_ ?_ ?_ ?_ ?_
 ·intro f hf;simp only [bB, cW, or_false] at hf;subst hf;exact ⟨_, _, _, rfl, bf, rfl, fun q hq => a9 (l := [6, 11, 15, 18]) kR hq⟩
 ·rintro (_ | _ | _) ⟨uL, p6⟩ <;> rfl
 ·intro k hk x w F hw qq Qn;refine D8 (e1 := [(0, pQ wq), (1, pQ sq), (5, iQ h.1), (33, pQ wq), (34, iQ h.1), (38, .pointer (some ⟨sq, 6, none⟩)), (39, gQ ch.cells), (43, .pointer (some ⟨sq, 2, none⟩)), (44, .slice (some ⟨ib, 0, none⟩) dF.l.length ic), (47, .pointer (some ⟨sq, 5, none⟩)), (48, iQ a), (50, .pointer (some ⟨ib, 0 + (a : Int).toNat * 4, none⟩)), (51, y.kv)]) (by
    rcases x with ⟨uL, p6⟩;rcases k with _ | _ | _
    ·exact (show kK _ ([(0, pQ wq), (1, pQ sq), (5, iQ h.1), (33, pQ wq), (34, iQ h.1), (38, .pointer (some ⟨sq, 6, none⟩)), (39, gQ ch.cells), (43, .pointer (some ⟨sq, 2, none⟩)), (44, .slice (some ⟨ib, 0, none⟩) dF.l.length ic), (47, .pointer (some ⟨sq, 5, none⟩)), (48, iQ a), (50, .pointer (some ⟨ib, 0 + (a : Int).toNat * 4, none⟩)), (51, y.kv)]) from sB)
    ·exact (show kK _ ((35, gQ uL.cells) :: [(0, pQ wq), (1, pQ sq), (5, iQ h.1), (33, pQ wq), (34, iQ h.1), (38, .pointer (some ⟨sq, 6, none⟩)), (39, gQ ch.cells), (43, .pointer (some ⟨sq, 2, none⟩)), (44, .slice (some ⟨ib, 0, none⟩) dF.l.length ic), (47, .pointer (some ⟨sq, 5, none⟩)), (48, iQ a), (50, .pointer (some ⟨ib, 0 + (a : Int).toNat * 4, none⟩)), (51, y.kv)]) from sB)
    ·exact (show kK _ ((53, gQ p6.cells) :: (54, .bool (decide (eB q.1 ch.pg))) :: [(0, pQ wq), (1, pQ sq), (5, iQ h.1), (33, pQ wq), (34, iQ h.1), (38, .pointer (some ⟨sq, 6, none⟩)), (39, gQ ch.cells), (43, .pointer (some ⟨sq, 2, none⟩)), (44, .slice (some ⟨ib, 0, none⟩) dF.l.length ic), (47, .pointer (some ⟨sq, 5, none⟩)), (48, iQ a), (50, .pointer (some ⟨ib, 0 + (a : Int).toNat * 4, none⟩)), (51, y.kv)]) from sB)) ?_
  have hz : ∃ R, ar G (ag sq (iB dF a ch) 196 :: aR dF :: R) w := by
   rcases x with ⟨uL, p6⟩;rcases k with _ | _ | _
   ·replace hw : ar G (F :: aZ vq t.2.2 :: ag wq (l8 vq t.2.1) 148 :: ag sq (iB dF a ch) 196 :: aR dF :: aR ch :: L) w := hw;exact ⟨_, hw.b [ag sq (iB dF a ch) 196, aR dF]⟩
   ·replace hw : ar G (F :: dH (uL.pg = q.1 /\ uL.Sm) (aT []) :: aR uL :: aZ vq t.2.2 :: ag wq (l8 vq q.2) 148 :: ag sq (iB dF a ch) 196 :: aR dF :: aR ch :: L) w := hw;exact ⟨_, hw.b [ag sq (iB dF a ch) 196, aR dF]⟩
   replace hw : ar G (F :: dH (p6.pg = sX q.1 ch.pg y.it.key /\ p6.Sm) (aT []) :: aR p6 :: aR uL :: aZ vq t.2.2 :: ag wq (l8 vq q.2) 148 :: ag sq (iB dF a ch) 196 :: aR dF :: aR ch :: L) w := hw;exact ⟨_, hw.b [ag sq (iB dF a ch) 196, aR dF]⟩
  clear hw;obtain ⟨R, hw⟩ := hz;simp only [bB, cW, or_false] at Qn;rcases Qn with rfl | rfl | rfl | rfl
  ·exact aV rfl rfl rfl (aj.many (cs := ch.cells) ad rfl (Rd.gN (l := iB dF a ch) (o := 6) hw pK))
  ·exact aV rfl rfl rfl (aj.bx (v := .slice (some ⟨ib, 0, none⟩) dF.l.length ic) ao hw pK (by first | exact congrArg some q9 | (rw [<-q9]; rfl)))
  ·exact aV rfl rfl rfl (aj.bx (v := iQ a) ai hw pK rfl)
  exact aV rfl rfl rfl (aj.one (v := y.kv) ay (nr (j := 0) hw (p := dF) pK u5 q9 Aq rfl oM))
 ·replace hw := hw.drawn (w.drawn + 1);refine z5 ?_;refine bt rfl rfl (aj.many (cs := ch.cells) ad rfl (Rd.gN (l := iB dF a ch) (o := 6) hw pK)) ?_;refine z3 ?_;refine cy rfl dE rfl ?_;refine bt rfl rfl (aj.bx (v := .slice (some ⟨ib, 0, none⟩) dF.l.length ic) ao hw pK (by first | exact congrArg some q9 | (rw [<-q9]; rfl))) ?_;refine z3 ?_;refine lD (v := iQ a) ai hw ?_;refine dD rfl aG aY rfl rfl ⟨oM, oM⟩ ?_;refine cy rfl cE rfl ?_;refine bt rfl rfl (aj.one (v := y.kv) ay (nr (j := 0) hw (p := dF) pK u5 q9 Aq rfl oM)) ?_;refine aH ?_;refine ⟨(bI, bI), (show kK ([(0, pQ wq), (1, pQ sq), (5, iQ h.1), (33, pQ wq), (34, iQ h.1), (38, .pointer (some ⟨sq, 6, none⟩)), (39, gQ ch.cells), (43, .pointer (some ⟨sq, 2, none⟩)), (44, .slice (some ⟨ib, 0, none⟩) dF.l.length ic), (47, .pointer (some ⟨sq, 5, none⟩)), (48, iQ a), (50, .pointer (some ⟨ib, 0 + (a : Int).toNat * 4, none⟩)), (51, y.kv)]) _ from sB), ?_⟩;exact hw.b [aZ vq _, ag wq _ _, ag sq _ _, aR dF, aR ch]
 ·clear hw;intro k Xr hk x w F hw;rcases x with ⟨uL, p6⟩;rcases k with _ | _ | k
  ·cases hk;replace hw : ar G (F :: aZ vq t.2.2 :: ag wq (l8 vq t.2.1) 148 :: ag sq (iB dF a ch) 196 :: aR dF :: aR ch :: L) w := hw;refine ee (kK.refl ([(0, pQ wq), (1, pQ sq), (5, iQ h.1), (33, pQ wq), (34, iQ h.1), (38, .pointer (some ⟨sq, 6, none⟩)), (39, gQ ch.cells), (43, .pointer (some ⟨sq, 2, none⟩)), (44, .slice (some ⟨ib, 0, none⟩) dF.l.length ic), (47, .pointer (some ⟨sq, 5, none⟩)), (48, iQ a), (50, .pointer (some ⟨ib, 0 + (a : Int).toNat * 4, none⟩)), (51, y.kv)])) ?_;refine dL rfl gg rfl (gG (n := h.1) (hw.b [aZ vq _, ag wq _ _]) Zu) (fun w Wi hv q' hq => ?_) fun w Wi hv => ?_
   ·
    obtain ⟨uL, rfl, NJ, OZ, hw⟩ := hv;have hq := a9 (l := [6, 11, 15, 18]) kR hq;simp only [bB, cW, or_false] at hq;rcases hq with rfl | rfl | rfl | rfl
    ·exact aV rfl rfl rfl (aj.many (cs := ch.cells) ad rfl (Rd.gN (l := iB dF a ch) (o := 6) hw pK))
    ·exact aV rfl rfl rfl (aj.bx (v := .slice (some ⟨ib, 0, none⟩) dF.l.length ic) ao hw pK (by first | exact congrArg some q9 | (rw [<-q9]; rfl)))
    ·exact aV rfl rfl rfl (aj.bx (v := iQ a) ai hw pK rfl)
    exact aV rfl rfl rfl (aj.one (v := y.kv) ay (nr (j := 0) hw (p := dF) pK u5 q9 Aq rfl oM))
   obtain ⟨uL, rfl, NJ, OZ, hw⟩ := hv;rw [<-hq] at hw NJ;refine aH ?_;refine ⟨(uL, p6), (show kK ((35, gQ uL.cells) :: [(0, pQ wq), (1, pQ sq), (5, iQ h.1), (33, pQ wq), (34, iQ h.1), (38, .pointer (some ⟨sq, 6, none⟩)), (39, gQ ch.cells), (43, .pointer (some ⟨sq, 2, none⟩)), (44, .slice (some ⟨ib, 0, none⟩) dF.l.length ic), (47, .pointer (some ⟨sq, 5, none⟩)), (48, iQ a), (50, .pointer (some ⟨ib, 0 + (a : Int).toNat * 4, none⟩)), (51, y.kv)]) _ from sB), ?_⟩;have hz := nC (p := uL.pg = q.1 /\ uL.Sm) ⟨NJ, OZ⟩ hw;exact hz.b [F, dH _ _, aR uL, aZ vq _, ag wq _ _, ag sq _ _, aR dF, aR ch]
  ·cases hk;replace hw : ar G (F :: dH (uL.pg = q.1 /\ uL.Sm) (aT []) :: aR uL :: aZ vq t.2.2 :: ag wq (l8 vq q.2) 148 :: ag sq (iB dF a ch) 196 :: aR dF :: aR ch :: L) w := hw;refine ee (kK.refl ((35, gQ uL.cells) :: [(0, pQ wq), (1, pQ sq), (5, iQ h.1), (33, pQ wq), (34, iQ h.1), (38, .pointer (some ⟨sq, 6, none⟩)), (39, gQ ch.cells), (43, .pointer (some ⟨sq, 2, none⟩)), (44, .slice (some ⟨ib, 0, none⟩) dF.l.length ic), (47, .pointer (some ⟨sq, 5, none⟩)), (48, iQ a), (50, .pointer (some ⟨ib, 0 + (a : Int).toNat * 4, none⟩)), (51, y.kv)])) ?_;obtain ⟨⟨NJ, OZ⟩, hw⟩ := (hw.b [dH _ _]).dx;replace hw := hw.tail;have aaC : uL.pg.items.length = uL.l.length := by simp [bm.pg]
   rw [NJ] at aaC;refine an rfl yB rfl (AR (p := uL) (q := ch) (sep := y.it.key) hw (aB OZ pK) (aB iu pK) (((aB u5 pK).its.it y (ed Aq)).k) G6.1 oM oM) kR fun w v52 hv => ?_;obtain ⟨p6, rfl, Vo, JL, Yo, hw⟩ := LI hv;rw [NJ] at Vo
   rw [NJ];refine z4 ?_;refine ⟨(uL, p6), (show kK ((53, gQ p6.cells) :: (54, .bool (decide (eB q.1 ch.pg))) :: [(0, pQ wq), (1, pQ sq), (5, iQ h.1), (33, pQ wq), (34, iQ h.1), (38, .pointer (some ⟨sq, 6, none⟩)), (39, gQ ch.cells), (43, .pointer (some ⟨sq, 2, none⟩)), (44, .slice (some ⟨ib, 0, none⟩) dF.l.length ic), (47, .pointer (some ⟨sq, 5, none⟩)), (48, iQ a), (50, .pointer (some ⟨ib, 0 + (a : Int).toNat * 4, none⟩)), (51, y.kv)]) _ from sB), ?_⟩;have hz := nC (p := p6.pg = sX q.1 ch.pg y.it.key /\ p6.Sm) ⟨Vo, JL⟩ hw;exact hz.b [F, dH _ _, aR p6, aR uL, aZ vq _, ag wq _ _, ag sq _ _, aR dF, aR ch]
  simp at hk
 clear hw;rintro ⟨uL, p6⟩ w bs hw;obtain ⟨b6, NQ⟩ : ∃ b, b = bs 23 := ⟨_, rfl⟩;replace hw : ar G (ag b6 bI.cells 75 :: dH (p6.pg = sX q.1 ch.pg y.it.key /\ p6.Sm) (aT []) :: aR p6 :: aR uL :: aZ vq t.2.2 :: ag wq (l8 vq q.2) 148 :: ag sq (iB dF a ch) 196 :: aR dF :: aR ch :: L) w := by
  subst NQ; exact hw
 refine ee (e' := (6, pQ b6) :: (53, gQ p6.cells) :: (54, .bool (decide (eB q.1 ch.pg))) :: [(0, pQ wq), (1, pQ sq), (5, iQ h.1), (33, pQ wq), (34, iQ h.1), (38, .pointer (some ⟨sq, 6, none⟩)), (39, gQ ch.cells), (43, .pointer (some ⟨sq, 2, none⟩)), (44, .slice (some ⟨ib, 0, none⟩) dF.l.length ic), (47, .pointer (some ⟨sq, 5, none⟩)), (48, iQ a), (50, .pointer (some ⟨ib, 0 + (a : Int).toNat * 4, none⟩)), (51, y.kv)]) (by
    subst NQ; exact kK.refl _) ?_
 clear NQ;obtain ⟨⟨Vo, JL⟩, hw⟩ := (hw.b [dH _ _]).dx;replace hw := hw.tail;have Yo := cF (aB JL pK) hw;refine aL (cs := p6.cells) (l' := p6.cells) rfl tV rfl rfl ad rfl Yo hw pK (by simp [bm.cells]) rfl kR fun w hw => ?_;refine z6 ?_;refine an rfl fF rfl (fZ (vq := vq) (e := q.2) (b := decide (eB q.1 ch.pg)) (hw.b [ag wq _ _])) rfl fun w v57 hv => ?_;obtain ⟨rfl, hw⟩ := hv;refine z4 ?_;refine lA (l := p6.cells) ad hw ?_;refine z2 ?_;refine aL (cs := p6.cells) (l' := iB dF a p6) rfl tV rfl rfl ad rfl Yo hw pK sM rfl rfl fun w hw => ?_;refine z8 ?_;refine lD (v := iQ a) ai hw ?_;have hz := hw.b [aZ vq _, ag wq _ _, ag sq _ _, aR dF, aR p6];have hct := ix (s := ⟨t.2.2, DY (decide (eB q.1 ch.pg)) q.2, dF.pg, a, p6.pg⟩) (up := dF) (ch := p6) rfl rfl u5 JL hz;refine an rfl tt rfl (uR (k := a) hct (show a < dF.pg.items.length by omega) (show dF.pg.items.length <= 8 by omega)) rfl fun w v68 hv => ?_;obtain ⟨rfl, hw⟩ := hv;obtain ⟨Ol, QO, hu2, L4, LO, Vz, hw⟩ := nI hw;replace hw : ar G (aZ vq t.2.2 :: ag wq (l8 vq (DY (decide (eB q.1 ch.pg)) q.2)) 148 :: ag sq (iB Ol a QO) 196 :: aR Ol :: aR QO :: _) w := hw;refine z6 ?_;refine lD (v := iQ a) ai hw ?_;refine z1 ?_;rw [show (a : Int) - 1 = ((a - 1 : Nat) : Int) by omega];refine z2 ?_;refine bS (l' := iB Ol (a - 1 : Nat) QO) rfl tV rfl rfl ai rfl hw pK rfl rfl rfl fun w hw => ?_;refine z6 ?_;exact br rfl rfl rfl (by
 have e0 : fG ⟨V, e, up.pg, a, ch.pg⟩ = (true, { F1 ⟨t.2.2, DY (decide (eB q.1 ch.pg)) q.2, dF.pg, a, p6.pg⟩ a with at_ := a - 1 }) := by
  unfold fG;simp only;rw [ae h3, <-hh, <-ht, <-hq, Ta, Vo, <-JH]
 rw [e0];refine ⟨rfl, ix (up := Ol) (ch := QO) hu2 L4 LO Vz ?_⟩;have hz := (hw.b [ag b6 _ _, aR uL, aR ch]).tail.tail.tail;have hz := hz.b [aZ vq _, ag wq _ _, ag sq _ _, aR Ol, aR QO];exact hz)
end
section
variable {P : Program} {n : Nat} {ops : Array Oper} {dr : Bool} {done r : List Nat} {K : gj -> World -> Prop} {e : gj} {w : World} {i d : Nat} {t s T : TypeId} {pp : String} {af : Array Edge} {g : Option (Nat × Bool)} {x y : Operand}
theorem Z3 {c : TypeId} {m z : Nat} {k : IntKind} {a : Int} {cs us : List Value} (ho : ops[i]? = some ⟨some d, .index s x y, t, pp, af, g⟩) (hs : P.underlying s = some (.array m c)) (hz : (P.info? c).map (·.size) = some z) (h1 : Kg P c = true) (h2 : (P.underlying c).isSome = true)
  (hx : ev e x = some (gQ cs)) (hy : ev e y = some (.int k a)) (ha : 0 <= a /\ a < m) (hv : cs.toArray.extract (a.toNat * z) (a.toNat * z + z) = us.toArray)
  (h : XL P n ops dr (i :: done) r K ((d, gQ us) :: e) w) (hd : Nat.blt d n = true := by exact rfl) (hg : Gd ops e g := by first | trivial | exact ⟨_, rfl, rfl⟩) : XL P n ops dr done (i :: r) K e w :=
 eO ho (by simpa [cS] using hd) hg (ρ := rh e) (by intro z hZ; simp [Op.operands] at hZ; exact Da hx hy hZ) rfl (v := gQ us) (fun w' => by
  cases hi : P.info? c with
  | none => simp [hi] at hz
  | some inf =>
   have dm : inf.size = z := by simpa [hi] using hz
   simp [execOp, bO hx, bO hy, Instr.index, asIntOf, run_underlying hs, ha.1, ha.2, part, xf h1 h2, sizeOf, typeInfo, hi, dm, <-hv]) h
end
def jS (k : Nat) (s : Ct) : Bool × Ct := match k with
 | 0 => eY s
 | 1 => fY s
 | 2 => eJ s
 | _ => fG s
def Mf (k : Nat) : Nat := match k with
 | 0 => 158
 | 1 => 159
 | 2 => 160
 | _ => 161
def mb : Nat -> Nat -> Ct -> Ct
 | 0, _, s => s
 | f + 1, k, s => if s.e ≠ 0 then s else if (jS k s).1 = true then (jS k s).2 else mb f (k + 1) (jS k s).2
def kB (s : Ct) : Ct := mb 4 0 s
theorem zT {k : Nat} {s : Ct} (h : (jS k s).1 = false) : ∃ e, (jS k s).2 = { s with e := e } := by
 unfold jS at h ⊢;split at h
 ·unfold eY at h ⊢;split at h
  ·exact ⟨_, by rw [ah (by assumption)]⟩
  rename_i h1;rw [ae h1];simp only at h ⊢;split at h
  ·rename_i h2; rw [ah h2]; exact ⟨_, rfl⟩
  cases h
 ·unfold fY at h ⊢;split at h
  ·exact ⟨_, by rw [ah (by assumption)]⟩
  rename_i h1;rw [ae h1];simp only at h ⊢;split at h
  ·rename_i h2; rw [ah h2]; exact ⟨_, rfl⟩
  cases h
 ·unfold eJ at h ⊢;split at h
  ·exact ⟨_, by rw [ah (by assumption)]⟩
  cases h
 unfold fG at h ⊢;split at h
 ·exact ⟨_, by rw [ah (by assumption)]⟩
 cases h
theorem Lt.jS {k : Nat} {s : Ct} (aJ : s.V.Ok) : Lt s.V 24 (jS k s).2.V := by
 unfold X.jS;split
 ·exact (Lt.BS aJ).mono oM
 ·exact (Lt.Fx aJ).mono oM
 ·exact (Lt.BH aJ).mono oM
 exact Lt.E7 aJ
theorem Lt.mb : ∀ (f k : Nat) (s : Ct), s.V.Ok -> Lt s.V 24 (mb f k s).V
 | 0, _, s, aJ => (Lt.refl aJ).mono oM
 | f + 1, k, s, aJ => by
  rw [X.mb];split
  ·exact (Lt.refl aJ).mono oM
  split
  ·exact Lt.jS aJ
  rename_i h;obtain ⟨e, he⟩ := zT (by simpa using h);rw [he];exact Lt.mb f (k + 1) { s with e := e } aJ
theorem RO {k : Nat} {s : Ct} (h : s.at_ < s.up.items.length) (hc : s.ch.items.length <= 8) : (jS k s).2.at_ < (jS k s).2.up.items.length /\ (jS k s).2.up.items.length <= s.up.items.length := by
 unfold jS;split
 ·unfold eY;split
  ·exact ⟨h, eW _⟩
  simp only;split
  ·exact ⟨h, eW _⟩
  simp only [qC]; exact ⟨h, eW _⟩
 ·unfold fY;split
  ·exact ⟨h, eW _⟩
  simp only;split
  ·exact ⟨h, eW _⟩
  simp only [l9, aP, R2]; exact ⟨h, eW _⟩
 ·unfold eJ;split
  ·exact ⟨h, eW _⟩
  rename_i h1;simp only [F1, cj, fK, iC];omega
 unfold fG;split
 ·exact ⟨h, eW _⟩
 rename_i h1;simp only [F1, aP, cj, fK, iC, R2];omega
theorem Me : ∀ (f k : Nat) (s : Ct), s.at_ < s.up.items.length -> s.ch.items.length <= 8 -> (mb f k s).at_ < (mb f k s).up.items.length /\ (mb f k s).up.items.length <= s.up.items.length
 | 0, _, s, h, _ => ⟨h, eW _⟩
 | f + 1, k, s, h, hc => by
  rw [mb];split
  ·exact ⟨h, eW _⟩
  split
  ·exact RO h hc
  rename_i h2;obtain ⟨e, he⟩ := zT (by simpa using h2);rw [he];exact Me f (k + 1) { s with e := e } h hc
section
variable {G : Gh} {L R : List az} {w : World}
theorem TC {k : Nat} {vq wq sq : Nat} {s : Ct} (hw : ar G (D7 vq wq sq s :: L) w) (aJ : s.V.Ok) (dm : s.V.sz <= 999999999900) (oY : s.at_ < s.up.items.length) (LP : s.up.items.length <= 8) (O8 : s.ch.items.length <= 8) :
  Calls prog (Mf k) #[pQ wq, pQ sq] w (dv fun r w' => r = .bool (jS k s).1 /\ ar G (D7 vq wq sq (jS k s).2 :: L) w') := by
 unfold Mf jS;split
 ·exact wL hw aJ dm oY LP O8
 ·exact xY hw aJ dm oY LP O8
 ·exact wK hw aJ dm oY LP O8
 exact xX hw aJ dm oY LP O8
theorem QP (k : Nat) : aw prog (Mf k) := by
 unfold Mf;split
 ·exact vp
 ·exact wY
 ·exact vn
 exact wX
abbrev Ra (k : Nat) : Value := .func (.func (Mf k)) #[] #[]
abbrev KG : List Value := [Ra 0, Ra 1, Ra 2, Ra 3]
theorem DI {vq wq sq : Nat} {s : Ct} (hw : ar G (D7 vq wq sq s :: L) w) (aJ : s.V.Ok) (dm : s.V.sz <= 999999999900) (oY : s.at_ < s.up.items.length) (LP : s.up.items.length <= 8) (O8 : s.ch.items.length <= 8) :
  Calls prog 124 #[pQ wq, pQ sq] w (dv fun r w' => r = .tuple #[] /\ ar G (D7 vq wq sq (kB s) :: L) w') := by
 refine al (args := [_, _]) func124 rfl ntmps124 rfl rfl ?_;refine z2 ?_;refine aQ (v := .agg #[Ra 0]) rfl rfl (fun w => kR) ?_;refine aQ (v := .agg #[Ra 1]) rfl rfl (fun w => kR) ?_;refine aQ (v := .agg #[Ra 2]) rfl rfl (fun w => kR) ?_;refine aQ (v := .agg #[Ra 3]) rfl rfl (fun w => kR) ?_;refine aQ (v := gQ KG) rfl rfl (fun w => kR) ?_;refine aN rfl Bf hw rfl fun w b4 hw => ?_;refine aL (cs := KG) (l' := KG) rfl tV rfl rfl pL rfl (by intro u hu; simp at hu; rcases hu with rfl | rfl | rfl | rfl <;> rfl) hw pK sM rfl rfl (fun w hw => ?_);refine z3 ?_;refine lA (l := KG) pL hw ?_;refine z3 ?_;replace hw := (hw.b [ag b4 _ _]).tail;refine cO (fun m e w => ∃ (k f : Nat) (s' : Ct), k + f = 4 /\ m = f + 1 /\ e = [(0, pQ wq), (1, pQ sq), (12, gQ KG), (13, iQ k)] /\ (kB s = mb f k s' /\ ∃ er, s' = { s with e := er }) /\ ar G (D7 vq wq sq s' :: L) w)
  (m := 5) sB
  ⟨0, 4, s, rfl, rfl, rfl, ⟨rfl, s.e, rfl⟩, hw⟩ ?_
 rintro m e w ⟨k, f, s', IC, rfl, rfl, ⟨Tg, er, MQ⟩, hw⟩;refine z5 ?_;refine aS rfl (fun h1 => ?_) fun h1 => ?_
 ·
  obtain ⟨f, rfl⟩ : ∃ g, f = g + 1 := ⟨f - 1, oM⟩;rw [mb] at Tg;have Hb : s'.V.Ok := by rw [MQ]; exact aJ
  have abM : s'.V.sz <= 999999999900 := by rw [MQ]; exact dm
  have YO : s'.at_ < s'.up.items.length := by rw [MQ]; exact oY
  have abH : s'.up.items.length <= 8 := by rw [MQ]; exact LP
  have acr : s'.ch.items.length <= 8 := by rw [MQ]; exact O8
  refine z5 ?_;refine Z3 (us := [Ra k]) rfl Cj Eo kR kR rfl rfl ⟨oM, oM⟩ (by rcases (show k = 0 \/ k = 1 \/ k = 2 \/ k = 3 by omega) with rfl | rfl | rfl | rfl <;> rfl) ?_;refine aN rfl GW hw rfl fun w b6 hw => ?_;refine aL (cs := [Ra k]) (l' := [Ra k]) rfl tV rfl rfl BC rfl (by intro u hu; simp at hu; subst hu; rfl) hw pK sM rfl rfl (fun w hw => ?_);obtain ⟨up, ch, xr, sg, tB, iu, hw⟩ := nI (hw.b [D7 vq wq sq s']);refine z6 ?_;refine lD (v := iQ s'.e) aD hw ?_;refine z2 ?_;refine aE (d := 21) rfl (fun h2 => ?_) fun h2 => ?_
  ·
   refine z7 ?_;refine eg rfl ?_;refine rm ?_;exact j7 rfl rfl (by
 rw [Tg, ah h2];exact ⟨rfl, (ix xr sg tB iu hw |> fun hz => (hz.b [ag b6 _ _, D7 vq wq sq s']).tail)⟩)
  have hz := ix xr sg tB iu hw;refine z1 ?_;refine lD (v := Ra k) mW hw ?_;refine z2 ?_;refine iN rfl rfl (QP k) rfl rfl (TC (k := k) (s := s') hz Hb abM YO abH acr) rfl fun w v26 hv => ?_;obtain ⟨rfl, hw⟩ := hv;rw [ae h2] at Tg;refine z2 ?_;refine fm rfl (fun h3 => ?_) fun h3 => ?_
  ·
   refine rm ?_;exact j7 rfl rfl (by
 rw [Tg, ah h3];exact ⟨rfl, (hw.b [ag b6 _ _, D7 vq wq sq _]).tail⟩)
  refine z5 ?_;rw [ae (by rw [h3]; decide)] at Tg;obtain ⟨e2, sg⟩ := zT h3;exact ⟨f + 1, oM, [(0, _), (1, _), (12, _), (13, iQ (k + 1 : Nat))], sB, k + 1, f, (jS k s').2, oM, rfl, rfl, ⟨Tg, e2, by rw [sg, MQ]⟩, (hw.b [ag b6 _ _, D7 vq wq sq _]).tail⟩
 refine z1 ?_;exact j7 rfl rfl (by
 have hf0 : f = 0 := oM;subst hf0;rw [Tg, mb];exact ⟨rfl, hw⟩)
end
structure Cd where
 V : Va
 e : Int
 T : Tr
 n : Int
 p : Pg
def cU (key : bN) (d : Cd) : Int × Ct :=
 let a := de key d.p.items
 let h := uJ d.V d.e (bh d.p.items a)
 let q := px h.2.2 h.2.1 h.1
 (h.1, ⟨h.2.2, q.2, { d.p with items := aP d.p.items a h.1 }, a, q.1⟩)
def eV (x : Int) (u : Ct) : Bool × Int × Ct :=
 if u.e = 0 /\ u.ch.items.length = 4 then
  let s := kB u
  if s.e ≠ 0 then (true, 0, s) else
  let c := bh s.up.items s.at_
  let z := vC s.V s.e c s.ch
  (false, c, { s with V := z.2, e := z.1 })
 else (false, x, u)
def fR (d : Cd) (x : Int) (u : Ct) : Cd :=
 if d.n = d.T.root /\ u.up.items.length = 1 then
  let t := xE u.V u.e d.n
  ⟨t.2.2, t.2.1, ⟨x, d.T.aK - 1, d.T.items⟩, x, u.ch⟩
 else
  let z := vC u.V u.e d.n u.up
  ⟨z.2, z.1, d.T, x, u.ch⟩
def jr (key : bN) : Nat -> Cd -> Option Cd
 | 0, _ => none
 | f + 1, d => if ¬ (d.e = 0 /\ d.p.kind = 2) then some d else
  if (eV (cU key d).1 (cU key d).2).1 = true then some ⟨(eV (cU key d).1 (cU key d).2).2.2.V, (eV (cU key d).1 (cU key d).2).2.2.e, d.T, 0, bI.pg⟩ else
  jr key f (fR d (eV (cU key d).1 (cU key d).2).2.1 (eV (cU key d).1 (cU key d).2).2.2)
theorem Bx {V : Va} (aJ : V.Ok) {e n : Int} (h : (px V e n).2 = 0) : e = 0 /\ V.rd n = some (px V e n).1 /\ bD (px V e n).1 = 0 := by
 unfold px at h ⊢;split at h
 ·rename_i he; exact absurd h he
 rename_i he;rw [ae he];cases hr : V.rd n with
 | none => rw [hr] at h; cases h
 | some p => exact ⟨cJ.1 he, rfl, EG aJ hr⟩
theorem KE {V : Va} {e n : Int} {p : Pg} (h : (vC V e n p).1 = 0) : e = 0 /\ (V.write n p).1 = 0 /\ (vC V e n p).2 = (V.write n p).2 := by
 unfold vC at h ⊢;split at h
 ·rename_i he; exact absurd h he
 rename_i he; rw [ae he]; exact ⟨cJ.1 he, h, rfl⟩
theorem qz {V : Va} {n : Int} {p : Pg} (h : (V.write n p).1 = 0) : V.own n /\ bD p = 0 /\ (V.write n p).2 = V.done (V.Oj n p) := by
 unfold Va.write at h ⊢;split at h
 ·cases h
 rename_i h1;have h1 := cJ.1 h1;split at h
 ·rename_i h2; exact absurd h h2
 rename_i h2;rw [ae (not_not_intro h1), ae h2];exact ⟨h1, cJ.1 h2, rfl⟩
theorem vE {V : Va} {e n : Int} (h : (xE V e n).2.1 = 0) : e = 0 /\ (V.take n).2.1 = 0 /\ xE V e n = V.take n := by
 unfold xE at h ⊢;split at h
 ·rename_i he; exact absurd h he
 rename_i he; rw [ae he]; exact ⟨cJ.1 he, h, rfl⟩
theorem Al {d : Cd} {x : Int} {u : Ct} (h : (fR d x u).e = 0) : u.e = 0 := by
 unfold fR at h;split at h
 ·exact (vE h).1
 exact (KE h).1
theorem EZ (d : Cd) (x : Int) (u : Ct) : (fR d x u).p = u.ch /\ (fR d x u).n = x /\ d.T.aK - 1 <= (fR d x u).T.aK /\ (fR d x u).T.aK <= d.T.aK /\ (fR d x u).T.items = d.T.items := by
 unfold fR;split
 ·exact ⟨rfl, rfl, lV _, by simp only; omega, rfl⟩
 exact ⟨rfl, rfl, by simp only; omega, lV _, rfl⟩
theorem Lt.full {x : Int} {u : Ct} (aJ : u.V.Ok) : Lt u.V 26 (eV x u).2.2.V := by
 unfold eV;split
 ·simp only;have h := Lt.mb 4 0 u aJ;split
  ·exact h.mono oM
  exact h.trans (Lt.vC h.ok _ _ _)
 exact (Lt.refl aJ).mono oM
theorem Fv {x : Int} {u : Ct} (aJ : u.V.Ok) (hc : u.e = 0 -> bD u.ch = 0) (h : (eV x u).2.2.e = 0) (hs : (eV x u).1 = false) : bD (eV x u).2.2.ch = 0 := by
 unfold eV at h hs ⊢;split at h
 ·rename_i h1;rw [ah h1] at hs ⊢;simp only at h hs ⊢
  split at h
  ·rename_i h2; exact absurd h h2
  rename_i h2;rw [ae h2];exact (qz (KE h).2.1).2.1
 rename_i h1;rw [ae h1];exact hc h
theorem Lt.spot {key : bN} {d : Cd} (aJ : d.V.Ok) : Lt d.V 13 (cU key d).2.V := Lt.uJ aJ _ _
theorem Lt.leaves {d : Cd} {x : Int} {u : Ct} (aJ : u.V.Ok) : Lt u.V 11 (fR d x u).V := by
 unfold fR;split
 ·exact Lt.xE aJ _ _
 exact (Lt.vC aJ _ _ _).mono oM
theorem Es {key : bN} {d : Cd} (aJ : d.V.Ok) (h : (cU key d).2.e = 0) : bD (cU key d).2.ch = 0 := (Bx (Lt.uJ aJ _ _).ok h).2.2
theorem Lt.jr {key : bN} : ∀ {f : Nat} {d r : Cd}, d.V.Ok -> X.jr key f d = some r -> Lt d.V (60 * f) r.V
 | 0, _, _, _, h => by cases h
 | f + 1, d, r, aJ, h => by
  rw [X.jr] at h;have h1 := Lt.spot (key := key) aJ;have h2 := Lt.full (x := (cU key d).1) h1.ok;split at h
  ·cases h; exact (Lt.refl aJ).mono oM
  split at h
  ·cases h;exact (h1.trans h2).mono oM
  have h3 := Lt.leaves (d := d) (x := (eV (cU key d).1 (cU key d).2).2.1) h2.ok;exact (((h1.trans h2).trans h3).trans (Lt.jr h3.ok h)).mono oM
theorem tO {key : bN} {l : List It} (h : 1 <= l.length) : de key l < l.length := by
 unfold de;have := Bv key (l.drop 1) 1 oM;rw [iC] at this; omega
section
variable {G : Gh} {L R : List az} {w : World}
theorem DJ {vq wq tq f : Nat} {V : Va} {e0 n : Int} {T : Tr} {key : bN} {kv : Value} {res : Cd} (hw : ar G (aZ vq V :: ag wq (l8 vq e0) 148 :: ag tq (aC T) 62 :: L) w) (aJ : V.Ok) (dm : V.sz + 60 * f <= 999999999800) (hh : f <= 1000000 + T.aK /\ T.aK <= 1000000) (kk : aX L (kL kv key)) (bQ : jr key f ⟨V, (px V e0 n).2, T, n, (px V e0 n).1⟩ = some res) :
  Calls prog 68 #[pQ wq, pQ tq, iQ n, kv] w (dv fun r w' => ∃ p : bm, r = .tuple #[iQ res.n, gQ p.cells] /\ p.pg = res.p /\ p.Sm /\ ar G (aR p :: aZ vq res.V :: ag wq (l8 vq res.e) 148 :: ag tq (aC res.T) 62 :: L) w') := by
 refine al (args := [_, _, _, _]) func68 rfl ntmps68 rfl rfl ?_;refine z3 ?_;refine aN rfl bf hw rfl fun w b9 hw => ?_;refine z5 ?_;refine an rfl gg rfl (gG (n := n) (hw.b [aZ vq V, ag wq _ _]) aJ) rfl fun w Uv hv => ?_;obtain ⟨p0, rfl, S4, aaA, hw⟩ := hv;have ho0 := cF (aB aaA pK) hw;refine aN rfl bf hw rfl fun w qk hw => ?_;refine aL (cs := p0.cells) (l' := p0.cells) rfl tV rfl rfl ad rfl ho0 hw pK (by simp [bm.cells]) rfl rfl fun w hw => ?_;refine z3 ?_;have hz := hw.b [aR p0, ag qk _ _, ag b9 _ _, aZ vq V, ag wq _ _, ag tq _ _];refine cO (fun m e w => ∃ (k : Nat) (Y : Cd) (p : bm), m = k + 1 /\ e = [(0, pQ wq), (1, pQ tq), (2, iQ Y.n), (3, kv), (9, pQ b9), (10, pQ qk)] /\ (Y.V.Ok /\ Y.V.sz + 60 * k <= 999999999800 /\ (k <= 1000000 + Y.T.aK /\ Y.T.aK <= 1000000) /\ p.pg = Y.p /\ p.Sm /\ (Y.e = 0 -> bD Y.p = 0) /\ jr key k Y = some res) /\ ar G (aR p :: ag qk p.cells 75 :: ag b9 bI.cells 75 :: aZ vq Y.V :: ag wq (l8 vq Y.e) 148 :: ag tq (aC Y.T) 62 :: L) w)
  (m := f + 1) sB
  ⟨f, ⟨V, (px V e0 n).2, T, n, (px V e0 n).1⟩, p0, rfl, rfl, ⟨aJ, by simp only; omega, hh, S4, aaA, fun h => (Bx aJ h).2.2, bQ⟩, hz⟩ ?_
 rintro m e w ⟨k, Y, p, rfl, rfl, ⟨GM, hys, hyh, Q2, ft, JG, G7⟩, hw⟩;refine z6 ?_;refine lD (v := iQ Y.e) aD hw ?_;refine z2 ?_;refine bY (l1 := [6, 7, 8, 9]) (l2 := []) rfl (d := 25) (Y.e = 0 /\ p.kind = 2) rfl ?_ ?_
 ·
  refine aE (d := 21) rfl (fun h1 => ?_) fun h1 => ?_
  ·
   refine z1 ?_;refine lD (v := iQ p.kind) ai hw ?_;refine z3 ?_;refine cQ ?_;exact dC
  refine z5 ?_;refine cQ ?_;exact dC
 refine aH ?_;refine aS rfl (fun h2 => ?_) fun h2 => ?_
 ·
  obtain ⟨k, rfl⟩ : ∃ g, k = g + 1 := by
   cases k with
   | zero => rw [jr] at G7; cases G7
   | succ g => exact ⟨g, rfl⟩
  have iX : Y.e = 0 /\ Y.p.kind = 2 := ⟨h2.1, by rw [<-Q2]; exact h2.2⟩;rw [jr, ae (not_not_intro iX)] at G7;have tD := JG h2.1;have gJ := ji tD;obtain ⟨-, Vv, MX, hf3⟩ := gJ;have Zx := MX iX.2
  (try unfold sQ at Zx); rw [<-Q2] at Zx
  have kA : p.pg.items.length = p.l.length := by simp [bm.pg]
  have CT : de key p.pg.items < p.pg.items.length := tO oM;obtain ⟨a, ha⟩ : ∃ a, a = de key p.pg.items := ⟨_, rfl⟩
  (try unfold sQ at CT); rw [<-ha] at CT
  obtain ⟨x, hx⟩ : ∃ x, p.l[a]? = some x := ⟨_, cV oM⟩;have LL := ft.it x (ed hx);obtain ⟨ib, ic, hs⟩ := qF hw (p := p) pK oM;refine z3 ?_;refine bu [0, 1, 2, 3, 4, 5, 6] bK kR ?_;replace hw := hw.drawn (w.drawn + 1);refine lA (l := p.cells) ad hw ?_;refine lA (l := p.cells) ad hw ?_;refine z1 ?_;refine dL rfl nO rfl (oK (p := p) (key := key) hw (aB ft pK) (kk.of sF)) (fun w TU hv q' hq => ?_) fun w TU hv => ?_
  ·
   obtain ⟨rfl, hw⟩ := hv;have hq := a9 (l := [0]) kR hq;simp only [bB, cW, or_false] at hq;subst hq;exact aV rfl rfl rfl (aj.cw (l := p.cells) ad hw pK rfl)
  obtain ⟨rfl, hw⟩ := hv;rw [<-ha];refine aQ (v := gQ (iB p a bI)) rfl rfl (fun w => kR) ?_;refine bE rfl rfl rfl hw kR fun w HO hw => ?_;refine z6 ?_;refine an rfl dZ rfl (eC (up := p) (ch := bI) (at_ := a) (k := 0) (j := a) (hw.b [ag HO _ _]) (aB ft pK) oM oM oM oM) rfl fun w Zi hv => ?_;obtain ⟨rfl, hw⟩ := hv;refine an rfl iz rfl (iS (n := bh p.pg.items a) (hw.b [aZ vq _, ag wq _ _]) GM oM) rfl fun w Wi hv => ?_;obtain ⟨rfl, hw⟩ := hv;have Fh := Lt.uJ GM Y.e (bh p.pg.items a);obtain ⟨h, Qv⟩ : ∃ h, h = uJ Y.V Y.e (bh p.pg.items a) := ⟨_, rfl⟩;rw [<-Qv] at hw Fh;rw [<-Qv];have q8 := Fh.ok;have T0 := Fh.sz;refine z3 ?_;refine bu [0, 1, 2, 3, 4, 5, 6, 7, 8, 9, 10, 11, 12] bK kR ?_;replace hw := hw.drawn (w.drawn + 1);refine z3 ?_;refine cy rfl dE rfl ?_;refine bt rfl rfl (aj.bx (v := .slice (some ⟨ib, 0, none⟩) p.l.length ic) ao hw pK (by first | exact congrArg some hs | (rw [<-hs]; rfl))) ?_;refine z3 ?_;refine lD (v := iQ a) ai hw ?_;refine z1 ?_;refine dD rfl aG aY rfl rfl ⟨oM, oM⟩ ?_;refine cy rfl gm rfl ?_;refine Bg (p := p) (k := a) (c := h.1) (z := x) rfl tV rfl rfl ai hw pK hs hx oM kR fun w hw => ?_;have u5 : bm.Sm { p with l := p.l.set a ⟨{ x.it with child := h.1 }, x.kv, x.vv⟩ } := ft.set LL.1 LL.2;have JH : bm.pg { p with l := p.l.set a ⟨{ x.it with child := h.1 }, x.kv, x.vv⟩ } = { p.pg with items := aP p.pg.items a h.1 } := by
   rw [gS h.1 (x := x.it) (by show (p.l.map bT.it)[_]? = _; rw [dB, hx]; rfl)];simp [bm.pg, tS]
  have NF : (bm.l { p with l := p.l.set a ⟨{ x.it with child := h.1 }, x.kv, x.vv⟩ }).length = p.l.length := by simp
  have SU : iB p a bI = iB { p with l := p.l.set a ⟨{ x.it with child := h.1 }, x.kv, x.vv⟩ } a bI := rfl;rw [SU] at hw;obtain ⟨dF, SS⟩ : ∃ u : bm, u = { p with l := p.l.set a ⟨{ x.it with child := h.1 }, x.kv, x.vv⟩ } := ⟨_, rfl⟩;rw [<-SS] at u5 JH NF hw
  refine z6 ?_;refine an rfl gg rfl (gG (n := h.1) (hw.b [aZ vq _, ag wq _ _]) q8) rfl fun w Zf hv => ?_;obtain ⟨u4, rfl, Qp, OY, hw⟩ := hv;have MR := DV q8 h.2.1 h.1;obtain ⟨q, hq⟩ : ∃ q, q = px h.2.2 h.2.1 h.1 := ⟨_, rfl⟩;rw [<-hq] at hw Qp MR;have ab2 := cF (aB OY pK) hw;obtain ⟨i51, c51, abP⟩ := OY.form hw pK;have aca : u4.pg.items.length = u4.l.length := by simp [bm.pg]
  rw [Qp] at aca;have tC : cU key Y = (h.1, ⟨h.2.2, q.2, dF.pg, a, u4.pg⟩) := by
   unfold cU;simp only;rw [<-Q2, <-ha, <-Qv, <-hq, JH, Qp]
  have X2 := fun h => Es (key := key) GM h
  rw [tC] at G7 X2;simp only at G7 X2
  refine z2 ?_;refine aL (cs := u4.cells) (l' := iB dF a u4) rfl tV rfl rfl ad rfl ab2 hw pK sM rfl rfl fun w hw => ?_;refine aH ?_;refine mZ (fun e w => ∃ (y : Int) (u : Ct), e = [(0, pQ wq), (1, pQ tq), (2, iQ Y.n), (3, kv), (9, pQ b9), (10, pQ qk), (11, pQ HO), (12, iQ y)] /\ eV h.1 ⟨h.2.2, q.2, dF.pg, a, u4.pg⟩ = (false, y, u) /\ ar G (D7 vq wq HO u :: ag qk p.cells 75 :: ag b9 bI.cells 75 :: ag tq (aC Y.T) 62 :: L) w) ?_ ?_
  ·
   refine z5 ?_;refine lD (v := iQ q.2) aD hw ?_;refine z2 ?_;refine bY (l1 := [6, 7, 8, 9, 10, 11, 12, 13]) (l2 := []) rfl (d := 67) (q.2 = 0 /\ q.1.items.length = 4) rfl ?_ ?_
   ·
    refine aE (d := 59) rfl (fun h3 => ?_) fun h3 => ?_
    ·
     refine z1 ?_;refine C3 rfl rfl ?_;refine z1 ?_;refine cy rfl dE rfl ?_;refine bt rfl rfl (aj.bx (v := .slice i51 u4.l.length c51) ao hw pK (by first | exact congrArg some abP | (rw [<-abP]; rfl))) ?_;refine dQ rfl kR aG rfl ?_;refine z3 ?_;refine cQ ?_;exact dC
    refine z9 ?_;refine cQ ?_;exact dC
   refine aH ?_;refine aS rfl (fun h4 => ?_) fun h4 => ?_
   ·
    have hct := ix (s := ⟨h.2.2, q.2, dF.pg, a, u4.pg⟩) (up := dF) (ch := u4) rfl rfl u5 OY (hw.b [aZ vq _, ag wq _ _, ag HO _ _, aR dF, aR u4]);have abI : dF.pg.items.length = dF.l.length := by simp [bm.pg]
    have Yi : u4.pg.items.length <= 8 := by rw [Qp]; exact MR
    refine z4 ?_;refine an rfl Cc rfl (DI hct q8 (by simp only; omega) (by simp only; omega) (by simp only; omega) (by simp only; omega)) rfl (fun w v70 hv => ?_);obtain ⟨rfl, hw⟩ := hv;have ud := Lt.mb 4 0 ⟨h.2.2, q.2, dF.pg, a, u4.pg⟩ q8;have hfa := Me 4 0 ⟨h.2.2, q.2, dF.pg, a, u4.pg⟩ (by simp only; omega) (by simp only; omega);have hfd : mb 4 0 ⟨h.2.2, q.2, dF.pg, a, u4.pg⟩ = kB ⟨h.2.2, q.2, dF.pg, a, u4.pg⟩ := rfl;rw [hfd] at ud hfa;have Qw : ∀ y, eV y ⟨h.2.2, q.2, dF.pg, a, u4.pg⟩ = if (kB ⟨h.2.2, q.2, dF.pg, a, u4.pg⟩).e ≠ 0 then (true, 0, kB ⟨h.2.2, q.2, dF.pg, a, u4.pg⟩) else (false, bh (kB ⟨h.2.2, q.2, dF.pg, a, u4.pg⟩).up.items (kB ⟨h.2.2, q.2, dF.pg, a, u4.pg⟩).at_, { kB ⟨h.2.2, q.2, dF.pg, a, u4.pg⟩ with V := (vC (kB ⟨h.2.2, q.2, dF.pg, a, u4.pg⟩).V (kB ⟨h.2.2, q.2, dF.pg, a, u4.pg⟩).e (bh (kB ⟨h.2.2, q.2, dF.pg, a, u4.pg⟩).up.items (kB ⟨h.2.2, q.2, dF.pg, a, u4.pg⟩).at_) (kB ⟨h.2.2, q.2, dF.pg, a, u4.pg⟩).ch).2, e := (vC (kB ⟨h.2.2, q.2, dF.pg, a, u4.pg⟩).V (kB ⟨h.2.2, q.2, dF.pg, a, u4.pg⟩).e (bh (kB ⟨h.2.2, q.2, dF.pg, a, u4.pg⟩).up.items (kB ⟨h.2.2, q.2, dF.pg, a, u4.pg⟩).at_) (kB ⟨h.2.2, q.2, dF.pg, a, u4.pg⟩).ch).1 }) := fun y => ah ⟨h4.1, by rw [Qp]; exact h4.2⟩
    obtain ⟨z, XN⟩ : ∃ z, z = kB ⟨h.2.2, q.2, dF.pg, a, u4.pg⟩ := ⟨_, rfl⟩;rw [<-XN] at hw ud hfa;rw [<-XN] at Qw
    simp only at ud hfa;have L0 := ud.ok;have Tf := ud.sz;obtain ⟨Ol, QO, xr, sg, LO, Vz, hw⟩ := nI hw;refine z7 ?_;refine lD (v := iQ z.e) aD hw ?_;refine z2 ?_;refine aS rfl (fun h5 => ?_) fun h5 => ?_
    ·
     refine z2 ?_;refine aQ (v := gQ bI.cells) rfl rfl (fun w => kR) ?_;refine z1 ?_;refine aL (cs := bI.cells) (l' := bI.cells) rfl tV rfl rfl ad rfl bF hw pK (by simp [bI, bm.cells]) rfl rfl fun w hw => ?_;refine z2 ?_;refine eK rfl rfl rfl ⟨_, rfl, (aj.cw (l := bI.cells) ad hw pK rfl)⟩ ?_;rw [Qw, ah h5] at G7;cases G7;refine ⟨bI, rfl, rfl, tU, ns ?_⟩;have hz := (hw.b [ag HO _ _, aR Ol, aR QO, ag b9 _ _, ag qk _ _]).tail.tail.tail.tail.tail;have hz := hz.b [aZ vq _, ag wq _ _, ag tq _ _];exact hz
    have adb : Ol.pg.items.length = Ol.l.length := by simp [bm.pg]
    refine z4 ?_;refine an rfl dZ rfl (eC (up := Ol) (ch := QO) (at_ := z.at_) (k := 0) (j := z.at_) (hw.b [ag HO _ _]) (aB LO pK) oM oM oM (by rw [xr]; omega)) rfl (fun w v78 hv => ?_);obtain ⟨rfl, hw⟩ := hv;refine z8 ?_;refine bt rfl rfl (aj.many (cs := QO.cells) ad rfl (Rd.gN (l := iB Ol z.at_ QO) (o := 6) hw pK)) ?_;refine an rfl iU rfl (jJ (n := bh Ol.pg.items z.at_) (e := z.e) (p := QO) (hw.b [aZ vq _, ag wq _ _]) L0 oM (aB Vz pK)) rfl fun w v85 hv => ?_;obtain ⟨rfl, hw⟩ := hv;rw [xr, sg] at hw;rw [xr];refine aH ?_;rw [ae h5] at Qw
    have hz := hw.b [aZ vq _, ag wq _ _, ag HO _ _, aR Ol, aR QO];have hz := ix (s := { z with V := (vC z.V z.e (bh z.up.items z.at_) z.ch).2, e := (vC z.V z.e (bh z.up.items z.at_) z.ch).1 }) (up := Ol) (ch := QO) xr sg LO Vz hz;have hz := hz.b [D7 vq wq HO _, ag qk _ _, ag b9 _ _, ag tq _ _];exact ⟨[(0, _), (1, _), (2, _), (3, _), (9, _), (10, _), (11, _), (12, _)], sB, _, _, rfl, Qw _, hz⟩
   refine eH ?_;exact ⟨[(0, _), (1, _), (2, _), (3, _), (9, _), (10, _), (11, _), (12, _)], sB, _, _, rfl, ae (fun hc => h4 ⟨hc.1, by rw [<-Qp]; exact hc.2⟩), (ix (s := ⟨h.2.2, q.2, dF.pg, a, u4.pg⟩) (up := dF) (ch := u4) rfl rfl u5 OY (hw.b [aZ vq _, ag wq _ _, ag HO _ _, aR dF, aR u4])).b [D7 vq wq HO _, ag qk _ _, ag b9 _ _, ag tq _ _]⟩
  clear hw;rintro e w ⟨y, u, rfl, Qw, hw⟩;rw [Qw, ae Bool.false_ne_true] at G7;simp only at G7
  have huf := Lt.full (x := h.1) (u := ⟨h.2.2, q.2, dF.pg, a, u4.pg⟩) q8;have huc := Fv (x := h.1) (u := ⟨h.2.2, q.2, dF.pg, a, u4.pg⟩) q8 X2;rw [Qw] at huf huc;simp only at huf huc
  have huo := huf.ok;have tB := huf.sz;have hle := EZ Y y u;have oF := Lt.leaves (d := Y) (x := y) huo;have S9 := oF.sz;have IB : (fR Y y u).e = 0 -> bD (fR Y y u).p = 0 := fun h => by rw [hle.1]; exact huc (Al h) trivial
  obtain ⟨RG, QN, hu3, Ud, aar, Vy, hw⟩ := nI hw;have ada : RG.pg.items.length = RG.l.length := by simp [bm.pg]
  have ho3 := cF (aB Vy pK) hw;obtain ⟨i3, c3, hs3⟩ := aar.form hw pK;refine z7 ?_;refine lD (v := iQ Y.T.root) ai hw ?_;refine z2 ?_;refine bY (l1 := [7, 8, 9, 10, 11, 12, 13, 14]) (l2 := []) rfl (d := 100) (Y.n = Y.T.root /\ RG.l.length = 1) rfl ?_ ?_
  ·
   refine aE (d := 92) rfl (fun h6 => ?_) fun h6 => ?_
   ·
    refine z1 ?_;refine C3 rfl rfl ?_;refine z1 ?_;refine cy rfl dE rfl ?_;refine bt rfl rfl (aj.bx (v := .slice i3 RG.l.length c3) ao hw pK (by first | exact congrArg some hs3 | (rw [<-hs3]; rfl))) ?_;refine dQ rfl kR aG rfl ?_;refine z3 ?_;refine cQ ?_;exact dC
   refine z9 ?_;refine cQ ?_;exact dC
  refine aH ?_;refine aS rfl (fun h7 => ?_) fun h7 => ?_
  ·
   refine z4 ?_;refine an rfl lK rfl (mj (n := Y.n) (hw.b [aZ vq _, ag wq _ _]) huo oM) rfl fun w ac6 hv => ?_;obtain ⟨abt, rfl, -, -, hw⟩ := hv;refine z8 ?_;refine lD (v := iQ Y.T.aK) ai hw ?_;refine z3 ?_;refine bS (l' := aC ⟨y, Y.T.aK, Y.T.items⟩) rfl tV rfl rfl ai rfl hw pK rfl rfl rfl fun w hw => ?_;refine z2 ?_;refine bS (l' := aC ⟨y, Y.T.aK - 1, Y.T.items⟩) rfl tV rfl rfl ai rfl hw pK rfl rfl rfl fun w hw => ?_;refine aH ?_;refine bu [0, 1, 2, 3, 4, 5, 6] bK kR ?_;replace hw := hw.drawn (w.drawn + 1);refine z4 ?_;refine bt rfl rfl (aj.many (cs := QN.cells) ad rfl (Rd.gN (l := iB RG u.at_ QN) (o := 6) hw pK)) ?_;refine z1 ?_;refine aL (cs := QN.cells) (l' := QN.cells) rfl tV rfl rfl ad rfl ho3 hw pK (by simp [bm.cells]) rfl kR fun w hw => ?_;refine aH ?_;have LW : fR Y y u = ⟨(xE u.V u.e Y.n).2.2, (xE u.V u.e Y.n).2.1, ⟨y, Y.T.aK - 1, Y.T.items⟩, y, u.ch⟩ := ah ⟨h7.1, by rw [<-hu3]; omega⟩;rw [LW] at G7 hle S9 oF IB;refine ⟨k + 1, oM, [(0, _), (1, _), (2, _), (3, _), (9, _), (10, _)], sB, k, _, QN, rfl, rfl, ⟨oF.ok, oM, by simp only; omega, Ud, Vy, IB, G7⟩, ?_⟩;have hz := (hw.b [aR abt, ag HO _ _, aR RG]).tail.tail.tail;exact hz.b [aR QN, ag qk _ _, ag b9 _ _, aZ vq _, ag wq _ _, ag tq _ _]
  refine z6 ?_;refine bt rfl rfl (aj.many (cs := RG.cells) ad rfl ((Rd.gN (l := iB RG u.at_ QN) (o := 0) hw pK).take 5)) ?_;refine an rfl iU rfl (jJ (n := Y.n) (e := u.e) (p := RG) (hw.b [aZ vq _, ag wq _ _]) huo oM (aB aar pK)) rfl fun w ac2 hv => ?_;obtain ⟨rfl, hw⟩ := hv;rw [hu3] at hw;refine aH ?_;refine bu [0, 1, 2, 3, 4, 5, 6] bK kR ?_;replace hw := hw.drawn (w.drawn + 1);refine z4 ?_;refine bt rfl rfl (aj.many (cs := QN.cells) ad rfl (Rd.gN (l := iB RG u.at_ QN) (o := 6) hw pK)) ?_;refine z1 ?_;refine aL (cs := QN.cells) (l' := QN.cells) rfl tV rfl rfl ad rfl ho3 hw pK (by simp [bm.cells]) rfl kR fun w hw => ?_;refine aH ?_;have LW : fR Y y u = ⟨(vC u.V u.e Y.n u.up).2, (vC u.V u.e Y.n u.up).1, Y.T, y, u.ch⟩ := ae (fun hc => h7 ⟨hc.1, by (try unfold sQ at hc); rw [<-hu3] at hc; omega⟩);rw [LW] at G7 hle S9 oF IB
  refine ⟨k + 1, oM, [(0, _), (1, _), (2, _), (3, _), (9, _), (10, _)], sB, k, _, QN, rfl, rfl, ⟨oF.ok, oM, by simp only; omega, Ud, Vy, IB, G7⟩, ?_⟩;have hz := (hw.b [ag HO _ _, aR RG]).tail.tail;exact hz.b [aR QN, ag qk _ _, ag b9 _ _, aZ vq _, ag wq _ _, ag tq _ _]
 refine z2 ?_;refine bu [0, 1, 2, 3] bK kR ?_;replace hw := hw.drawn (w.drawn + 1);refine z1 ?_;refine lA (l := p.cells) ad hw ?_;refine z1 ?_;refine aL (cs := p.cells) (l' := p.cells) rfl tV rfl rfl ad rfl (cF (aB ft pK) hw) hw pK (by simp [bI, bm.cells]) rfl kR fun w hw => ?_;refine z2 ?_;refine eK rfl rfl rfl ⟨_, rfl, (aj.cw (l := p.cells) ad hw pK rfl)⟩ ?_;obtain ⟨k, rfl⟩ : ∃ g, k = g + 1 := by
  cases k with
  | zero => rw [jr] at G7; cases G7
  | succ g => exact ⟨g, rfl⟩
 rw [jr, ah (fun hc => h2 ⟨hc.1, by have := hc.2; rw [<-Q2] at this; exact this⟩)] at G7;cases G7;exact ⟨p, rfl, Q2, ft, (hw.b [ag b9 _ _, ag qk _ _]).tail.tail.b [aR p, aZ vq _, ag wq _ _, ag tq _ _]⟩
end
def n0 (key : bN) (d : Cd) : Va × Int × Tr :=
 let s := dw key d.p.items 0
 if DY s.2 d.e ≠ 0 then (d.V, DY s.2 d.e, d.T) else
 let r := nq d.V (d.p.items.getD s.1 zF)
 if d.T.items - 1 = 0 then
  let t := xE r.2 r.1 d.n
  (t.2.2, t.2.1, kp)
 else
  let z := vC r.2 r.1 d.n { d.p with items := d.p.items.take s.1 ++ d.p.items.drop (s.1 + 1) }
  (z.2, z.1, ⟨d.T.root, d.T.aK, d.T.items - 1⟩)
theorem Lt.leaf {key : bN} {d : Cd} (aJ : d.V.Ok) : Lt d.V 4294967400 (n0 key d).1 := by
 unfold n0;simp only;have h := Lt.rel aJ (d.p.items.getD (dw key d.p.items 0).1 zF);split
 ·exact (Lt.refl aJ).mono oM
 split
 ·exact (h.trans (Lt.xE h.ok _ _)).mono oM
 exact (h.trans (Lt.vC h.ok _ _ _)).mono oM
def gn (key : bN) (d : Cd) : Va × Int × Tr := if d.e = 0 then n0 key d else (d.V, d.e, d.T)
def Mh (f : Nat) (V : Va) (T : Tr) (key : bN) : Option (Tr × Bool × Int × Va) :=
 if (nV V.rd T key).2.2 ≠ 0 then some (kp, false, (nV V.rd T key).2.2, V) else if (nV V.rd T key).2.1 = false then some (T, false, 0, V) else
 let h := uJ V 0 T.root
 match jr key f ⟨h.2.2, (px h.2.2 h.2.1 h.1).2, ⟨h.1, T.aK, T.items⟩, h.1, (px h.2.2 h.2.1 h.1).1⟩ with
 | none => none
 | some d => some (if (gn key d).2.1 ≠ 0 then (kp, false, (gn key d).2.1, V) else ((gn key d).2.2, true, 0, (gn key d).1))
theorem CW {key : bN} : ∀ {f : Nat} {d r : Cd}, jr key f d = some r -> r.T.items = d.T.items
 | 0, _, _, h => by cases h
 | f + 1, d, r, h => by
  rw [jr] at h;split at h
  ·cases h; rfl
  split at h
  ·cases h; rfl
  rw [CW h]; exact (EZ _ _ _).2.2.2.2
theorem CX {key : bN} : ∀ {f : Nat} {d r : Cd}, d.V.Ok -> (d.e = 0 -> bD d.p = 0) -> jr key f d = some r -> r.e = 0 -> bD r.p = 0
 | 0, _, _, _, _, h, _ => by cases h
 | f + 1, d, r, aJ, hc, h, he => by
  rw [jr] at h;have h1 := Lt.spot (key := key) aJ;have h2 := Lt.full (x := (cU key d).1) h1.ok;split at h
  ·cases h; exact hc he
  split at h
  ·rename_i h3;cases h;exfalso;unfold eV at h3 he;split at h3
   ·rename_i h4;rw [ah h4] at he;simp only at h3 he
    split at h3
    ·rename_i h5; rw [ah h5] at he; exact h5 he
    cases h3
   cases h3
  rename_i h3;have h3 : (eV (cU key d).1 (cU key d).2).1 = false := by simpa using h3
  exact CX (Lt.leaves h2.ok).ok (fun h4 => by rw [(EZ _ _ _).1]; exact Fv h1.ok (Es aJ) (Al h4) h3) h he
theorem Lt.gn {key : bN} {d : Cd} (aJ : d.V.Ok) : Lt d.V 4294967400 (gn key d).1 := by
 unfold X.gn;split
 ·exact Lt.leaf aJ
 exact (Lt.refl aJ).mono oM
section
variable {G : Gh} {L R : List az} {w : World}
theorem DH {vq wq tq : Nat} {d : Cd} {key : bN} {kv : Value} {p : bm} (hw : ar G (aZ vq d.V :: ag wq (l8 vq d.e) 148 :: ag tq (aC d.T) 62 :: aR p :: L) w) (aJ : d.V.Ok) (dm : d.V.sz <= 994000000000) (hT : 0 <= d.T.items /\ d.T.items <= 1000000000000) (kk : aX L (kL kv key)) (hp : p.pg = d.p) (ft : p.Sm) (h8 : d.p.items.length <= 8) :
  Calls prog 69 #[pQ wq, pQ tq, iQ d.n, gQ p.cells, kv] w (dv fun r w' => r = .tuple #[] /\ ar G (aZ vq (n0 key d).1 :: ag wq (l8 vq (n0 key d).2.1) 148 :: ag tq (aC (n0 key d).2.2) 62 :: L) w') := by
 have kA : p.pg.items.length = p.l.length := by simp [bm.pg]
 have h8p : p.pg.items.length <= 8 := by rw [hp]; exact h8
 refine al (args := [_, _, _, _, _]) func69 rfl ntmps69 rfl rfl ?_;refine z2 ?_;refine bE rfl rfl rfl hw rfl fun w b8 hw => ?_;refine z3 ?_;refine lA (l := p.cells) ad hw ?_;refine z1 ?_;refine an rfl mo rfl (nG (p := p) (key := key) hw (aB ft pK) (kk.of sF)) rfl fun w v16 hv => ?_;obtain ⟨rfl, hw⟩ := hv;obtain ⟨s, hs⟩ : ∃ s, s = dw key p.pg.items 0 := ⟨_, rfl⟩;rw [<-hs];have kO : s.2 = true -> s.1 < p.l.length := fun h => by
  have := tM key p.pg.items 0 (by rw [<-hs]; exact h);rw [<-hs] at this; omega
 refine yb ?_;refine an rfl fF rfl (fZ (vq := vq) (e := d.e) (b := s.2) (hw.b [ag wq _ _])) rfl fun w Wj hv => ?_;obtain ⟨rfl, hw⟩ := hv;have MT : (if s.2 = true then d.e else DC d.e 15) = DY s.2 d.e := rfl;rw [MT] at hw;have Ba : n0 key d = if DY s.2 d.e ≠ 0 then (d.V, DY s.2 d.e, d.T) else if d.T.items - 1 = 0 then ((xE (nq d.V (p.pg.items.getD s.1 zF)).2 (nq d.V (p.pg.items.getD s.1 zF)).1 d.n).2.2, (xE (nq d.V (p.pg.items.getD s.1 zF)).2 (nq d.V (p.pg.items.getD s.1 zF)).1 d.n).2.1, kp) else
   ((vC (nq d.V (p.pg.items.getD s.1 zF)).2 (nq d.V (p.pg.items.getD s.1 zF)).1 d.n { p.pg with items := p.pg.items.take s.1 ++ p.pg.items.drop (s.1 + 1) }).2, (vC (nq d.V (p.pg.items.getD s.1 zF)).2 (nq d.V (p.pg.items.getD s.1 zF)).1 d.n { p.pg with items := p.pg.items.take s.1 ++ p.pg.items.drop (s.1 + 1) }).1, ⟨d.T.root, d.T.aK, d.T.items - 1⟩) := by
  unfold n0;rw [<-hp, <-hs]
 refine z7 ?_;refine lD (v := iQ (DY s.2 d.e)) aD hw ?_;refine z2 ?_;refine aS rfl (fun h1 => ?_) fun h1 => ?_
 ·
  refine rm ?_;exact j7 rfl rfl (by
 rw [Ba, ah h1];have hz := (hw.b [ag b8 _ _, aR p]).tail.tail;have hz := hz.b [aZ vq _, ag wq _ _, ag tq _ _];exact ⟨rfl, hz⟩)
 have h1 := cJ.1 h1;rw [ae (not_not_intro h1)] at Ba;rw [h1] at hw
 have gD : s.2 = true := by
  cases h : s.2 with
  | true => rfl
  | false =>
   rw [h] at h1;have : DC d.e 15 = 0 := h1;unfold DC at this
   split at this
   ·cases this
   rename_i h2; exact absurd this h2
 have kO := kO gD;obtain ⟨y, hy⟩ : ∃ y, p.l[s.1]? = some y := ⟨_, cV kO⟩;have Wx : p.pg.items.getD s.1 zF = y.it := by
  rw [qW, show p.pg.items[s.1]? = some y.it by show (p.l.map bT.it)[s.1]? = _; rw [dB, hy]; rfl]; rfl
 rw [Wx] at Ba;obtain ⟨ib, ic, tC⟩ := qF hw (p := p) pK oM;refine z2 ?_;refine bu [0, 1, 2, 3, 4, 5, 6, 7, 8, 9, 10, 11] bK kR ?_;replace hw := hw.drawn (w.drawn + 1);refine z4 ?_;refine lD (v := pQ vq) au hw ?_;refine z1 ?_;refine bt rfl rfl (aj.bx (v := .slice (some ⟨ib, 0, none⟩) p.l.length ic) ao hw pK (by first | exact congrArg some tC | (rw [<-tC]; rfl))) ?_;refine z1 ?_;refine dD rfl aG aY rfl rfl ⟨oM, oM⟩ ?_;refine bt rfl rfl (aj.many (cs := y.cells) aI rfl (by
 have h2 := (aB ft (L := aR p :: _) .here).its.sl.at (hw.b [aR p]);rw [tC] at h2
 rw [fQ];exact h2.at (show (p.l.map bT.cells)[s.1]? = some y.cells by rw [dB, hy]; rfl))) ?_
 refine an rfl tw rfl (uT (x := y) (hw.b [aZ vq _]) aJ oM) kR fun w Zh hv => ?_;obtain ⟨rfl, hw⟩ := hv;have NI := Lt.rel aJ y.it;obtain ⟨r, hr⟩ : ∃ r, r = nq d.V y.it := ⟨_, rfl⟩;rw [<-hr] at hw NI Ba;rw [<-hr];have CO := NI.ok;have GP := NI.sz;refine an rfl iM rfl (jK (vq := vq) (e := 0) (x := r.1) (hw.b [ag wq _ _])) kR fun w v38 hv => ?_;obtain ⟨rfl, hw⟩ := hv;rw [F3] at hw
 refine z6 ?_;refine lD (v := iQ d.T.items) ai hw ?_;refine z3 ?_;refine bS (l' := aC ⟨d.T.root, d.T.aK, d.T.items - 1⟩) rfl tV rfl rfl ai rfl hw pK rfl rfl rfl fun w hw => ?_;refine z7 ?_;refine lD (v := iQ (d.T.items - 1)) ai hw ?_;refine z2 ?_;refine aS rfl (fun h2 => ?_) fun h2 => ?_
 ·
  refine z4 ?_;refine an rfl lK rfl (mj (n := d.n) (hw.b [aZ vq _, ag wq _ _]) CO oM) rfl fun w v53 hv => ?_;obtain ⟨p53, rfl, -, -, hw⟩ := hv;refine z4 ?_;refine aQ (v := gQ (aC kp)) rfl rfl (fun w => kR) ?_;refine z1 ?_;refine aL (cs := aC kp) (l' := aC kp) rfl tV rfl rfl aF rfl (by intro u hu; simp [aC] at hu; rcases hu with rfl | rfl | rfl <;> rfl) hw pK (by simp [aC]) rfl rfl (fun w hw => ?_);refine z2 ?_;exact j7 rfl rfl (by
 rw [Ba, ah h2];have hz := (hw.b [ag b8 _ _, aR p, aR p53]).tail.tail.tail;have hz := hz.b [aZ vq _, ag wq _ _, ag tq _ _];exact ⟨rfl, hz⟩)
 refine z3 ?_;refine lA (l := p.cells) ad hw ?_;refine z1 ?_;refine an rfl uV rfl (wI (p := p) (at_ := s.1) hw (aB ft pK) (sR (hw.pick (A := aR p) pK)) oM) rfl fun w v60 hv => ?_;obtain ⟨-, p', rfl, Zy, S2, hw⟩ := hv.resolve_left (fun h => h.1 kO);have ho := cF (aB S2 pK) hw;refine z3 ?_;refine aL (cs := p'.cells) (l' := p'.cells) rfl tV rfl rfl ad rfl ho hw pK (by simp [bm.cells]) rfl rfl fun w hw => ?_;refine z6 ?_;refine an rfl fF rfl (fZ (vq := vq) (e := r.1) (b := true) (hw.b [ag wq _ _])) rfl fun w v65 hv => ?_;obtain ⟨rfl, hw⟩ := hv;rw [ah rfl] at hw;refine z4 ?_;refine lA (l := p'.cells) ad hw ?_;refine an rfl iU rfl (jJ (n := d.n) (e := r.1) (p := p') (hw.b [aZ vq _, ag wq _ _]) CO oM (aB S2 pK)) rfl fun w v69 hv => ?_;obtain ⟨rfl, hw⟩ := hv;rw [Zy] at hw
 refine aH ?_;exact j7 rfl rfl (by
 rw [Ba, ae h2];have hz := (hw.b [ag b8 _ _, aR p, aR p']).tail.tail.tail;have hz := hz.b [aZ vq _, ag wq _ _, ag tq _ _];exact ⟨rfl, hz⟩)
theorem N0 {vq f : Nat} {V : Va} {T : Tr} {key : bN} {kv : Value} {res : Tr × Bool × Int × Va} (hw : ar G (aZ vq V :: L) w) (aJ : V.Ok) (dm : V.sz + 60 * f <= 990000000000) (hh : f <= 1000000 + T.aK /\ T.aK <= 1000000) (hT : 0 <= T.items /\ T.items <= 1000000000000) (kk : aX L (kL kv key)) (bQ : Mh f V T key = some res) :
  Calls prog 36 #[pQ vq, gQ (aC T), kv] w (dv fun r w' => r = .tuple #[gQ (aC res.1), .bool res.2.1, iQ res.2.2.1] /\ ar G (aZ vq res.2.2.2 :: L) w') := by
 have Vk := aJ.vf;have MS := aJ.pf;refine al (args := [_, _, _]) func36 rfl ntmps36 rfl rfl ?_;refine z2 ?_;refine bE rfl rfl rfl hw rfl fun w b4 hw => ?_;refine aN rfl mu hw rfl fun w b6 hw => ?_;refine z6 ?_;refine lA (l := aC T) aF hw ?_;refine z1 ?_;refine an rfl AX rfl (CY (t := T) (key := key) (hw.b [aZ vq V]) aJ (kk.of sF) oM) rfl fun w v20 hv => ?_;obtain ⟨gv, rfl, hw⟩ := hv;obtain ⟨g, hg⟩ : ∃ g, g = nV V.rd T key := ⟨_, rfl⟩
 (try unfold sQ at hw); rw [<-hg] at hw
 rw [<-hg];unfold Mh at bQ
 (try unfold sQ at bQ); rw [<-hg] at bQ
 refine W9 ?_;refine aS rfl (fun h1 => ?_) fun h1 => ?_
 ·
  rw [ah h1] at bQ;cases bQ;refine z2 ?_;refine aQ (v := gQ (aC kp)) rfl rfl (fun w => kR) ?_;refine z1 ?_;refine aL (cs := aC kp) (l' := aC kp) rfl tV rfl rfl aF rfl (by intro u hu; simp [aC] at hu; rcases hu with rfl | rfl | rfl <;> rfl) hw pK (by simp [aC]) rfl rfl (fun w hw => ?_);refine z4 ?_;refine xQ rfl rfl ⟨_, rfl, (aj.cw (l := aC kp) aF hw pK rfl)⟩ rfl rfl ⟨rfl, ?_⟩;exact (hw.b [ag b6 _ _, ag b4 _ _, row 5 1 gv _ _]).tail.tail.tail
 rw [ae h1] at bQ;have hg0 := cJ.1 h1;refine z5 ?_;refine nY rfl rfl ?_;refine aH ?_;refine fm rfl (fun h2 => ?_) fun h2 => ?_
 ·
  have NT : g.2.1 = false := by simpa using h2
  rw [ah NT] at bQ;cases bQ;refine z2 ?_;refine lA (l := aC T) aF hw ?_;refine aL (cs := aC T) (l' := aC T) rfl tV rfl rfl aF rfl (by intro u hu; simp [aC] at hu; rcases hu with rfl | rfl | rfl <;> rfl) hw pK (by simp [aC]) rfl rfl (fun w hw => ?_);refine z4 ?_;refine xQ rfl rfl ⟨_, rfl, (aj.cw (l := aC T) aF hw pK rfl)⟩ rfl rfl ⟨rfl, ?_⟩;exact (hw.b [ag b6 _ _, ag b4 _ _, row 5 1 gv _ _]).tail.tail.tail
 have NT : ¬ g.2.1 = false := by rw [Bool.not_eq_false]; simpa using h2
 rw [ae NT] at bQ;refine z4 ?_;refine an rfl fg rfl (fH (hw.b [aZ vq V]) ⟨Vk, by unfold Va.sz at dm; omega⟩) rfl (fun w TT hv => ?_);obtain ⟨rfl, hw⟩ := hv;refine z5 ?_;refine aQ (v := gQ (l8 vq 0)) rfl rfl (fun w => kR) ?_;refine bE rfl rfl rfl hw rfl fun w Rc hw => ?_;refine z6 ?_;refine lD (v := iQ T.root) ai hw ?_;refine an rfl iz rfl (iS (e := 0) (n := T.root) (hw.b [aZ vq V, ag Rc _ _]) aJ oM) rfl fun w RC hv => ?_;obtain ⟨rfl, hw⟩ := hv;have Fh := Lt.uJ aJ 0 T.root;obtain ⟨h, Qv⟩ : ∃ h, h = uJ V 0 T.root := ⟨_, rfl⟩;rw [<-Qv] at hw Fh
 rw [<-Qv];simp only [<-Qv] at bQ;have q8 := Fh.ok;have T0 := Fh.sz;refine z1 ?_;refine bS (l' := aC ⟨h.1, T.aK, T.items⟩) rfl tV rfl rfl ai rfl hw pK rfl rfl rfl fun w hw => ?_;refine z5 ?_;refine lD (v := iQ h.1) ai hw ?_;obtain ⟨d, hd⟩ : ∃ d, jr key f ⟨h.2.2, (px h.2.2 h.2.1 h.1).2, ⟨h.1, T.aK, T.items⟩, h.1, (px h.2.2 h.2.1 h.1).1⟩ = some d := by
  cases h : jr key f ⟨h.2.2, (px h.2.2 h.2.1 h.1).2, ⟨h.1, T.aK, T.items⟩, h.1, (px h.2.2 h.2.1 h.1).1⟩ with
  | none => rw [h] at bQ; cases bQ
  | some d => exact ⟨d, rfl⟩
 rw [hd] at bQ;have bQ := Option.some.inj bQ;have NP := Lt.jr q8 hd;have hds := NP.sz;have YD := NP.ok;have Q7 := CW hd;simp only at hds Q7
 refine z1 ?_;refine an rfl Ce rfl (DJ (f := f) (T := ⟨h.1, T.aK, T.items⟩) (e0 := h.2.1) (n := h.1) (key := key) (hw.b [aZ vq _, ag Rc _ _, ag b4 _ _]) q8 oM hh (kk.of sF) hd) rfl fun w v46 hv => ?_;obtain ⟨p, rfl, hp, ft, hw⟩ := hv;have ho := cF (aB ft pK) hw;refine z3 ?_;refine aN rfl bf hw rfl fun w Y7 hw => ?_;refine z1 ?_;refine aL (cs := p.cells) (l' := p.cells) rfl tV rfl rfl ad rfl ho hw pK (by simp [bm.cells]) rfl rfl fun w hw => ?_;refine aH ?_;refine mZ (fun e w => e = [(0, pQ vq), (4, pQ b4), (6, pQ b6), (12, iQ V.mark), (13, pQ Rc)] /\ ar G (aZ vq (gn key d).1 :: ag Rc (l8 vq (gn key d).2.1) 148 :: ag b4 (aC (gn key d).2.2) 62 :: ag b6 (aC kp) 62 :: L) w) ?_ ?_
 ·
  refine z5 ?_;refine lD (v := iQ d.e) aD hw ?_;refine z2 ?_;refine aS rfl (fun h3 => ?_) fun h3 => ?_
  ·
   have h8 := B5 (CX q8 (fun h => (Bx q8 h).2.2) hd h3);refine z3 ?_;refine lA (l := p.cells) ad hw ?_;refine z1 ?_;refine an rfl Cb rfl (DH (d := d) (key := key) (p := p) (hw.b [aZ vq _, ag Rc _ _, ag b4 _ _, aR p]) YD oM (by rw [Q7]; exact hT) (kk.of sF) hp ft h8) rfl (fun w v58 hv => ?_);obtain ⟨rfl, hw⟩ := hv;refine aH ?_;have e1 : gn key d = n0 key d := ah h3;have hz := (hw.b [row 5 1 gv _ _, ag Y7 _ _]).tail.tail;have hz := hz.b [aZ vq _, ag Rc _ _, ag b4 _ _, ag b6 _ _];rw [e1];exact ⟨[(0, _), (4, _), (6, _), (12, _), (13, _)], sB, rfl, hz⟩
  refine eH ?_;have e1 : gn key d = (d.V, d.e, d.T) := ae h3;have hz := (hw.b [row 5 1 gv _ _, ag Y7 _ _, aR p]).tail.tail.tail;have hz := hz.b [aZ vq _, ag Rc _ _, ag b4 _ _, ag b6 _ _];rw [e1];exact ⟨[(0, _), (4, _), (6, _), (12, _), (13, _)], sB, rfl, hz⟩
 clear hw;rintro e w ⟨rfl, hw⟩;have hel := (Fh.trans NP).trans (Lt.gn (key := key) YD);have heu := hel.GX;have hes := hel.sz;have heo := hel.ok;obtain ⟨z, XN⟩ : ∃ z, z = gn key d := ⟨_, rfl⟩;rw [<-XN] at hw heu hes heo bQ;refine z6 ?_;refine lD (v := iQ z.2.1) aD hw ?_;refine z2 ?_;refine aS rfl (fun h4 => ?_) fun h4 => ?_
 ·
  rw [ah h4] at bQ;subst bQ;refine z4 ?_;refine an rfl ln rfl (lY (mk := V.mark) (hw.b [aZ vq _]) heo oM) rfl fun w v66 hv => ?_;obtain ⟨-, -, rfl, hw⟩ := hv.resolve_left (fun h => h.1 ⟨heu.2.1, heu.2.2⟩);rw [heu.1] at hw
  refine z2 ?_;refine bu [0, 1, 2, 3, 4, 5, 6, 7] bK kR ?_;replace hw := hw.drawn (w.drawn + 1);refine aQ (v := gQ (aC kp)) rfl rfl (fun w => kR) ?_;refine z3 ?_;refine lD (v := iQ z.2.1) aD hw ?_;refine vz (cs := aC kp) (l' := aC kp) rfl tV rfl rfl aF rfl (by intro u hu; simp [aC] at hu; rcases hu with rfl | rfl | rfl <;> rfl) hw pK (by simp [aC]) rfl (fun w hw q' hq => ?_) (fun w hw => ?_)
  ·
   have hq := a9 (l := [4]) kR hq;simp only [bB, cW, or_false] at hq;subst hq;exact aV rfl rfl rfl (aj.bx (v := iQ z.2.1) aD hw pK rfl)
  refine z4 ?_;refine xQ rfl rfl ⟨_, rfl, (aj.cw (l := aC kp) aF hw pK rfl)⟩ rfl rfl ⟨rfl, ?_⟩;exact (hw.b [ag b6 _ _, ag b4 _ _, ag Rc _ _]).tail.tail.tail
 rw [ae h4] at bQ;subst bQ;refine z3 ?_;refine lA (l := aC z.2.2) aF hw ?_;refine aL (cs := aC z.2.2) (l' := aC z.2.2) rfl tV rfl rfl aF rfl (by intro u hu; simp [aC] at hu; rcases hu with rfl | rfl | rfl <;> rfl) hw pK (by simp [aC]) rfl rfl (fun w hw => ?_);refine z4 ?_;refine xQ rfl rfl ⟨_, rfl, (aj.cw (l := aC z.2.2) aF hw pK rfl)⟩ rfl rfl ⟨rfl, ?_⟩;exact (hw.b [ag b6 _ _, ag b4 _ _, ag Rc _ _]).tail.tail.tail
end
def zA (b : Bool) : Int := if b = true then 1 else 0
theorem rS : zA true = 1 := rfl
theorem tA : zA false = 0 := rfl
structure Gv (V : Va) (H : Int -> Int) (O : Int -> Bool) (gh : mJ) : Prop extends jx V H O gh where
 ok : V.Ok
 nn : ∀ a, zA (O a) <= H a
 own : ∀ n, O n = true -> V.own n
theorem eE (b : Bool) : 0 <= zA b /\ zA b <= 1 := by cases b <;> decide
theorem B0 {V : Va} (aJ : V.Ok) (n : Int) : 0 <= V.bw n := (aJ.po.bw n).1
theorem vP {V V' : Va} (h1 : V'.po.l = V.po.l) (h2 : V'.po.c.length = V.po.c.length) {m : Int} (h : V.own m) (hc : V'.bw m = 1) : V'.own m := by
 refine ⟨?_, hc⟩;have h3 := h.1;have ht : bg V'.po.c m := cg (by show V'.bw m ≠ 0; omega);unfold Va.st Po.st rZ at h3 ⊢;unfold Va.bw Po.bw iF at hc
 rw [ah ht] at hc ⊢;unfold bg at ht
 rw [ah oM, h1];split at h3
 ·split at h3
  ·split at h3
   ·omega
   rename_i hl; rw [ae hl]
  split at h3 <;> omega
 omega
theorem N5 {V V' : Va} {O : Int -> Bool} {a : Int} {i : Nat} (hc : V'.bw ((i : Int) + 1) = V.bw ((i : Int) + 1)) (hp : V.bw ((i : Int) + 1) ≠ 0 -> O ((i : Int) + 1) = false -> V'.pg ((i : Int) + 1) = V.pg ((i : Int) + 1)) : uI V' O a i = uI V O a i := by
 unfold uI;rw [hc]
 by_cases h : V.bw ((i : Int) + 1) ≠ 0 /\ O ((i : Int) + 1) = false
 ·rw [ah h, ah h, hp h.1 h.2]
 rw [ae h, ae h]
section
variable {V : Va} {H : Int -> Int} {O : Int -> Bool} {gh : mJ} {n : Int}
theorem Gv.J6 (h : Gv V H O gh) {m : Int} (hm : V.bw m ≠ 0) : bD (V.pg m) = 0 := EF h.ok.toKm hm
theorem Gv.h0 (h : Gv V H O gh) (a : Int) : 0 <= H a := by have h1 := h.nn a; have := eE (O a); omega
theorem Gv.B1 (h : Gv V H O gh) (a : Int) : H a <= V.bw a := by have := h.bw a; have := Gx V O a; omega
theorem Gv.held (h : Gv V H O gh) (hn : 1 <= H n) : V.bw n ≠ 0 := by have := h.B1 n; omega
theorem Gv.Sy (h : Gv V H O gh) {m k : Int} (hm : V.bw m ≠ 0) (ho : O m = false) (hk : k ∈ aA (V.pg m)) : V.bw k ≠ 0 := by
 have h1 := Ke hm ho k;have h2 := df hk;have h3 := h.bw k;have h4 := h.h0 k;omega
theorem Gv.free (h : Gv V H O gh) (hn : V.bw n = 0) : H n = 0 /\ arr V O n = 0 /\ O n = false := by
 have h1 := h.bw n;have h2 := Gx V O n;have h3 := h.nn n;have h4 := eE (O n);refine ⟨oM, oM, ?_⟩;cases ho : O n with
 | false => rfl
 | true => rw [ho, rS] at h3; omega
theorem Gv.CE (h : Gv V H O gh) (ho : O n = true) : H n = 1 /\ arr V O n = 0 /\ V.bw n = 1 := by
 have h1 := h.bw n;have h2 := Gx V O n;have h3 := h.nn n;rw [ho, rS] at h3;have h4 := (h.own n ho).2;exact ⟨oM, oM, h4⟩
theorem rD {m : Int} (hm : V.bw m ≠ 0) : V.rd m = some (V.pg m) := ae hm
theorem Xv {m : Int} {p : Pg} (h : V.rd m = some p) : V.bw m ≠ 0 /\ p = V.pg m := by
 unfold Va.rd at h;split at h
 ·cases h
 cases h; exact ⟨by assumption, rfl⟩
theorem Gv.ey {H' : Int -> Int} (h : Gv V H O gh) (he : ∀ a, H' a = H a) : Gv V H' O gh := ⟨h.tojx.held he, h.ok, fun a => by rw [he]; exact h.nn a, h.own⟩
theorem Gv.opens (h : Gv V H O gh) (hw : V.own n) (hn : 1 <= H n) (ho : O n = false) : Gv V (fun a => H a + cI (aA (V.pg n)) a) (eR O n) gh := by
 refine ⟨h.tojx.eR (h.held hn) ho, h.ok, fun a => ?_, fun m hm => ?_⟩
 ·have h1 := bW (aA (V.pg n)) a;have h2 := h.nn a
  by_cases e : a = n
  ·subst e; have := eE (eR O a a); show zA (eR O a a) <= _; omega
  have e2 : eR O n a = O a := by unfold eR; simp [e]
  show zA (eR O n a) <= _
  rw [e2]; omega
 by_cases e : m = n
 ·subst e; exact hw
 have e2 : eR O n m = O m := by unfold eR; simp [e]
 rw [e2] at hm; exact h.own m hm
theorem Gv.shut (h : Gv V H O gh) (ho : O n = true) {g : Gn} (hl : jV (xD gh n g) (V.pg n) g) (hk : ∀ a, cI (aA (V.pg n)) a + zA (O a) <= H a) : Gv V (fun a => H a - cI (aA (V.pg n)) a) (xZ O n) (xD gh n g) := by
 obtain ⟨h1, h2, h3⟩ := h.CE ho;have hp : (⟨V, []⟩ : Vw).v.pg n = V.pg n := rfl;have hc := jx.put (x := ⟨V, []⟩) (n := n) (p := V.pg n) h.tojx (fun m hm => h.J6 hm) (by show V.bw n ≠ 0; omega) ho h2 hl;have O1 : V.on n ≠ none := h.ok.th n (by show V.bw n ≠ 0; omega);have L4 := jx.congr (V' := V) (H' := fun a => H a - cI (aA (V.pg n)) a) hc rfl (fun m hm => by
  show V.on m = rz V.on n (some (V.pg n)) m
  unfold rz;split
  ·rename_i e; subst e;unfold Va.pg;cases hx : V.on m with
   | none => exact absurd hx O1
   | some p => rfl
  ·rfl) (fun _ => rfl)
 refine ⟨L4, h.ok, fun a => ?_, fun m hm => ?_⟩
 ·have h4 := hk a;have h5 := eE (O a)
  show zA (xZ O n a) <= _
  by_cases e : a = n
  ·subst e; have e2 : xZ O a a = false := by unfold xZ; simp
   rw [e2, tA]; omega
  have e2 : xZ O n a = O a := by unfold xZ; simp [e]
  rw [e2]; omega
 by_cases e : m = n
 ·subst e; unfold xZ at hm; simp at hm
 have e2 : xZ O n m = O m := by unfold xZ; simp [e]
 rw [e2] at hm; exact h.own m hm
theorem Gv.write (h : Gv V H O gh) (ho : O n = true) {p : Pg} (he : (V.write n p).1 = 0) : Gv (V.write n p).2 H O gh /\ bD p = 0 /\ (V.write n p).2.pg n = p /\ (∀ m, m ≠ n -> (V.write n p).2.pg m = V.pg m) /\ (∀ m, (V.write n p).2.bw m = V.bw m) := by
 have iD := Lt.write h.ok n p;obtain ⟨h1, h2, h3⟩ := qz he;rw [h3] at iD ⊢;have re : ∀ m, m ≠ n -> (V.done (V.Oj n p)).pg m = V.pg m := fun m hm => by
  show ((V.Oj n p).v.pg m) = _
  unfold Va.Oj;rw [qE, ae hm]
 refine ⟨⟨⟨fun a => ?_, fun m hm Iz => ?_⟩, iD.ok, h.nn, fun m hm => ?_⟩, h2, ?_, re, fun _ => rfl⟩
 ·show V.bw a = _
  rw [h.bw]
  congr 1
  exact iZ fun i _ => (N5 (V := V) (V' := V.done (V.Oj n p)) rfl fun _ JP => re _ (fun e => by rw [e, ho] at JP; cases JP)).symm
 ·have hm : V.bw m ≠ 0 := hm;rw [re m (fun e => by subst e; rw [ho] at Iz; cases Iz)];exact h.loc m hm Iz
 ·exact h.own m hm
 show ((V.Oj n p).v.pg n) = _
 unfold Va.Oj;rw [qE, ah rfl]; rfl
theorem Gv.make (h : Gv V H O gh) {p : Pg} {g : Gn} (he : (V.make p).2.1 = 0) (hk : ∀ a, cI (aA p) a + zA (O a) <= H a) (hl : jV gh p g) :
  V.bw (V.make p).1 = 0 /\ (V.make p).1 ≠ 0 /\ bD p = 0 /\ Gv (V.make p).2.2 (fun a => H a + dl (V.make p).1 a - cI (aA p) a) O (xD gh (V.make p).1 g) /\ (V.make p).2.2.own (V.make p).1 /\ (V.make p).2.2.pg (V.make p).1 = p /\ (∀ m, m ≠ (V.make p).1 -> (V.make p).2.2.pg m = V.pg m /\ (V.make p).2.2.bw m = V.bw m) := by
 have iD := Lt.make h.ok p;unfold Va.make at he iD ⊢
 by_cases hc : bD p ≠ 0
 ·rw [ah hc] at he; exact absurd he hc
 rw [ae hc] at he iD ⊢;have hc := cJ.1 hc;cases oF : V.po.low with
 | none => rw [oF] at he; cases he
 | some n =>
  rw [oF] at iD;simp only at iD ⊢
  obtain ⟨ht, gD, -⟩ := xk oF;have hn : V.bw n = 0 := At h.ok.po gD;obtain ⟨f1, f2, f3⟩ := h.free hn;have uO : ∀ k ∈ aA p, k ≠ n := fun k iX e => by
   subst e;have h1 := hk k;have h2 := df iX;have h3 := eE (O k);omega
  have Bd := jx.born (x := ⟨V, []⟩) (n := n) (p := p) (g := g) h.tojx (fun m hm => h.J6 hm) ht hn f3 (h.h0 n) (hl.congr hc fun k iX => dN (uO k iX));have xt := fun m => lu (x := ⟨V, []⟩) (b := 1) ht m
  have re : ∀ m, m ≠ n -> (V.done (V.se p n)).pg m = V.pg m := fun m hm => by
   show (((⟨V, []⟩ : Vw).act n 1).put n (some p)).v.pg m = _
   rw [qE, ae hm]; rfl
  have yl : ∀ m, m ≠ n -> (V.done (V.se p n)).bw m = V.bw m := fun m hm => by
   have := xt m;rw [js hm] at this
   show ((⟨V, []⟩ : Vw).act n 1).v.bw m = _
   rw [this]; show V.bw m + 1 * 0 = _; omega
  have aa1 : (V.done (V.se p n)).bw n = 1 := by
   have := xt n;rw [dS] at this
   show ((⟨V, []⟩ : Vw).act n 1).v.bw n = _
   rw [this]; show V.bw n + 1 * 1 = _; omega
  have hlen : (V.done (V.se p n)).po.c.length = V.po.c.length := lN (x := ⟨V, []⟩) (n := n) 1;refine ⟨hn, by unfold bg at ht; omega, hc, ⟨⟨Bd.bw, Bd.loc⟩, iD.ok, fun a => ?_, fun m hm => ?_⟩, ?_, ?_, fun m hm => ⟨re m hm, yl m hm⟩⟩
  ·have h1 := hk a;have h2 : 0 <= dl n a := by unfold dl; split <;> omega
   show _ <= H a + dl n a - cI (aA p) a
   omega
  ·exact vP (V := V) (V' := V.done (V.se p n)) rfl hlen (h.own m hm) (by rw [yl m (fun e => by subst e; rw [f3] at hm; cases hm)]; exact (h.own m hm).2)
  ·refine ⟨?_, aa1⟩
   show rZ (dI V.po.c n 1) V.po.l n = 3
   have h4 : iF (dI V.po.c n 1) n = 1 := aa1;have ht2 : bg (dI V.po.c n 1) n := cg oM;unfold iF at h4;rw [ah ht2] at h4
   unfold rZ;rw [ah ht2, ah oM];have Ff : rZ V.po.c V.po.l n = 1 := gD;unfold rZ at Ff;rw [ah ht] at Ff
   split at Ff
   ·split at Ff <;> omega
   split at Ff
   ·omega
   rename_i Kq; rw [ae Kq]
  show (((⟨V, []⟩ : Vw).act n 1).put n (some p)).v.pg n = _
  rw [qE, ah rfl]; rfl
end
section
variable {x : Vw} {H : Int -> Int} {O : Int -> Bool} {gh : mJ} {n : Int}
theorem Fb : ∀ {l : List Int} {x : Vw} {H : Int -> Int}, (∀ a, 0 <= x.v.bw a) -> jx x.v H O gh -> (x.incAll l).1 = 0 -> jx (x.incAll l).2.v (fun a => H a + cI l a) O gh /\ (x.incAll l).2.v.on = x.v.on /\ (x.incAll l).2.v.po.l = x.v.po.l /\ (x.incAll l).2.v.po.c.length = x.v.po.c.length /\ ∀ a, (x.incAll l).2.v.bw a = x.v.bw a + cI l a
 | [], x, H, _, h, _ => ⟨h.held fun a => by show H a + cI [] a = _; rw [sA]; omega, rfl, rfl, rfl, fun a => by rw [sA]; show x.v.bw a = _; omega⟩
 | k :: l, x, H, IA, h, he => by
  rw [Vw.incAll] at he ⊢;split at he
  ·rename_i hk; exact absurd he hk
  rename_i hk;rw [ae hk];have hk := cJ.1 hk;obtain ⟨h1, h2, h3⟩ := qt hk;have h2 : x.v.bw k ≠ 0 := h2;have xt := fun m => lu (x := x) (b := 1) h1 m
  have hb : x.v.bw k + 1 ≠ 0 := by have := IA k; omega
  obtain ⟨a1, a2, a3, a4, a5⟩ := Fb (fun a => by rw [xt]; have := IA a; unfold dl; split <;> omega) (h.act h2 hb) he;refine ⟨a1.held fun a => ?_, a2, a3, a4.trans (lN 1), fun a => ?_⟩
  ·show H a + cI (k :: l) a = H a + 1 * dl k a + cI l a
   rw [gr]; unfold dl; omega
  rw [a5, xt, gr]; unfold dl; omega
end
theorem fN (n a : Int) : 0 <= dl n a := by unfold dl; split <;> omega
section
variable {O : Int -> Bool} {gh : mJ}
theorem Fz {x : Vw} {n : Int} (hn : x.v.bw n = 0) : (x.free n).v.po = x.v.po /\ ∀ m, m ≠ n -> (x.free n).v.pg m = x.v.pg m := by
 unfold Vw.free;split
 ·exact ⟨rfl, fun m hm => by rw [qE, ae hm]⟩
 exact ⟨rfl, fun _ _ => rfl⟩
theorem Ly {x : Vw} {H : Int -> Int} {n : Int} (IA : ∀ a, 0 <= x.v.bw a) (h : jx x.v H O gh) (ho : O n = false) (he : (x.leave n).1 = 0) : x.v.bw n ≠ 0 /\ jx (x.leave n).2.v (fun a => H a - dl n a + cI (aA (x.v.pg n)) a) O gh /\ (x.leave n).2.v.po.l = x.v.po.l /\ (x.leave n).2.v.po.c.length = x.v.po.c.length ∧
  (∀ m, (m ≠ n \/ (x.leave n).2.v.bw n ≠ 0) -> (x.leave n).2.v.pg m = x.v.pg m) /\ ∀ a, (x.leave n).2.v.bw a = x.v.bw a - dl n a + if x.v.bw n = 1 then 0 else cI (aA (x.v.pg n)) a := by
 unfold Vw.leave at he ⊢
 by_cases h0 : x.v.bw n = 0
 ·rw [ah h0] at he; cases he
 have ht : bg x.v.po.c n := cg h0;have xt := fun m => lu (x := x) (b := -1) ht m
 rw [ae h0] at he ⊢
 by_cases h1 : x.v.bw n = 1
 ·rw [ah h1] at he ⊢;have hd := h.die h1 ho;have hz : (x.act n (-1)).v.bw n = 0 := by rw [xt, dS]; omega
  obtain ⟨f1, f2⟩ := Fz hz;have fl : ((x.act n (-1)).free n).v.po.l = x.v.po.l := by rw [f1]; rfl
  have fc : ((x.act n (-1)).free n).v.po.c.length = x.v.po.c.length := by rw [f1]; exact lN _
  refine ⟨h0, hd.free hz, fl, fc, fun m hm => ?_, fun a => ?_⟩
  ·rcases hm with hm | hm
   ·exact (f2 m hm)
   exfalso; refine hm ?_
   show ((x.act n (-1)).free n).v.po.bw n = 0
   rw [f1]; exact hz
  show ((x.act n (-1)).free n).v.po.bw a = _
  rw [f1, ah h1];have := xt a
  show (x.act n (-1)).v.bw a = _
  omega
 rw [ae h1] at he ⊢;have hc : x.v.bw n + (-1) ≠ 0 := oM;obtain ⟨a1, a2, a3, a4, a5⟩ := Fb (fun a => by rw [xt]; have h2 := IA a; unfold dl; split <;> (try subst_vars) <;> omega) (h.act h0 hc) he;refine ⟨h0, a1.held fun a => ?_, a3, a4.trans (lN _), fun m _ => ?_, fun a => ?_⟩
 ·show H a - dl n a + cI (aA (x.v.pg n)) a = H a + -1 * dl n a + cI (aA (x.v.pg n)) a
  omega
 ·exact congrArg (fun (f : Int -> Option Pg) => (f m).getD bI.pg) a2
 rw [a5, xt, ae h1]
 show x.v.bw a + -1 * dl n a + cI (aA (x.v.pg n)) a = _
 omega
end
section
variable {V : Va} {H : Int -> Int} {O : Int -> Bool} {gh : mJ} {n : Int}
theorem Gv.Ll (h : Gv V H O gh) {m k : Int} (hm : V.bw m ≠ 0) (ho : O m = false) (hk : k ∈ aA (V.pg m)) : O k = false := by
 cases e : O k with
 | false => rfl
 | true => exact absurd hk (Ag (h.CE e).2.1 hm ho)
theorem Gv.Ie (h : Gv V H O gh) {m k : Int} (hm : V.bw m ≠ 0) (ho : O m = false) (hk : O k = true) : cI (aA (V.pg m)) k = 0 := by
 have h1 := Ke hm ho k;have h2 := (h.CE hk).2.1;have h3 := bW (aA (V.pg m)) k;omega
theorem Gv.take (h : Gv V H O gh) (hn : 1 <= H n) (ho : O n = false) (he : (V.take n).2.1 = 0) : (V.take n).1 = V.pg n /\ Gv (V.take n).2.2 (fun a => H a - dl n a + cI (aA (V.pg n)) a) O gh /\ (∀ m, (m ≠ n \/ (V.take n).2.2.bw n ≠ 0) -> (V.take n).2.2.pg m = V.pg m) := by
 have iD := Lt.take h.ok n;have hc := h.held hn;unfold Va.take at he iD ⊢;rw [rD hc] at he iD ⊢
 simp only at he iD ⊢;split at he
 ·rename_i h1; exact absurd he h1
 rename_i h1;rw [ae h1] at iD ⊢;have h1 := cJ.1 h1;obtain ⟨-, a1, a2, a3, a4, a5⟩ := Ly (x := ⟨V, []⟩) (fun a => B0 h.ok a) h.tojx ho h1;refine ⟨rfl, ⟨⟨a1.bw, a1.loc⟩, iD.ok, fun a => ?_, fun m hm => ?_⟩, a4⟩
 ·have h2 := h.nn a;have h3 := bW (aA (V.pg n)) a
  show _ <= H a - dl n a + cI (aA (V.pg n)) a
  unfold dl;split
  ·rename_i e; subst e; rw [ho, tA]; omega
  omega
 have Hc : m ≠ n := fun e => by subst e; rw [ho] at hm; cases hm
 refine vP (V := V) (V' := V.done ((⟨V, []⟩ : Vw).leave n).2) a2 a3 (h.own m hm) ?_
 show ((⟨V, []⟩ : Vw).leave n).2.v.bw m = 1
 rw [a5, js Hc, h.Ie hc ho hm];have := (h.own m hm).2
 show V.bw m - 0 + (if V.bw n = 1 then 0 else 0) = 1
 split <;> omega
theorem Gv.RL (h : Gv V H O gh) (ho : O n = true) (he : (V.take n).2.1 = 0) : Gv (V.take n).2.2 (fun a => H a - dl n a) (xZ O n) gh /\ (∀ m, m ≠ n -> (V.take n).2.2.pg m = V.pg m /\ (V.take n).2.2.bw m = V.bw m /\ (V.own m -> (V.take n).2.2.own m)) := by
 obtain ⟨o1, o2, o3⟩ := h.CE ho;have iD := Lt.take h.ok n;have hc : V.bw n ≠ 0 := oM;unfold Va.take at he iD ⊢;rw [rD hc] at he iD ⊢
 simp only at he iD ⊢;split at he
 ·rename_i h1; exact absurd he h1
 rename_i h1;rw [ae h1] at iD ⊢;have e1 : (⟨V, []⟩ : Vw).leave n = (0, ((⟨V, []⟩ : Vw).act n (-1)).free n) := by
  unfold Vw.leave;rw [ae hc, ah o3]
 rw [e1] at iD ⊢;have hd := jx.acM (x := ⟨V, []⟩) h.tojx o3 ho;have ht : bg V.po.c n := cg hc;have xt := fun m => lu (x := ⟨V, []⟩) (b := -1) ht m
 have hz : ((⟨V, []⟩ : Vw).act n (-1)).v.bw n = 0 := by rw [xt, dS]; show V.bw n + -1 * 1 = 0; omega
 obtain ⟨f1, f2⟩ := Fz hz;have Bc := hd.free hz;have yl : ∀ m, m ≠ n -> (((⟨V, []⟩ : Vw).act n (-1)).free n).v.bw m = V.bw m := fun m hm => by
  show (((⟨V, []⟩ : Vw).act n (-1)).free n).v.po.bw m = _
  rw [f1];have := xt m;rw [js hm] at this
  show ((⟨V, []⟩ : Vw).act n (-1)).v.bw m = _
  rw [this]; show V.bw m + -1 * 0 = _; omega
 have gJ : ∀ m, m ≠ n -> xZ O n m = O m := fun m hm => by unfold xZ; simp [hm]
 have fl : (((⟨V, []⟩ : Vw).act n (-1)).free n).v.po.l = V.po.l := by rw [f1]; rfl
 have fc : (((⟨V, []⟩ : Vw).act n (-1)).free n).v.po.c.length = V.po.c.length := by rw [f1]; exact lN (x := ⟨V, []⟩) _
 refine ⟨⟨⟨Bc.bw, Bc.loc⟩, iD.ok, fun a => ?_, fun m hm => ?_⟩, fun m hm => ⟨f2 m hm, yl m hm, fun hw => vP (V := V) (V' := V.done (((⟨V, []⟩ : Vw).act n (-1)).free n)) fl fc hw ((yl m hm).trans hw.2)⟩⟩
 ·show zA (xZ O n a) <= H a - dl n a
  by_cases e : a = n
  ·subst e;have e2 : xZ O a a = false := by unfold xZ; simp
   rw [e2, tA, dS]; omega
  rw [gJ a e, js e]; have := h.nn a; omega
 have Hc : m ≠ n := fun e => by subst e; unfold xZ at hm; simp at hm
 rw [gJ m Hc] at hm;refine vP (V := V) (V' := V.done (((⟨V, []⟩ : Vw).act n (-1)).free n)) fl fc (h.own m hm) ?_
 show (((⟨V, []⟩ : Vw).act n (-1)).free n).v.bw m = 1
 rw [yl m Hc]; exact (h.own m hm).2
theorem Gv.aO (h : Gv V H O gh) (hn : 1 <= H n) (ho : O n = false) (he : (V.aO n).2.1 = 0) : ∃ gh', Gv (V.aO n).2.2 (fun a => H a - dl n a + dl (V.aO n).1 a) O gh' /\ (V.aO n).2.2.own (V.aO n).1 /\ O (V.aO n).1 = false /\ (V.aO n).2.2.pg (V.aO n).1 = V.pg n /\ gh' (V.aO n).1 = gh n ∧
  (∀ k, V.bw k ≠ 0 -> gh' k = gh k) /\ (∀ k, V.bw k ≠ 0 -> (k ≠ n \/ (V.aO n).2.2.bw n ≠ 0) -> (V.aO n).2.2.pg k = V.pg k) /\ (1 <= H (V.aO n).1 - dl n (V.aO n).1 -> (V.aO n).1 = n) := by
 have iD := Lt.aO h.ok n;have hc := h.held hn;unfold Va.aO at he iD ⊢;rw [ae hc] at he iD ⊢
 by_cases hw : V.own n
 ·rw [ah hw] at he iD ⊢;exact ⟨gh, h.ey fun a => by show H a - dl n a + dl n a = H a; omega, hw, ho, rfl, rfl, fun _ _ => rfl, fun _ _ _ => rfl, fun _ => rfl⟩
 rw [ae hw] at he iD ⊢;cases oF : V.po.low with
 | none => rw [oF] at he; cases he
 | some m =>
  rw [oF] at he iD;simp only at he iD ⊢
  split at he
  ·rename_i h1; exact absurd he h1
  rename_i h1;rw [ae h1] at iD ⊢;have h1 := cJ.1 h1;obtain ⟨ht, gD, -⟩ := xk oF;have WK : V.bw m = 0 := At h.ok.po gD;obtain ⟨f1, f2, f3⟩ := h.free WK;have Hc : m ≠ n := fun e => hc (by rw [<-e]; exact WK)
  have ZE : ∀ k ∈ aA (V.pg n), k ≠ m := fun k hk e => by subst e; exact h.Sy hc ho hk WK
  have hb := jx.born (x := ⟨V, []⟩) (n := m) (p := V.pg n) (g := gh n) h.tojx (fun k hk => h.J6 hk) ht WK f3 (h.h0 m) ((h.loc n hc ho).congr (h.J6 hc) fun k hk => dN (ZE k hk));have xt := fun k => lu (x := ⟨V, []⟩) (b := 1) ht k
  have yl : ∀ k, (V.se (V.pg n) m).v.bw k = V.bw k + dl m k := fun k => by
   show ((⟨V, []⟩ : Vw).act m 1).v.bw k = _
   rw [xt]; show V.bw k + 1 * dl m k = _; omega
  have hpm : ∀ k, k ≠ m -> (V.se (V.pg n) m).v.pg k = V.pg k := fun k hk => by
   show (((⟨V, []⟩ : Vw).act m 1).put m (some (V.pg n))).v.pg k = _
   rw [qE, ae hk]; rfl
  have abV : (V.se (V.pg n) m).v.pg m = V.pg n := by
   show (((⟨V, []⟩ : Vw).act m 1).put m (some (V.pg n))).v.pg m = _
   rw [qE, ah rfl]; rfl
  obtain ⟨-, a1, a2, a3, a4, a5⟩ := Ly (x := V.se (V.pg n) m) (fun a => by rw [yl]; have := B0 h.ok a; have := fN m a; omega) hb ho h1;have WI : (V.se (V.pg n) m).v.pg n = V.pg n := hpm n (fun e => Hc e.symm);rw [WI] at a1 a5;have hlen : (V.se (V.pg n) m).v.po.c.length = V.po.c.length := lN (x := ⟨V, []⟩) (n := m) 1;have acd : cI (aA (V.pg n)) m = 0 := by
   by_cases e : cI (aA (V.pg n)) m = 0
   ·exact e
   exact absurd rfl (ZE m (uF e))
  have aaZ : ((V.se (V.pg n) m).leave n).2.v.bw m = 1 := by
   rw [a5, yl, yl, dS, js Hc, js (fun e => Hc e.symm), acd, WK];split <;> omega
  refine ⟨xD gh m (gh n), ⟨⟨(a1.held (H' := fun a => H a - dl n a + dl m a) fun a => by omega).bw, a1.loc⟩, iD.ok, fun a => ?_, fun k hk => ?_⟩, ?_, f3, ?_, jy, fun k hk => dN (fun e => hk (by rw [e]; exact WK)), fun k hk uO => ?_, fun h2 => ?_⟩
  ·show _ <= H a - dl n a + dl m a
   have h2 := h.nn a;have h3 := fN m a;unfold dl at h3 ⊢;split
   ·rename_i e; subst e; rw [ho, tA]; omega
   omega
  ·have ace : k ≠ m := fun e => by subst e; rw [f3] at hk; cases hk
   have acb : k ≠ n := fun e => by subst e; rw [ho] at hk; cases hk
   refine vP (V := V) (V' := V.done ((V.se (V.pg n) m).leave n).2) a2 (a3.trans hlen) (h.own k hk) ?_
   show ((V.se (V.pg n) m).leave n).2.v.bw k = 1
   rw [a5, yl, js ace, js acb, h.Ie hc ho hk];have := (h.own k hk).2;split <;> omega
  ·refine ⟨?_, aaZ⟩
   show rZ ((V.se (V.pg n) m).leave n).2.v.po.c ((V.se (V.pg n) m).leave n).2.v.po.l m = 3
   have h4 : iF ((V.se (V.pg n) m).leave n).2.v.po.c m = 1 := aaZ;have ht2 : bg ((V.se (V.pg n) m).leave n).2.v.po.c m := cg oM;unfold iF at h4;rw [ah ht2] at h4
   unfold rZ;rw [ah ht2, ah oM, a2];have Ff : rZ V.po.c V.po.l m = 1 := gD;unfold rZ at Ff;rw [ah ht] at Ff
   show (if V.po.l.getD (m - 1).toNat false = true then (4 : Int) else 3) = 3
   split at Ff
   ·split at Ff <;> omega
   split at Ff
   ·omega
   rename_i Kq; rw [ae Kq]
  ·show ((V.se (V.pg n) m).leave n).2.v.pg m = _
   rw [a4 m (.inl Hc), abV]
  ·show ((V.se (V.pg n) m).leave n).2.v.pg k = _
   rw [a4 k uO, hpm k (fun e => hk (by rw [e]; exact WK))]
  rw [f1, js Hc] at h2; omega
end
section
variable {O : Int -> Bool} {gh : mJ}
structure Gw (v : Va) (H : Int -> Int) (O : Int -> Bool) (gh : mJ) : Prop extends jx v H O gh where
 cn : ∀ a, 0 <= v.bw a
 nn : ∀ a, zA (O a) <= H a
 op : ∀ n, O n = true -> v.bw n = 1
structure Uj (v v' : Va) : Prop where
 l : v'.po.l = v.po.l
 len : v'.po.c.length = v.po.c.length
 pg : ∀ m, v'.bw m ≠ 0 -> v'.pg m = v.pg m
 le : ∀ m, v'.bw m <= v.bw m
theorem Uj.refl (v : Va) : Uj v v := ⟨rfl, rfl, fun _ _ => rfl, fun _ => lV _⟩
theorem Uj.trans {u v w : Va} (hn : ∀ a, 0 <= w.bw a) (h : Uj u v) (h' : Uj v w) : Uj u w := ⟨h'.l.trans h.l, h'.len.trans h.len, fun m hm => (h'.pg m hm).trans (h.pg m (by have := h'.le m; have := hn m; omega)), fun m => Int.le_trans (h'.le m) (h.le m)⟩
theorem Gw.Sy {v : Va} {H : Int -> Int} (h : Gw v H O gh) {m k : Int} (hm : v.bw m ≠ 0) (ho : O m = false) (hk : k ∈ aA (v.pg m)) : O k = false := by
 cases e : O k with
 | false => rfl
 | true =>
  exfalso;have h1 := Ke hm ho k;have h2 := df hk;have h3 := h.bw k;have h4 := h.op k e;have h5 := h.nn k;rw [e, rS] at h5;omega
theorem IG : ∀ (f : Nat) (x : Vw) (n : Int) (H : Int -> Int), Gw x.v H O gh -> O n = false -> 1 <= H n -> (x.dropF f n).1 = 0 -> Gw (x.dropF f n).2.v (fun a => H a - dl n a) O gh /\ Uj x.v (x.dropF f n).2.v
 | 0, x, n, H, h, ho, hn, he => by cases he
 | f + 1, x, n, H, h, ho, hn, he => by
  have key : ∀ (l : List Int) (y : Vw) (H : Int -> Int), Gw y.v H O gh -> (∀ k ∈ l, O k = false) -> (∀ a, cI l a + zA (O a) <= H a) -> (Vw.dropAll (Vw.dropF f) y l).1 = 0 -> Gw (Vw.dropAll (Vw.dropF f) y l).2.v (fun a => H a - cI l a) O gh /\ Uj y.v (Vw.dropAll (Vw.dropF f) y l).2.v := by
   intro l
   induction l with
   | nil =>
    intro y H h _ _ _;refine ⟨⟨h.tojx.held fun a => by show H a - cI [] a = H a; rw [sA]; omega, h.cn, fun a => ?_, h.op⟩, Uj.refl _⟩;have := h.nn a
    show _ <= H a - cI [] a
    rw [sA]; omega
   | cons k l ih =>
    intro y H h hk hh he;rw [Vw.dropAll] at he ⊢;split at he
    ·rename_i h1; exact absurd he h1
    rename_i h1;rw [ae h1];have h1 := cJ.1 h1;have aJ := hk k (fp ..);have hhk := hh k;rw [gr, ah rfl] at hhk;have h0 := bW l k;rw [aJ, tA] at hhk
    obtain ⟨a1, a2⟩ := IG f y k H h aJ oM h1;obtain ⟨b1, b2⟩ := ih _ _ a1 (fun j hj => hk j (gF _ hj)) (fun a => by
      have h2 := hh a;rw [gr] at h2
      show _ <= H a - dl k a
      unfold dl; omega) he
    refine ⟨⟨b1.tojx.held fun a => ?_, b1.cn, fun a => ?_, b1.op⟩, a2.trans b1.cn b2⟩
    ·show H a - cI (k :: l) a = H a - dl k a - cI l a
     rw [gr]; unfold dl; omega
    have := b1.nn a
    show _ <= H a - cI (k :: l) a
    rw [gr]; unfold dl at this; omega
  rw [Vw.dropF] at he ⊢
  by_cases h0 : x.v.bw n = 0
  ·rw [ah h0] at he; cases he
  have ht : bg x.v.po.c n := cg h0;have xt := fun m => lu (x := x) (b := -1) ht m
  have gJ : ∀ m, (x.act n (-1)).v.bw m <= x.v.bw m := fun m => by rw [xt]; have := fN n m; omega
  have Yl : ∀ m, O m = true -> (x.act n (-1)).v.bw m = 1 := fun m hm => by
   rw [xt, js (fun e => by subst e; rw [ho] at hm; cases hm)]; have := h.op m hm; omega
  have IA : ∀ a, 0 <= (x.act n (-1)).v.bw a := fun a => by
   rw [xt];have h2 := h.cn a;unfold dl;split
   ·rename_i e; subst e; omega
   omega
  rw [ae h0] at he ⊢
  by_cases h1 : x.v.bw n ≠ 1
  ·rw [ah h1] at he ⊢;have hc : x.v.bw n + (-1) ≠ 0 := oM;refine ⟨⟨(h.tojx.act h0 hc).held fun a => by omega, IA, fun a => ?_, Yl⟩, ⟨rfl, lN _, fun _ _ => rfl, gJ⟩⟩;have h2 := h.nn a
   show _ <= H a - dl n a
   unfold dl;split
   ·rename_i e; subst e; rw [ho, tA]; omega
   omega
  rw [ae h1] at he ⊢;have h1 := cJ.1 h1;have hd := h.tojx.die h1 ho;have hz : (x.act n (-1)).v.bw n = 0 := by rw [xt, dS]; omega
  obtain ⟨f1, f2⟩ := Fz hz;have Bc := hd.free hz;have Tm : ∀ m, ((x.act n (-1)).free n).v.bw m = (x.act n (-1)).v.bw m := fun m => by
   show ((x.act n (-1)).free n).v.po.bw m = _
   rw [f1]; rfl
  have hgw : Gw ((x.act n (-1)).free n).v (fun a => H a - dl n a + cI (aA (x.v.pg n)) a) O gh := by
   refine ⟨Bc, fun a => by rw [Tm]; exact IA a, fun a => ?_, fun m hm => by rw [Tm]; exact Yl m hm⟩;have h2 := h.nn a;have h3 := bW (aA (x.v.pg n)) a
   show _ <= H a - dl n a + cI (aA (x.v.pg n)) a
   unfold dl;split
   ·rename_i e; subst e; rw [ho, tA]; omega
   omega
  have fl : ((x.act n (-1)).free n).v.po.l = x.v.po.l := by rw [f1]; rfl
  have fc : ((x.act n (-1)).free n).v.po.c.length = x.v.po.c.length := by rw [f1]; exact lN _
  have hgd : Uj x.v ((x.act n (-1)).free n).v := ⟨fl, fc, fun m hm => by
     refine f2 m fun e => ?_
     subst e;rw [Tm] at hm; exact hm hz, fun m => by rw [Tm]; exact gJ m⟩
  have we : (x.act n (-1)).v.pg n = x.v.pg n := rfl;rw [we] at he ⊢;obtain ⟨b1, b2⟩ := key _ _ _ hgw (fun k hk => h.Sy h0 ho hk) (fun a => by
     have h2 := h.nn a
     show _ <= H a - dl n a + cI (aA (x.v.pg n)) a
     unfold dl;split
     ·rename_i e; subst e; rw [ho, tA]; omega
     ·omega) he
  refine ⟨⟨b1.tojx.held fun a => by omega, b1.cn, fun a => ?_, b1.op⟩, hgd.trans b1.cn b2⟩;have := b1.nn a
  show _ <= H a - dl n a
  omega
end
section
variable {V : Va} {H : Int -> Int} {O : Int -> Bool} {gh : mJ} {n : Int}
theorem Gv.drop (h : Gv V H O gh) (hn : 1 <= H n) (ho : O n = false) (he : (V.drop n).1 = 0) : Gv (V.drop n).2 (fun a => H a - dl n a) O gh /\ ∀ m, (V.drop n).2.bw m ≠ 0 -> (V.drop n).2.pg m = V.pg m := by
 have iD := Lt.drop h.ok n;unfold Va.drop at he iD ⊢
 by_cases h1 : (V.s0 n).1 ≠ 0
 ·rw [ah h1] at he; exact absurd he h1
 rw [ae h1] at iD ⊢;have h1 := cJ.1 h1;obtain ⟨a1, a2⟩ := IG _ ⟨V, []⟩ n H ⟨h.tojx, fun a => B0 h.ok a, h.nn, fun m hm => (h.own m hm).2⟩ ho hn h1;exact ⟨⟨⟨a1.bw, a1.loc⟩, iD.ok, a1.nn, fun m hm => vP (V := V) (V' := V.done (V.s0 n).2) a2.l a2.len (h.own m hm) (a1.op m hm)⟩, a2.pg⟩
theorem Gv.pC (h : Gv V H O gh) (ho : O n = false) (he : (V.pC n).1 = 0) : V.bw n ≠ 0 /\ Gv (V.pC n).2 (fun a => H a + dl n a) O gh /\ ∀ m, (V.pC n).2.pg m = V.pg m := by
 have iD := Lt.pC h.ok n;unfold Va.pC at he iD ⊢
 by_cases h1 : V.po.qZ n ≠ 0
 ·rw [ah h1] at he; exact absurd he h1
 rw [ae h1] at iD ⊢;have h1 := cJ.1 h1;obtain ⟨h2, h3, h4⟩ := qt h1;have h3 : V.bw n ≠ 0 := h3;have IA := B0 h.ok n;have hb : V.bw n + 1 ≠ 0 := oM;have hc := jx.act (x := ⟨V, []⟩) (b := 1) h.tojx h3 hb;refine ⟨h3, ⟨⟨(hc.held (H' := fun a => H a + dl n a) fun a => by omega).bw, hc.loc⟩, iD.ok, fun a => ?_, fun m hm => ?_⟩, fun _ => rfl⟩
 ·have := h.nn a;have := fN n a
  show _ <= H a + dl n a
  omega
 refine vP (V := V) (V' := V.done ((⟨V, []⟩ : Vw).act n 1)) rfl (lN (x := ⟨V, []⟩) _) (h.own m hm) ?_
 show ((⟨V, []⟩ : Vw).act n 1).v.bw m = 1
 have xt := lu (x := ⟨V, []⟩) (b := 1) h2 m;rw [xt, js (fun e => by subst e; rw [ho] at hm; cases hm)];have := (h.own m hm).2
 show V.bw m + 1 * 0 = 1
 omega
theorem Gv.settle (h : Gv V H O gh) (ho : ∀ a, O a = false) : Gv V.settle H O gh := by
 refine ⟨h.tojx.congr rfl (fun m hm => ?_) fun _ => rfl, Va.Bn h.ok, h.nn, fun m hm => by rw [ho] at hm; cases hm⟩
 show rK V.on _ m = _
 unfold rK;rw [ae];intro T8;have hs := (EI.1 T8).1;refine hm ?_;have hc := h.ok.po.bw m
 show iF V.po.c m = 0
 unfold Po.st rZ at hs;unfold Po.bw iF at hc
 unfold iF;split at hs
 ·rename_i ht;rw [ah ht] at hc ⊢;split at hs
  ·split at hs <;> omega
  omega
 omega
end
theorem Mn {a b : bN} (h : 0 < bU a b) : bU b a < 0 := by have := kI a b; omega
theorem TG {a b : bN} (h : bU a b < 0) : 0 < bU b a := by have := kI a b; omega
theorem rM {a b : bN} (h : 0 <= bU a b) : bU b a <= 0 := by have := kI a b; omega
theorem xx {a b : bN} (h : bU a b <= 0) : 0 <= bU b a := by have := kI a b; omega
theorem AT (k : bN) : 0 <= bU k [] := by cases k <;> simp [bU]
theorem Mo {a b c : bN} (h1 : bU a b < 0) (h2 : bU b c <= 0) : bU a c < 0 := by
 by_cases h : bU b c = 0
 ·rw [AU] at h; subst h; exact h1
 exact du (b := b) oM oM
theorem Mp {a b c : bN} (h1 : 0 <= bU a b) (h2 : 0 <= bU b c) : 0 <= bU a c := xx (mc (rM h2) (rM h1))
theorem Cw : ∀ {a b : bN}, bU a b < 0 -> bU a (if bM a b = a.length then b.take (bM a b) ++ [0] else b.take (bM a b) ++ [a.getD (bM a b) 0 + 1]) < 0 /\ bU (if bM a b = a.length then b.take (bM a b) ++ [0] else b.take (bM a b) ++ [a.getD (bM a b) 0 + 1]) b <= 0
 | [], [], h => by simp [bU] at h
 | [], y :: b, _ => by
  have h0 : (0 : UInt8).toNat = 0 := rfl;simp only [bM, vM, if_true, K6, jG, bU, h0];refine ⟨by decide, ?_⟩
  by_cases h1 : 0 < y.toNat
  ·rw [ah h1]; decide
  rw [ae h1, ae oM];cases b <;> simp [bU]
 | x :: a, [], h => by simp [bU] at h
 | x :: a, y :: b, h => by
  by_cases e : x = y
  ·subst e;have h1 : bU a b < 0 := by simpa [bU] using h
   obtain ⟨i1, i2⟩ := Cw h1;have ec : bM (x :: a) (x :: b) = bM a b + 1 := by simp [bM]
   rw [ec];simp only [jO, R5, j4, List.getD_cons_succ, Nat.add_right_cancel_iff]
   by_cases h2 : bM a b = a.length
   ·rw [ah h2] at i1 i2 ⊢;exact ⟨by simpa [bU] using i1, by simpa [bU] using i2⟩
   rw [ae h2] at i1 i2 ⊢;exact ⟨by simpa [bU] using i1, by simpa [bU] using i2⟩
  have iD : x.toNat < y.toNat := by
   simp only [bU] at h;split at h
   ·assumption
   split at h
   ·omega
   exfalso; exact e (UInt8.toNat_inj.1 oM)
  rw [Ga e];have hy : y.toNat < 256 := y.toNat_lt;have ha : (x + 1).toNat = x.toNat + 1 := by rw [UInt8.toNat_add]; show (x.toNat + 1) % 256 = _; omega
  rw [ae sM];simp only [K6, jG, R6, bU];rw [ha];refine ⟨by rw [ah oM]; decide, ?_⟩
  by_cases h1 : x.toNat + 1 < y.toNat
  ·rw [ah h1]; decide
  rw [ae h1, ae oM];cases b <;> simp [bU]
theorem Kd {a b s : bN} (h : kF a b = some s) : bU a s < 0 /\ bU s b <= 0 := by
 unfold kF at h;split at h
 ·cases h
 rename_i h1;split at h
 ·cases h
 have h2 := Cw (a := a) (b := b) oM
 by_cases h3 : bM a b = a.length
 ·rw [ah h3] at h h2; cases h; exact h2
 rw [ae h3] at h h2; cases h; exact h2
def vr (l : List It) : Prop := l.Pairwise fun x y => bU x.key y.key < 0
theorem LJ {kind : Int} : ∀ {l : List It} {i : Nat} {dp : bN}, ir kind i dp l = 0 -> vr l /\ (i ≠ 0 -> ∀ y ∈ l, bU dp y.key < 0)
 | [], i, dp, _ => ⟨List.Pairwise.nil, fun _ y hy => by cases hy⟩
 | x :: r, i, dp, h => by
  rw [ir, bZ] at h;obtain ⟨h1, h2⟩ := LJ h.2;have h2 := h2 oM;refine ⟨List.Pairwise.cons h2 h1, fun hi => ?_⟩;have h3 := h.1;unfold uM at h3
  simp only [bZ] at h3;have h4 := h3.2.1;unfold yW at h4
  rw [ae (fun h => hi h.2)] at h4;have h5 := (gz dM).1 h4;have h6 : bU dp x.key < 0 := Mn (h5.resolve_left hi);intro y hy;rcases bB.1 hy with rfl | hy
  ·exact h6
  exact du oM (h2 y hy)
theorem tQ {p : Pg} (h : bD p = 0) : vr p.items := by
 unfold bD at h;simp only [bZ] at h
 exact (LJ h.2.1).1
def Js (r : List It) (hi : Option bN) : Option bN := match r with
 | [] => hi
 | y :: _ => some y.key
def OQ (lo : bN) (hi : Option bN) (k : bN) : Prop := iJ k /\ 0 <= bU k lo /\ ∀ h, hi = some h -> bU k h < 0
def OK (gh : mJ) (l : Nat) (lo : bN) (hi : Option bN) (c : Int) : Prop := ∃ f ks, gh c = .nd l f ks /\ 4 <= f /\ ks ≠ [] /\ ∀ k ∈ ks, OQ lo hi k
def qi (gh : mJ) (l : Nat) : List It -> Option bN -> Prop
 | [], _ => True
 | x :: r, hi => OK gh l x.key (Js r hi) x.child /\ qi gh l r hi
def iG (gh : mJ) (q : List It) : List bN := q.flatMap fun x => (gh x.child).ks
section
variable {gh gh' : mJ} {l : Nat}
theorem UZ (a b : List It) (hi : Option bN) : Js (a ++ b) hi = Js a (Js b hi) := by cases a <;> rfl
theorem qh : ∀ {a b : List It} {hi : Option bN}, qi gh l (a ++ b) hi ↔ qi gh l a (Js b hi) /\ qi gh l b hi
 | [], b, hi => by simp [qi]
 | x :: a, b, hi => by
  rw [j4, qi, qi, qh, UZ];exact ⟨fun h => ⟨⟨h.1, h.2.1⟩, h.2.2⟩, fun h => ⟨h.1.1, h.1.2, h.2⟩⟩
theorem OK.congr {lo : bN} {hi : Option bN} {c : Int} (he : gh' c = gh c) (h : OK gh l lo hi c) : OK gh' l lo hi c := by unfold OK at h ⊢; rw [he]; exact h
theorem eD : ∀ {a : List It} {hi : Option bN}, (∀ x ∈ a, gh' x.child = gh x.child) -> qi gh l a hi -> qi gh' l a hi
 | [], _, _, _ => trivial
 | x :: a, hi, he, h => ⟨h.1.congr (he x (fp ..)), eD (fun y hy => he y (gF _ hy)) h.2⟩
theorem eA : ∀ {a : List It}, (∀ x ∈ a, gh' x.child = gh x.child) -> iG gh' a = iG gh a
 | [], _ => rfl
 | x :: a, he => by
  unfold iG;rw [ku, ku, he x (fp ..)]
  congr 1
  exact eA fun y hy => he y (gF _ hy)
theorem xn (a b : List It) : iG gh (a ++ b) = iG gh a ++ iG gh b := by unfold iG; rw [Ac]
theorem OK.hi {lo : bN} {hi uP : Option bN} {c : Int} (h : OK gh l lo hi c) (hh : ∀ h', uP = some h' -> ∃ h, hi = some h /\ bU h h' <= 0) : OK gh l lo uP c := by
 obtain ⟨f, ks, h1, h2, h3, h4⟩ := h;exact ⟨f, ks, h1, h2, h3, fun k hk => ⟨(h4 k hk).1, (h4 k hk).2.1, fun h' e => by
  obtain ⟨h, e1, e2⟩ := hh h' e;exact Mo ((h4 k hk).2.2 h e1) e2⟩⟩
theorem OK.lo {lo lo' : bN} {hi : Option bN} {c : Int} (h : OK gh l lo hi c) (hh : bU lo' lo <= 0) : OK gh l lo' hi c := by
 obtain ⟨f, ks, h1, h2, h3, h4⟩ := h;exact ⟨f, ks, h1, h2, h3, fun k hk => ⟨(h4 k hk).1, Mp (h4 k hk).2.1 (xx hh), (h4 k hk).2.2⟩⟩
theorem Pm : ∀ {a : List It} {hi uP : Option bN}, (∀ h', uP = some h' -> ∃ h, hi = some h /\ bU h h' <= 0) -> qi gh l a hi -> qi gh l a uP
 | [], _, _, _, _ => trivial
 | [x], hi, uP, hh, h => ⟨h.1.hi hh, trivial⟩
 | x :: y :: a, hi, uP, hh, h => ⟨h.1, Pm hh h.2⟩
theorem Ms {a : List It} {hi : Option bN} (h : qi gh l a hi) : qi gh l a none := Pm (fun h' e => by cases e) h
theorem JC {a : List It} {k : bN} (h : k ∈ iG gh a) : ∃ x ∈ a, k ∈ (gh x.child).ks := G2.1 h
theorem IM : ∀ {a : List It} {hi : bN}, qi gh l a (some hi) -> vr a -> (∀ x ∈ a, bU x.key hi < 0) -> ∀ k ∈ iG gh a, bU k hi < 0
 | [], _, _, _, _, k, hk => by obtain ⟨x, hx, _⟩ := JC hk; cases hx
 | x :: a, hi, h, hr, hx, k, hk => by
  unfold iG at hk;rw [ku, eu] at hk
  rcases hk with hk | hk
  ·obtain ⟨f, ks, h1, h2, h3, h4⟩ := h.1;rw [h1] at hk;have h5 := (h4 k hk).2.2;cases a with
   | nil => exact h5 hi rfl
   | cons y a => exact du (by have := h5 y.key rfl; omega) (hx y sM)
  exact IM h.2 (Jl.1 hr).2 (fun y hy => hx y (gF _ hy)) k hk
theorem IN {x : It} {a : List It} {hi : Option bN} (h : qi gh l (x :: a) hi) (hr : vr (x :: a)) : ∀ k ∈ iG gh (x :: a), 0 <= bU k x.key := by
 have key : ∀ (a : List It), qi gh l a hi -> (∀ y ∈ a, 0 <= bU y.key x.key) -> ∀ k ∈ iG gh a, 0 <= bU k x.key := by
  intro a
  induction a with
  | nil => intro _ _ k hk; obtain ⟨x, hx, _⟩ := JC hk; cases hx
  | cons y a ih =>
   intro h hy k hk;unfold iG at hk;rw [ku, eu] at hk
   rcases hk with hk | hk
   ·obtain ⟨f, ks, h1, h2, h3, h4⟩ := h.1;rw [h1] at hk;exact Mp (h4 k hk).2.1 (hy y (fp ..))
   exact ih h.2 (fun z hz => hy z (gF _ hz)) k hk
 refine key _ h fun y hy => ?_
 rcases bB.1 hy with rfl | hy
 ·rw [B3]; exact lV _
 have := TG ((Jl.1 hr).1 y hy); omega
theorem VY {a : List It} {hi : Option bN} (h : qi gh l a hi) : ∀ k ∈ iG gh a, iJ k := by
 induction a with
 | nil => intro k hk; obtain ⟨x, hx, _⟩ := JC hk; cases hx
 | cons y a ih =>
  intro k hk;unfold iG at hk;rw [ku, eu] at hk
  rcases hk with hk | hk
  ·obtain ⟨f, ks, h1, h2, h3, h4⟩ := h.1;rw [h1] at hk;exact (h4 k hk).1
  exact ih h.2 k hk
theorem Gj {a : List It} {hi : Option bN} (h : qi gh l a hi) (ha : a ≠ []) : iG gh a ≠ [] := by
 cases a with
 | nil => exact absurd rfl ha
 | cons x a =>
  obtain ⟨f, ks, h1, h2, h3, h4⟩ := h.1;unfold iG;rw [ku, h1];intro e;exact h3 (R8.1 e).1
theorem AW : ∀ {q : List It} {hi : Option bN}, qi gh l q hi ↔ ∀ i x, q[i]? = some x -> OK gh l x.key (Js (q.drop (i + 1)) hi) x.child
 | [], _ => by simp [qi]
 | y :: q, hi => by
  rw [qi, AW]
  constructor
  ·rintro ⟨h1, h2⟩ i x hx;cases i with
   | zero => simp at hx; subst hx; exact h1
   | succ i => exact h2 i x (by simpa using hx)
  intro h;exact ⟨h 0 y rfl, fun i x hx => h (i + 1) x (by simpa using hx)⟩
theorem Jp {p : Pg} {i : Nat} {x : It} (hx : p.items[i]? = some x) (k : bN) : lH (nt p i) k ↔ OQ x.key (Js (p.items.drop (i + 1)) none) k := by
 unfold lH nt OQ;rw [Sz hx]
 by_cases h : i + 1 < p.items.length
 ·obtain ⟨y, hy⟩ : ∃ y, p.items[i + 1]? = some y := ⟨_, cV h⟩;rw [ah h, Sz hy, dG hy];simp only [Js, Option.some.injEq]
  constructor
  ·rintro ⟨h1, h2, h3⟩;refine ⟨h1, h2, fun a e => ?_⟩;subst e;exact h3.resolve_left (by simp [h])
  rintro ⟨h1, h2, h3⟩;exact ⟨h1, h2, .inr (h3 _ rfl)⟩
 rw [u0 oM];simp only [Js]
 constructor
 ·rintro ⟨h1, h2, h3⟩; exact ⟨h1, h2, fun a e => by cases e⟩
 rintro ⟨h1, h2, h3⟩; exact ⟨h1, h2, .inl (by simp [h])⟩
theorem Qa {p : Pg} : Jz gh l p ↔ qi gh l p.items none := by
 rw [AW];unfold Jz OK
 constructor
 ·intro h i x hx;obtain ⟨f, ks, h1, h2, h3, h4⟩ := h i x hx;exact ⟨f, ks, h1, h2, h3, fun k hk => (Jp hx k).1 (h4 k hk)⟩
 intro h i x hx;obtain ⟨f, ks, h1, h2, h3, h4⟩ := h i x hx;exact ⟨f, ks, h1, h2, h3, fun k hk => (Jp hx k).2 (h4 k hk)⟩
theorem qs {p : Pg} {f : Nat} {ks : List bN} : jV gh p (.nd (l + 1) f ks) ↔ f = p.items.length /\ p.kind = 2 /\ p.level = (l : Int) + 1 /\ ks = iG gh p.items /\ qi gh l p.items none := by
 show (_ /\ _ /\ _ /\ _ /\ Jz gh l p) ↔ _
 rw [Qa]; exact Iff.rfl
theorem Ah : ∀ q : List It, (yX q).map It.child = q.map It.child
 | [] => rfl
 | _ :: _ => rfl
theorem Vc (q : List It) : iG gh (yX q) = iG gh q := by cases q <;> rfl
theorem VX {q : List It} {hi : Option bN} (h : qi gh l q hi) : qi gh l (yX q) hi := by
 cases q with
 | nil => exact h
 | cons x q => exact ⟨h.1.lo (rM (AT _)), h.2⟩
end
theorem PH {q : List It} (h : vr q) (n : Nat) : vr (q.take n) := h.sublist (List.take_sublist n q)
theorem H3 {q : List It} (h : vr q) (n : Nat) : vr (q.drop n) := h.sublist (List.drop_sublist n q)
theorem EA {q : List It} (h : vr q) {n : Nat} {y : It} (hy : q[n]? = some y) : ∀ x ∈ q.take n, bU x.key y.key < 0 := fun x hx => by
 have h1 : vr (q.take n ++ q.drop n) := by rw [qd]; exact h
 rw [dG hy] at h1;exact (List.pairwise_append.1 h1).2.2 x hx y (fp ..)
def Dd (gh : mJ) : Nat -> List It -> List bN
 | 0, r => r.map It.key
 | _ + 1, r => iG gh r
def M' (gh : mJ) : Nat -> List It -> Prop
 | 0, r => ∀ x ∈ r, 32 < x.size -> gh x.child = .bl x.key x.size /\ x.child ≠ 0
 | l + 1, r => qi gh l r none
def CG : Nat -> Pg -> Prop
 | 0, p => p.kind = 1
 | l + 1, p => p.kind = 2 /\ p.level = (l : Int) + 1
def kN (r : List It) : List Int := r.filterMap fun x => if x.child ≠ 0 then some x.child else none
def kr : Nat -> List It -> List Int
 | 0, r => kN r
 | _ + 1, r => r.map It.child
section
variable {gh gh' : mJ} {l : Nat}
theorem cH {p : Pg} {f : Nat} {ks : List bN} : jV gh p (.nd l f ks) ↔ f = p.items.length /\ CG l p /\ ks = Dd gh l p.items /\ M' gh l p.items := by
 cases l with
 | zero => exact Iff.rfl
 | succ l =>
  rw [qs]
  show _ ↔ _ /\ (_ /\ _) /\ _ /\ _
  constructor
  ·rintro ⟨h1, h2, h3, h4, h5⟩; exact ⟨h1, ⟨h2, h3⟩, h4, h5⟩
  rintro ⟨h1, ⟨h2, h3⟩, h4, h5⟩; exact ⟨h1, h2, h3, h4, h5⟩
theorem xm (a b : List It) : Dd gh l (a ++ b) = Dd gh l a ++ Dd gh l b := by
 cases l with
 | zero => exact il
 | succ l => exact xn a b
theorem E3 (a b : List It) : kr l (a ++ b) = kr l a ++ kr l b := by
 cases l with
 | zero => exact List.filterMap_append
 | succ l => exact il
theorem mg {p : Pg} (h : CG l p) : aA p = kr l p.items := by
 cases l with
 | zero =>
  have h : p.kind = 1 := h;unfold aA;rw [ae oM, my]
  show _ = kN p.items
  unfold kN
  congr 1
  funext x
  by_cases hx : x.child ≠ 0
  ·rw [ah (.inr ⟨h, hx⟩), ah hx]
  rw [ae (fun h2 => h2.elim (fun h3 => by omega) (fun h3 => hx h3.2)), ae hx]
 | succ l => exact dy h.1
theorem gU {p : Pg} {r : List It} (h : CG l p) : CG l { p with items := r } := by cases l <;> exact h
theorem qH {r : List It} {k : Nat} {x : It} (h : r[k]? = some x) : jU r k = x.key := by unfold jU; rw [h]; rfl
theorem yV {p q a b : Pg} {row : List It} {n : Nat} {sep : bN} (hp : CG l p) (hq : CG l q) (hr : vr row) (hc : M' gh l row) (h1 : 1 <= n) (hn : n < row.length) (hs : jz p q row n = some (a, b, sep)) :
  jV gh a (.nd l n (Dd gh l (row.take n))) /\ jV gh b (.nd l (row.length - n) (Dd gh l (row.drop n))) /\ (∀ k ∈ Dd gh l (row.take n), bU k sep < 0) /\ (∀ k ∈ Dd gh l (row.drop n), 0 <= bU k sep) /\ aA a = kr l (row.take n) /\ aA b = kr l (row.drop n) := by
 obtain ⟨y, hy⟩ : ∃ y, row[n]? = some y := ⟨_, cV hn⟩;obtain ⟨x, hx⟩ : ∃ x, row[n - 1]? = some x := ⟨_, cV oM⟩;have acv := EA hr hy;have Vx := dG hy;have O3 : (row.take n).length = n := by rw [fK]; omega
 have Kq : (row.drop n).length = row.length - n := iC;unfold jz at hs;cases l with
 | zero =>
  have Zy : p.kind = 1 := hp;rw [ae oM] at hs;cases hb : kF (jU row (n - 1)) (jU row n) with
  | none => rw [hb] at hs; cases hs
  | some s =>
   rw [hb] at hs;cases hs;obtain ⟨b1, b2⟩ := Kd hb;rw [qH hx] at b1
   rw [qH hy] at b2;refine ⟨cH.2 ⟨O3.symm, hp, rfl, fun z hz => hc z (r9 hz)⟩, cH.2 ⟨Kq.symm, hq, rfl, fun z hz => hc z (Ad hz)⟩, fun k hk => ?_, fun k hk => ?_, mg (gU (r := row.take n) hp), mg (gU (r := row.drop n) hq)⟩
   ·obtain ⟨z, hz, rfl⟩ := dd.1 hk;have h2 : row.take n = row.take (n - 1) ++ [x] := by
     have := cP hx;rw [show n - 1 + 1 = n by omega] at this; exact this
    rw [h2] at hz;rcases eu.1 hz with hz | hz
    ·exact du (by have := EA hr hx z hz; omega) b1
    simp at hz; subst hz; exact b1
   obtain ⟨z, hz, rfl⟩ := dd.1 hk;rw [Vx] at hz;have h3 : vr (y :: row.drop (n + 1)) := by rw [<-Vx]; exact H3 hr n
   rcases bB.1 hz with rfl | hz
   ·exact xx b2
   have := (Jl.1 h3).1 z hz;exact xx (mc b2 oM)
 | succ l =>
  rw [ah hp.1] at hs;cases hs;rw [qH hy];have hc : qi gh l row none := hc;rw [<-qd n row, qh] at hc
  have Zz : Js (row.drop n) none = some y.key := by rw [Vx]; rfl
  rw [Zz] at hc;refine ⟨cH.2 ⟨O3.symm, hp, rfl, Ms hc.1⟩, cH.2 ⟨?_, hq, (Vc _).symm, VX hc.2⟩, IM hc.1 (PH hr n) acv, ?_, dy hp.1, ?_⟩
  ·show _ = (yX (row.drop n)).length
   have := congrArg List.length (Ah (row.drop n));rw [bA, bA] at this;omega
  ·have h3 : qi gh l (y :: row.drop (n + 1)) none := by rw [<-Vx]; exact hc.2
   have h4 := IN h3 (by rw [<-Vx]; exact H3 hr n)
   show ∀ k ∈ iG gh (row.drop n), _
   rw [Vx]; exact h4
  exact (dy (p := { q with items := yX (row.drop n) }) hq.1).trans (Ah _)
end
section
variable {V : Va} {H : Int -> Int} {O : Int -> Bool} {gh : mJ} {n : Int} {l : Nat}
theorem rN (ho : O n = false) : xZ (eR O n) n = O := by
 funext m
 unfold xZ eR
 by_cases e : m = n
 ·subst e; simp [ho]
 have e2 : (m == n) = false := by simpa using e
 rw [e2]; simp
theorem fC : eR O n n = true := by unfold eR; simp
theorem oe {m : Int} (h : m ≠ n) : eR O n m = O m := by unfold eR; simp [h]
structure Fr (V V' : Va) (gh gh' : mJ) : Prop where
 g : ∀ k, V.bw k ≠ 0 -> gh' k = gh k
 p : ∀ k, V.bw k ≠ 0 -> V'.pg k = V.pg k
 c : ∀ k, V.bw k ≠ 0 -> V'.bw k ≠ 0
theorem Fr.refl (V : Va) (gh : mJ) : Fr V V gh gh := ⟨fun _ _ => rfl, fun _ _ => rfl, fun _ h => h⟩
theorem Fr.trans {V V' V'' : Va} {gh gh' QF : mJ} (h : Fr V V' gh gh') (h' : Fr V' V'' gh' QF) : Fr V V'' gh QF := ⟨fun k hk => (h'.g k (h.c k hk)).trans (h.g k hk), fun k hk => (h'.p k (h.c k hk)).trans (h.p k hk), fun k hk => h'.c k (h.c k hk)⟩
theorem Gv.self (h : Gv V H O gh) (hw : V.own n) (hn : 1 <= H n) (ho : O n = false) : n ∉ aA (V.pg n) /\ H n = 1 /\ arr V O n = 0 := by
 have h1 := h.bw n;have h2 := Gx V O n;have h3 := hw.2;have ha : arr V O n = 0 := oM;exact ⟨Ag ha oM ho, oM, ha⟩
theorem EK (hn : 1 <= H n) (hh : ∀ a, zA (O a) <= H a) (a : Int) : zA (eR O n a) <= H a := by
 by_cases e : a = n
 ·subst e; have := eE (eR O a a); omega
 rw [oe e]; exact hh a
theorem KO {p a b : Pg} {sep : bN} (h : nk p = some (a, b, sep)) : (p.kind = 1 \/ p.kind = 2) /\ p.items.length = 8 /\ jz p p p.items 4 = some (a, b, sep) := by
 unfold nk at h;split at h
 ·cases h
 rename_i h1;exact ⟨sN fun h2 => h1 (.inl h2), sN fun h2 => h1 (.inr h2), h⟩
theorem Gv.half {f : Nat} {ks : List bN} (h : Gv V H O gh) (hw : V.own n) (hn : 1 <= H n) (ho : O n = false) (hg : gh n = .nd l f ks) (he : (cY V n).2.2.2 = 0) :
  ((cY V n).2.1 = 0 /\ (cY V n).1 = V) \/ ∃ gh' E2 JD, (cY V n).2.1 ≠ 0 /\ V.bw (cY V n).2.1 = 0 /\ Gv (cY V n).1 (fun a => H a + dl (cY V n).2.1 a) O gh' /\ (cY V n).1.own n /\ (cY V n).1.own (cY V n).2.1 /\ gh' n = .nd l 4 E2 /\ gh' (cY V n).2.1 = .nd l 4 JD /\ ks = E2 ++ JD /\ E2 ≠ [] /\ JD ≠ [] ∧
   (∀ k ∈ E2, bU k (cY V n).2.2.1 < 0) /\ (∀ k ∈ JD, 0 <= bU k (cY V n).2.2.1) /\ (∀ k, V.bw k ≠ 0 -> k ≠ n -> gh' k = gh k /\ (cY V n).1.pg k = V.pg k) := by
 have hc := h.held hn;have hl := h.loc n hc ho;rw [hg] at hl;obtain ⟨l1, l2, l3, l4⟩ := cH.1 hl;obtain ⟨s1, s2, s3⟩ := h.self hw hn ho;unfold cY at he ⊢
 rw [rD hc] at he ⊢;simp only at he ⊢
 by_cases h8 : (V.pg n).items.length < 8
 ·rw [ah h8] at he ⊢; exact .inl ⟨rfl, rfl⟩
 rw [ae h8] at he ⊢;cases hs : nk (V.pg n) with
 | none => rw [hs] at he; cases he
 | some w =>
  obtain ⟨lf, rt, sep⟩ := w;rw [hs] at he;simp only at he ⊢
  by_cases hm : (V.make rt).2.1 ≠ 0
  ·rw [ah hm] at he; exact absurd he hm
  rw [ae hm] at he ⊢;have hm := cJ.1 hm;simp only at he ⊢
  obtain ⟨k1, k2, k3⟩ := KO hs;obtain ⟨p1, p2, p3, p4, p5, p6⟩ := yV l2 l2 (tQ (h.J6 hc)) l4 oM oM k3;have Kr : ∀ a, cI (aA (V.pg n)) a = cI (aA lf) a + cI (aA rt) a := fun a => by
   rw [p5, p6, <-cM, <-E3, qd, mg l2]
  have h1 := h.opens hw hn ho;obtain ⟨m1, m2, m3, m4, m5, m6, m7⟩ := h1.make hm (fun a => by
     have := EK hn h.nn a;have := bW (aA lf) a
     show _ <= H a + cI (aA (V.pg n)) a
     rw [Kr]; omega) p2
  obtain ⟨m, T8⟩ : ∃ m, m = (V.make rt).1 := ⟨_, rfl⟩;rw [<-T8] at m1 m2 m4 m5 m6 m7 ⊢;have Hc : m ≠ n := fun e => hc (by rw [<-e]; exact m1)
  obtain ⟨w1, w2, w3, w4, w5⟩ := m4.write fC he;have aaO : ∀ k ∈ aA lf, k ≠ m /\ k ≠ n := fun k hk => by
   have iX : k ∈ aA (V.pg n) := by
    refine uF ?_;have := df hk;have := bW (aA rt) k;rw [Kr]; omega
   exact ⟨fun e => by subst e; exact h.Sy hc ho iX m1, fun e => by subst e; exact s1 iX⟩
  have Df := w1.shut (g := .nd l 4 (Dd gh l ((V.pg n).items.take 4))) fC (by
     rw [w3];refine p1.congr w2 fun k hk => ?_
     rw [dN (aaO k hk).2, dN (aaO k hk).1]) (fun a => by
     have := EK hn h.nn a;have := fN m a;have := bW (aA rt) a;rw [w3]
     show _ <= H a + cI (aA (V.pg n)) a + dl m a - cI (aA rt) a
     rw [Kr]; omega)
  rw [w3, rN ho] at Df;refine .inr ⟨_, _, _, m2, m1, Df.ey fun a => ?_, ?_, ?_, jy, ?_, ?_, ?_, ?_, p3, p4, fun k hk uO => ⟨?_, ?_⟩⟩
  ·show H a + dl m a = H a + cI (aA (V.pg n)) a + dl m a - cI (aA rt) a - cI (aA lf) a
   rw [Kr]; omega
  ·exact w1.own n fC
  ·refine vP (V := (V.make rt).2.2) ?_ ?_ m5 ?_
   ·rw [(qz he).2.2]; rfl
   ·rw [(qz he).2.2]; rfl
   rw [w5]; exact m5.2
  ·rw [dN Hc, jy, show (V.pg n).items.length - 4 = 4 by omega]
  ·rw [l3, <-xm, qd]
  ·intro e;have hz : ∀ (r : List It), M' gh l r -> r ≠ [] -> Dd gh l r ≠ [] := fun r hr ly => by
    cases l with
    | zero => intro e; exact ly (List.map_eq_nil_iff.1 e)
    | succ l => exact Gj hr ly
   refine hz _ ?_ (fun e => by have := congrArg List.length e; rw [fK, vM] at this; omega) e;exact (cH.1 p1).2.2.2 |> fun _ => by
    cases l with
    | zero => exact fun z hz => l4 z (r9 hz)
    | succ l =>
     have l4 : qi gh l (V.pg n).items none := l4;rw [<-qd 4 (V.pg n).items, qh] at l4;exact Ms l4.1
  ·intro e;have hz : ∀ (r : List It), M' gh l r -> r ≠ [] -> Dd gh l r ≠ [] := fun r hr ly => by
    cases l with
    | zero => intro e; exact ly (List.map_eq_nil_iff.1 e)
    | succ l => exact Gj hr ly
   refine hz _ ?_ (fun e => by have := congrArg List.length e; rw [iC, vM] at this; omega) e;cases l with
   | zero => exact fun z hz => l4 z (Ad hz)
   | succ l =>
    have l4 : qi gh l (V.pg n).items none := l4;rw [<-qd 4 (V.pg n).items, qh] at l4;exact l4.2
  ·have ZE : k ≠ m := fun e => hk (by rw [e]; exact m1)
   rw [dN uO, dN ZE]
  rw [w4 k uO];exact (m7 k (fun e => hk (by rw [e]; exact m1))).1
end
def nz (c : Int) : List Int := if c ≠ 0 then [c] else []
theorem kU (c a : Int) : cI (nz c) a = if c ≠ 0 then dl c a else 0 := by
 unfold nz;split
 ·rw [gr, sA]; unfold dl; omega
 rfl
theorem oC (x : It) : kN [x] = nz x.child := by
 unfold kN nz
 by_cases h : x.child ≠ 0 <;> simp [h]
theorem Ir (d : bN) (c : Int) : aA ⟨3, 0, [], d, c⟩ = nz c := by
 unfold aA nz
 by_cases h : c = 0 <;> simp [h]
section
variable {V : Va} {H : Int -> Int} {O : Int -> Bool} {gh : mJ} {n : Int} {l : Nat} {key value : bN}
theorem Gv.U7 {p : Pg} {g : Gn} (h1 : V.bw n = 0) {V' : Va} (h : ∀ m, m ≠ n -> V'.pg m = V.pg m /\ V'.bw m = V.bw m) : Fr V V' gh (xD gh n g) := by
 have ly : ∀ k, V.bw k ≠ 0 -> k ≠ n := fun k hk e => hk (by rw [e]; exact h1)
 exact ⟨fun k hk => dN (ly k hk), fun k hk => (h k (ly k hk)).1, fun k hk => by rw [(h k (ly k hk)).2]; exact hk⟩
def StB (key value : bN) (k : Nat) (c : Int) (H : Int -> Int) (O : Int -> Bool) (gh : mJ) : Prop := (c = 0 /\ value.length <= 480 * k) \/ (c ≠ 0 /\ 480 * k < value.length /\ gh c = .bl key ((value.length : Int) - 480 * k) /\ 1 + zA (O c) <= H c)
theorem KK (hv : 0 < value.length) : ∀ (k : Nat) (V : Va) (H : Int -> Int) (gh : mJ) (c : Int), Gv V H O gh -> StB key value k c H O gh -> 480 * k < value.length + 480 -> (fB value k V c).1 = 0 →
  ∃ gh', Gv (fB value k V c).2.2 (fun a => H a - cI (nz c) a + cI (nz (fB value k V c).2.1) a) O gh' /\ StB key value 0 (fB value k V c).2.1 (fun a => H a - cI (nz c) a + cI (nz (fB value k V c).2.1) a) O gh' /\ Fr V (fB value k V c).2.2 gh gh'
 | 0, V, H, gh, c, h, hs, _, _ => by
  have e : ∀ a, H a - cI (nz c) a + cI (nz c) a = H a := fun a => by omega
  refine ⟨gh, h.ey e, ?_, Fr.refl _ _⟩
  show StB key value 0 c (fun a => H a - cI (nz c) a + cI (nz c) a) O gh
  rw [show (fun a => H a - cI (nz c) a + cI (nz c) a) = H from funext e];exact hs
 | k + 1, V, H, gh, c, h, hs, hk, he => by
  rw [fB] at he ⊢
  by_cases hm : (V.make ⟨3, 0, [], iH value k, c⟩).2.1 ≠ 0
  ·rw [ah hm] at he; exact absurd he hm
  rw [ae hm] at he ⊢;have hm := cJ.1 hm;have Qs : 480 * k < value.length := oM;have kA : (iH value k).length = min 480 (value.length - 480 * k) := by unfold iH; rw [fK, iC, Nat.mul_comm]
  obtain ⟨m1, m2, m3, m4, m5, m6, m7⟩ := h.make (g := .bl key ((value.length : Int) - 480 * k)) hm (fun a => by
    rw [Ir, kU];have h1 := h.nn a;split
    ·rename_i hc;obtain ⟨-, -, -, h2⟩ := hs.resolve_left (fun h => hc h.1);unfold dl;split
     ·rename_i e; subst e; exact h2
     ·omega
    ·omega) (by
    refine ⟨rfl, oM, by show ((iH value k).length : Int) = _; omega, ?_, fun h2 => ?_⟩
    ·show c = 0 ↔ _
     rcases hs with ⟨h1, h2⟩ | ⟨h1, h2, -, -⟩
     ·exact ⟨fun _ => by omega, fun _ => h1⟩
     ·exact ⟨fun h => absurd h h1, fun h => by omega⟩
    ·show gh c = _
     rcases hs with ⟨h1, h3⟩ | ⟨h1, -, h3, -⟩
     ·omega
     ·rw [h3]; congr 1; omega)
  obtain ⟨m, T8⟩ : ∃ m, m = (V.make ⟨3, 0, [], iH value k, c⟩).1 := ⟨_, rfl⟩;rw [<-T8] at m1 m2 m4 m5 m6 m7 he ⊢;obtain ⟨f1, f2, f3⟩ := h.free m1;have yl : cI (nz c) m = 0 := by
   rw [kU];split
   ·rename_i hc;obtain ⟨-, -, -, h2⟩ := hs.resolve_left (fun h => hc h.1);refine js fun e => ?_
    subst e;have := eE (O m);omega
   rfl
  rw [Ir] at m4;have gD : StB key value k m (fun a => H a + dl m a - cI (nz c) a) O (xD gh m (.bl key ((value.length : Int) - 480 * k))) := .inr ⟨m2, Qs, jy, by show 1 + zA (O m) <= H m + dl m m - cI (nz c) m; rw [dS, f1, f3, tA, yl]; omega⟩;obtain ⟨gh', a1, a2, a3⟩ := KK hv k _ _ _ m m4 gD oM he;have e : ∀ a, H a + dl m a - cI (nz c) a - cI (nz m) a + cI (nz (fB value k (V.make ⟨3, 0, [], iH value k, c⟩).2.2 m).2.1) a = H a - cI (nz c) a + cI (nz (fB value k (V.make ⟨3, 0, [], iH value k, c⟩).2.2 m).2.1) a := fun a => by rw [kU m, ah m2]; omega
  rw [show (fun a => H a + dl m a - cI (nz c) a - cI (nz m) a + cI (nz (fB value k (V.make ⟨3, 0, [], iH value k, c⟩).2.2 m).2.1) a) = _ from funext e] at a1 a2;exact ⟨gh', a1, a2, (Gv.U7 (p := ⟨3, 0, [], iH value k, c⟩) m1 m7).trans a3⟩
theorem Gv.store (h : Gv V H O gh) (he : (cN V key value).1 = 0) : ∃ gh', Gv (cN V key value).2.2 (fun a => H a + cI (kN [(cN V key value).2.1]) a) O gh' /\ iJ key /\ (cN V key value).2.1.key = key /\ (32 < (cN V key value).2.1.size -> gh' (cN V key value).2.1.child = .bl key (cN V key value).2.1.size /\ (cN V key value).2.1.child ≠ 0) /\ Fr V (cN V key value).2.2 gh gh' := by
 unfold cN at he ⊢
 by_cases h1 : ¬ (1 <= key.length /\ key.length <= 24)
 ·rw [ah h1] at he; cases he
 rw [ae h1] at he ⊢;have h1 := cJ.1 h1
 by_cases h2 : 3840 < value.length
 ·rw [ah h2] at he; cases he
 rw [ae h2] at he ⊢
 by_cases h3 : value.length <= 32
 ·rw [ah h3];refine ⟨gh, h.ey fun a => ?_, h1, rfl, fun h4 => ?_, Fr.refl _ _⟩
  ·rw [oC, kU]; simp
  have h4 : 32 < (value.length : Int) := h4;omega
 rw [ae h3] at he ⊢
 by_cases h4 : (fB value ((value.length - 1) / 480 + 1) V 0).1 ≠ 0
 ·rw [ah h4] at he; exact absurd he h4
 rw [ae h4] at he ⊢;have h4 := cJ.1 h4;obtain ⟨gh', a1, a2, a3⟩ := KK (key := key) oM _ V H gh 0 h (.inl ⟨rfl, oM⟩) oM h4;refine ⟨gh', a1.ey fun a => ?_, h1, rfl, fun _ => ?_, a3⟩
 ·rw [oC, kU 0, ae (fun h => h rfl)]
  show H a + cI (nz (fB value ((value.length - 1) / 480 + 1) V 0).2.1) a = H a - 0 + cI (nz (fB value ((value.length - 1) / 480 + 1) V 0).2.1) a
  omega
 rcases a2 with ⟨-, h5⟩ | ⟨h5, -, h6, -⟩
 ·omega
 exact ⟨by rw [h6]; simp, h5⟩
structure TQ (new : It) (gh : mJ) : Prop where
 key : iJ new.key
 ch : 32 < new.size -> gh new.child = .bl new.key new.size /\ new.child ≠ 0
theorem Gv.Wu {f : Nat} {ks : List bN} {q : List It} (h : Gv V H O gh) (hw : V.own n) (ho : O n = false) (hn : 1 <= H n) (hg : gh n = .nd 0 f ks) (hq : ∀ x ∈ q, 32 < x.size -> gh x.child = .bl x.key x.size /\ x.child ≠ n) (hk : ∀ a, cI (kN q) a + dl n a + zA (O a) <= H a + cI (aA (V.pg n)) a)
  (he : (V.write n { V.pg n with items := q }).1 = 0) : Gv (V.write n { V.pg n with items := q }).2 (fun a => H a + cI (aA (V.pg n)) a - cI (kN q) a) O (xD gh n (.nd 0 q.length (q.map It.key))) /\ (∀ k, k ≠ n -> (V.write n { V.pg n with items := q }).2.pg k = V.pg k) /\ (∀ m, (V.write n { V.pg n with items := q }).2.bw m = V.bw m) /\ (V.write n { V.pg n with items := q }).2.own n /\ bD { V.pg n with items := q } = 0 := by
 have hc := h.held hn;have hl := h.loc n hc ho;rw [hg] at hl;obtain ⟨l1, l2, l3, l4⟩ := cH.1 hl;have h1 := h.opens hw hn ho;obtain ⟨w1, w2, w3, w4, w5⟩ := h1.write fC he;have hkq : aA { V.pg n with items := q } = kN q := mg (l := 0) (gU (l := 0) l2);have Df := w1.shut (g := .nd 0 q.length (q.map It.key)) fC (by
  rw [w3];exact cH.2 ⟨rfl, gU (l := 0) l2, rfl, fun x hx hs => by rw [dN (hq x hx hs).2]; exact ⟨(hq x hx hs).1, Lz w2 l2 hx hs⟩⟩) (fun a => by
  rw [w3, hkq];have h2 := hk a;have h3 := eE (eR O n a)
  show _ <= H a + cI (aA (V.pg n)) a
  by_cases e : a = n
  ·subst e; rw [dS, ho, tA] at h2; omega
  ·rw [oe e]; rw [js e] at h2; omega)
 rw [w3, rN ho, hkq] at Df;exact ⟨Df, w4, w5, w1.own n fC, w2⟩
theorem lF (a b : List It) : kN (a ++ b) = kN a ++ kN b := E3 (l := 0) a b
theorem U' {b : Bool} {new : It} {T : Tr} {f : Nat} {ks : List bN} (h : Gv V H O gh) (hw : V.own n) (ho : O n = false) (hk : ∀ a, cI (kN [new]) a + dl n a + zA (O a) <= H a) (hg : gh n = .nd 0 f ks) (ly : TQ new gh) (he : (Lu b new V T n (V.pg n)).2.2 = 0) :
  ∃ gh' f' sf, Gv (Lu b new V T n (V.pg n)).1 (fun a => H a - cI (kN [new]) a) O gh' /\ gh' n = .nd 0 f' sf /\ f <= f' /\ sf.length = ks.length + (if b = true then 0 else 1) /\ (∀ k ∈ sf, k ∈ ks \/ k = new.key) /\ sf ≠ [] /\ (∀ k, 1 <= H k - dl n k - cI (kN [new]) k -> gh' k = gh k /\ (Lu b new V T n (V.pg n)).1.pg k = V.pg k) ∧
   (Lu b new V T n (V.pg n)).2.1 = ⟨T.root, T.aK, T.items + if b = true then 0 else 1⟩ := by
 have hn : 1 <= H n := by
  have h1 := hk n;rw [dS] at h1;have := bW (kN [new]) n;have := eE (O n);omega
 have hc := h.held hn;have hl := h.loc n hc ho;rw [hg] at hl;obtain ⟨l1, l2, l3, l4⟩ := cH.1 hl;obtain ⟨s1, s2, s3⟩ := h.self hw hn ho;have Kr : aA (V.pg n) = kN (V.pg n).items := mg (l := 0) l2;have tD := h.J6 hc;have hold : ∀ x ∈ (V.pg n).items, 32 < x.size -> gh x.child = .bl x.key x.size /\ x.child ≠ n := fun x hx hs => ⟨(l4 x hx hs).1, fun e => s1 (e ▸ LA tD l2 hx hs)⟩
 have BO : 32 < new.size -> gh new.child = .bl new.key new.size /\ new.child ≠ n := fun hs => ⟨(ly.ch hs).1, fun e => by
  have h1 := hk n;rw [oC, kU, ah (ly.ch hs).2, e, dS, s2] at h1;have := eE (O n);omega⟩
 obtain ⟨at_, oY⟩ : ∃ a, a = (dw new.key (V.pg n).items 0).1 := ⟨_, rfl⟩;have O0 : ∀ j a, cI (kN (V.pg n).items) a = cI (kN ((V.pg n).items.take j)) a + cI (kN ((V.pg n).items.drop j)) a := fun j a => by rw [<-cM, <-lF, qd]
 have Hd : ∀ (i j : Nat), ∀ x ∈ (V.pg n).items.take i ++ [new] ++ (V.pg n).items.drop j, x ∈ (V.pg n).items \/ x = new := fun i j x hx => by
  rcases eu.1 hx with hx | hx
  ·rcases eu.1 hx with hx | hx
   ·exact .inl (r9 hx)
   exact .inr (by simpa using hx)
  exact .inl (Ad hx)
 have GQ : ∀ k, 1 <= H k - dl n k - cI (kN [new]) k -> k ≠ n := fun k iX e => by
  subst e;rw [dS, s2] at iX;have := bW (kN [new]) k;omega
 cases b with
 | false =>
  have Ba : Lu false new V T n (V.pg n) = Ch new V T n (V.pg n) := rfl;rw [Ba] at he ⊢;unfold Ch at he ⊢
  rw [<-oY] at he ⊢;simp only at he ⊢
  split at he
  ·cases he
  rename_i h1;rw [ae h1];have h1 := cJ.1 h1;simp only at he ⊢;obtain ⟨a1, a2, a3, a4, a5⟩ := h.Wu hw ho hn hg (q := (V.pg n).items.take at_ ++ [new] ++ (V.pg n).items.drop at_) (fun x hx hs => by
    rcases Hd _ _ x hx with hx | rfl
    ·exact hold x hx hs
    ·exact BO hs) (fun a => by
    have h2 := hk a;have h3 := O0 at_ a;rw [Kr, lF, lF, cM, cM]; omega) he
  refine ⟨_, _, _, a1.ey fun a => ?_, jy, ?_, ?_, fun k iX => ?_, ?_, fun k iX => ⟨dN (GQ k iX), a2 k (GQ k iX)⟩, by simp⟩
  ·have h3 := O0 at_ a;rw [Kr, lF, lF, cM, cM]; omega
  ·simp only [cj, fK, iC, jt]; omega
  ·rw [l3]
   show (List.map It.key _).length = ((V.pg n).items.map It.key).length + _
   simp only [bA, cj, fK, iC, jt];simp; omega
  ·obtain ⟨x, hx, rfl⟩ := dd.1 iX;rcases Hd _ _ x hx with hx | rfl
   ·exact .inl (by rw [l3]; exact dd.2 ⟨x, hx, rfl⟩)
   exact .inr rfl
  intro e;have := congrArg List.length e;simp at this
 | true =>
  have Ba : Lu true new V T n (V.pg n) = G0 new V T n (V.pg n) := rfl;rw [Ba] at he ⊢;unfold G0 at he ⊢
  rw [<-oY] at he ⊢;simp only at he ⊢
  split at he
  ·cases he
  rename_i h1;rw [ae h1];split at he
  ·rename_i h2; exact absurd he h2
  rename_i h2;rw [ae h2];have h2 := cJ.1 h2;simp only at he ⊢;obtain ⟨y, hy⟩ : ∃ y, (V.pg n).items[at_]? = some y := ⟨_, cV oM⟩;have G7 : (V.pg n).items.getD at_ zF = y := by rw [qW, hy]; rfl
  rw [G7] at he ⊢;have Ww := ed hy;have hpy : ∀ a, cI (kN ((V.pg n).items.drop at_)) a = cI (kN [y]) a + cI (kN ((V.pg n).items.drop (at_ + 1))) a := fun a => by rw [dG hy, <-cM, <-lF]; rfl
  obtain ⟨a1, a2, a3, a4, a5⟩ := h.Wu hw ho hn hg (q := (V.pg n).items.take at_ ++ [new] ++ (V.pg n).items.drop (at_ + 1)) (fun x hx hs => by
     rcases Hd _ _ x hx with hx | rfl
     ·exact hold x hx hs
     ·exact BO hs) (fun a => by
     have h2 := hk a;have h3 := O0 at_ a;have h4 := hpy a;have := bW (kN [y]) a;rw [Kr, lF, lF, cM, cM]; omega) h2
  obtain ⟨V1, Dl⟩ : ∃ V1, V1 = (V.write n { V.pg n with items := (V.pg n).items.take at_ ++ [new] ++ (V.pg n).items.drop (at_ + 1) }).2 := ⟨_, rfl⟩;rw [<-Dl] at a1 a2 a3 a4 he ⊢;have hH : ∀ a, H a + cI (aA (V.pg n)) a - cI (kN ((V.pg n).items.take at_ ++ [new] ++ (V.pg n).items.drop (at_ + 1))) a = H a - cI (kN [new]) a + cI (kN [y]) a := fun a => by
   have h3 := O0 at_ a;have h4 := hpy a;rw [Kr, lF, lF, cM, cM]; omega
  have a1 := a1.ey (H' := fun a => H a - cI (kN [new]) a + cI (kN [y]) a) fun a => (hH a).symm
  have WL := sV tD l2 y Ww;have aaw : Gv (nq V1 y).2 (fun a => H a - cI (kN [new]) a) O (xD gh n (.nd 0 ((V.pg n).items.take at_ ++ [new] ++ (V.pg n).items.drop (at_ + 1)).length (((V.pg n).items.take at_ ++ [new] ++ (V.pg n).items.drop (at_ + 1)).map It.key))) /\ ∀ k, 1 <= H k - cI (kN [new]) k -> (nq V1 y).2.pg k = V1.pg k := by
   unfold nq at he ⊢
   by_cases hs : y.size <= 32
   ·rw [ah hs];have hy0 := (WL.2.1 hs).2;exact ⟨a1.ey fun a => by rw [oC y, kU, ae (fun h => h hy0)]; omega, fun _ _ => rfl⟩
   rw [ae hs] at he ⊢;have Fc := LA tD l2 Ww oM;have JG : y.child ≠ 0 := fun e => by
    have := df Fc;have h5 := h.Sy hc ho Fc;rw [e] at h5;have h6 : bg V.po.c 0 := cg h5;unfold bg at h6; omega
   have hH2 : ∀ a, cI (kN [y]) a = dl y.child a := fun a => by rw [oC, kU, ah JG]
   obtain ⟨d1, d2⟩ := a1.drop (n := y.child) (by
       have h5 := hk y.child;have := eE (O y.child);have := fN n y.child;rw [hH2, dS]; omega) (h.Ll hc ho Fc) he
   have d1 := d1.ey (H' := fun a => H a - cI (kN [new]) a) fun a => by rw [hH2]; omega
   exact ⟨d1, fun k iX => d2 k (d1.held iX)⟩
  refine ⟨_, _, _, aaw.1, jy, ?_, ?_, fun k iX => ?_, ?_, fun k iX => ⟨dN (GQ k iX), ?_⟩, by simp⟩
  ·simp only [cj, fK, iC, jt]; omega
  ·rw [l3]
   show (List.map It.key _).length = ((V.pg n).items.map It.key).length + _
   simp only [bA, cj, fK, iC, jt];simp; omega
  ·obtain ⟨x, hx, rfl⟩ := dd.1 iX;rcases Hd _ _ x hx with hx | rfl
   ·exact .inl (by rw [l3]; exact dd.2 ⟨x, hx, rfl⟩)
   exact .inr rfl
  ·intro e;have := congrArg List.length e;simp at this
  have := fN n k;rw [aaw.2 k oM];exact a2 k (GQ k iX)
end
theorem Cy (key : bN) : ∀ (l : List It) (a : Nat), 1 <= a -> a - 1 <= jd key l a /\ (∀ i x, a <= i -> i <= jd key l a -> l[i - a]? = some x -> bU x.key key <= 0) /\ ∀ x, l[jd key l a + 1 - a]? = some x -> 0 < bU x.key key
 | [], a, h => ⟨by simp [jd], fun i x h1 h2 h3 => by simp at h3, fun x h3 => by simp at h3⟩
 | y :: l, a, h => by
  rw [jd]
  by_cases h1 : 0 < bU y.key key
  ·rw [ah h1];refine ⟨eW _, fun i x h2 h3 => by omega, fun x hx => ?_⟩;rw [show a - 1 + 1 - a = 0 by omega] at hx;simp at hx; subst hx; exact h1
  rw [ae h1];obtain ⟨i1, i2, i3⟩ := Cy key l (a + 1) oM;refine ⟨oM, fun i x h2 h3 hx => ?_, fun x hx => ?_⟩
  ·by_cases e : i = a
   ·subst e;rw [Ab] at hx;simp at hx; subst hx; omega
   refine i2 i x oM h3 ?_;rw [show i - a = (i - (a + 1)) + 1 by omega] at hx
   simpa using hx
  refine i3 x ?_;rw [show jd key l (a + 1) + 1 - a = (jd key l (a + 1) + 1 - (a + 1)) + 1 by omega] at hx
  simpa using hx
theorem vI {key : bN} {l : List It} : (∀ i x, 1 <= i -> i <= de key l -> l[i]? = some x -> bU x.key key <= 0) /\ ∀ x, l[de key l + 1]? = some x -> 0 < bU x.key key := by
 obtain ⟨-, h2, h3⟩ := Cy key (l.drop 1) 1 (eW _);refine ⟨fun i x h4 h5 hx => h2 i x h4 h5 ?_, fun x hx => h3 x ?_⟩
 ·rw [K7, show 1 + (i - 1) = i by omega]; exact hx
 rw [K7, show 1 + (jd key (l.drop 1) 1 + 1 - 1) = jd key (l.drop 1) 1 + 1 by omega]; exact hx
theorem Nz {p : Pg} (h : bD p = 0) (hk : p.kind = 2) {x : It} (hx : p.items[0]? = some x) : x.key = [] := by
 unfold bD at h;simp only [bZ] at h
 have h2 := h.2.1;cases hi : p.items with
 | nil => rw [hi] at hx; cases hx
 | cons y r =>
  rw [hi] at hx h2;simp at hx; subst hx
  rw [ir, bZ] at h2;have h3 := h2.1;unfold uM at h3
  simp only [bZ] at h3;have h4 := h3.1;unfold ub at h4
  rw [ah ⟨hk, rfl⟩] at h4;exact yS ((gz dM).1 h4)
theorem KT {p : Pg} {key : bN} {x : It} (hc : bD p = 0) (hk : p.kind = 2) (Qt : iJ key) (hx : p.items[de key p.items]? = some x) : OQ x.key (Js (p.items.drop (de key p.items + 1)) none) key := by
 obtain ⟨h1, h2⟩ := vI (key := key) (l := p.items);refine ⟨Qt, ?_, fun h e => ?_⟩
 ·by_cases h0 : de key p.items = 0
  ·rw [h0] at hx;rw [Nz hc hk hx]; exact AT _
  exact xx (h1 _ _ oM (eW _) hx)
 cases hd : p.items.drop (de key p.items + 1) with
 | nil => rw [hd] at e; cases e
 | cons y r =>
  rw [hd] at e;cases e;have : p.items[de key p.items + 1]? = some y := by
   have h3 : (p.items.drop (de key p.items + 1))[0]? = some y := by rw [hd]; rfl
   rwa [K7, PJ] at h3
  exact Mn (h2 y this)
section
variable {gh gh' : mJ} {l : Nat}
theorem mn {a : List It} {x : It} {b : List It} : qi gh l (a ++ x :: b) none ↔ qi gh l a (some x.key) /\ OK gh l x.key (Js b none) x.child /\ qi gh l b none := by
 rw [qh]; exact Iff.rfl
theorem qf (a : List It) (x : It) (b : List It) : iG gh (a ++ x :: b) = iG gh a ++ ((gh x.child).ks ++ iG gh b) := by rw [xn]; unfold iG; rw [ku]
theorem mC {q : List It} {a : Nat} {x : It} (h : q[a]? = some x) : q = q.take a ++ x :: q.drop (a + 1) := by rw [<-dG h, qd]
end
theorem gi (a : List It) (x : It) (b : List It) (k : Int) : cI ((a ++ x :: b).map It.child) k = cI (a.map It.child) k + cI (b.map It.child) k + dl x.child k := by
 rw [il, cG, cM, gr]; unfold dl; omega
section
variable {V : Va} {H : Int -> Int} {O : Int -> Bool} {gh : mJ} {n : Int} {l : Nat}
structure Ix (V : Va) (H : Int -> Int) (O : Int -> Bool) (gh : mJ) (n : Int) (l : Nat) (p : Pg) (ks : List bN) : Prop where
 g : Gv V (fun a => H a + cI (aA p) a) (eR O n) gh
 pg : V.pg n = p
 ck : bD p = 0
 kd : p.kind = 2 /\ p.level = (l : Int) + 1
 ks : ks = iG gh p.items
 ch : qi gh l p.items none
 self : n ∉ aA p
 ho : O n = false
theorem Ix.alone {p : Pg} {ks : List bN} (h : Ix V H O gh n l p ks) (hH : ∀ a, 0 <= H a) {j : Nat} {x : It} (hx : p.items[j]? = some x) (hw : V.own x.child) : H x.child = 0 /\ cI ((p.items.take j).map It.child) x.child = 0 /\ cI ((p.items.drop (j + 1)).map It.child) x.child = 0 /\ x.child ≠ n := by
 have h1 := h.g.B1 x.child;have h2 := hw.2;have h3 : cI (aA p) x.child = cI ((p.items.take j).map It.child) x.child + cI ((p.items.drop (j + 1)).map It.child) x.child + dl x.child x.child := by
  rw [dy h.kd.1, mC hx];rw [gi];rw [<-mC hx]
 rw [dS] at h3;have h4 := bW ((p.items.take j).map It.child) x.child;have h5 := bW ((p.items.drop (j + 1)).map It.child) x.child;have h6 := hH x.child;have h1 : H x.child + cI (aA p) x.child <= V.bw x.child := h1;exact ⟨oM, oM, oM, fun e => h.self (by rw [<-e]; exact g9 h.kd.1 (ed hx))⟩
theorem Ix.shut {p : Pg} {ks : List bN} {V' : Va} {gh' : mJ} {H' : Int -> Int} {j f f' : Nat} {x : It} {kj kj' : List bN} (h : Ix V H O gh n l p ks) (hx : p.items[j]? = some x) (hg : gh x.child = .nd l f kj) (hff : 4 <= f') (ly : kj' ≠ []) (hkj : ∀ k ∈ kj', OQ x.key (Js (p.items.drop (j + 1)) none) k)
  (hv : Gv V' (fun a => H' a + cI (aA p) a) (eR O n) gh') (hp : V'.pg n = p) (hg' : gh' x.child = .nd l f' kj') (OX : ∀ y ∈ p.items.take j ++ p.items.drop (j + 1), gh' y.child = gh y.child) (hb : ∀ a, zA (eR O n a) <= H' a) :
  ∃ QF sf, Gv V' H' O QF /\ QF n = .nd (l + 1) p.items.length sf /\ sf = iG gh (p.items.take j) ++ (kj' ++ iG gh (p.items.drop (j + 1))) /\ ks = iG gh (p.items.take j) ++ (kj ++ iG gh (p.items.drop (j + 1))) /\ sf ≠ [] /\ ∀ k, k ≠ n -> QF k = gh' k := by
 have e1 := mC hx;have qU := h.ch;have Ar := h.ks;rw [e1, mn] at qU;rw [e1, qf, hg] at Ar
 have Di : ∀ y ∈ p.items.take j, gh' y.child = gh y.child := fun y hy => OX y (oT _ hy)
 have JJ : ∀ y ∈ p.items.drop (j + 1), gh' y.child = gh y.child := fun y hy => OX y (qV _ hy)
 have YH : qi gh' l p.items none := by
  rw [e1, mn];obtain ⟨f0, k0, o1, o2, o3, o4⟩ := qU.2.1;rw [hg] at o1; cases o1;exact ⟨eD Di qU.1, ⟨f', kj', hg', oM, ly, hkj⟩, eD JJ qU.2.2⟩
 have aaM : iG gh' p.items = iG gh (p.items.take j) ++ (kj' ++ iG gh (p.items.drop (j + 1))) := by
  rw [e1, qf, hg', eA Di, eA JJ, <-e1]; rfl
 have Df := hv.shut (g := .nd (l + 1) p.items.length (iG gh' p.items)) fC (by
  rw [hp];refine jV.congr (gh := gh') h.ck (fun k hk => dN fun e => h.self (by rw [<-e]; exact hk)) ?_;exact qs.2 ⟨rfl, h.kd.1, h.kd.2, rfl, YH⟩) (fun a => by
  have := hb a;rw [hp]
  show _ <= H' a + cI (aA p) a
  omega)
 rw [hp, rN h.ho] at Df;refine ⟨_, _, Df.ey fun a => by omega, jy, aaM, Ar, ?_, fun k hk => dN hk⟩;rw [aaM];intro e;exact ly (R8.1 (R8.1 e).2).1
theorem Gv.index (h : Gv V H O gh) (hw : V.own n) (hn : 1 <= H n) (ho : O n = false) {f : Nat} {ks : List bN} (hg : gh n = .nd (l + 1) f ks) : Ix V H O gh n l (V.pg n) ks /\ f = (V.pg n).items.length := by
 have hc := h.held hn;have hl := h.loc n hc ho;rw [hg] at hl;obtain ⟨l1, l2, l3, l4, l5⟩ := qs.1 hl;exact ⟨⟨h.opens hw hn ho, rfl, h.J6 hc, ⟨l2, l3⟩, l4, l5, (h.self hw hn ho).1, ho⟩, l1⟩
theorem Ix.aO {p : Pg} {ks : List bN} (h : Ix V H O gh n l p ks) (hH : ∀ a, zA (eR O n a) <= H a) {a : Nat} {x : It} (hx : p.items[a]? = some x) (he : (V.aO x.child).2.1 = 0) : ∃ gh', Gv (V.aO x.child).2.2 (fun k => H k + cI (aA { p with items := aP p.items a (V.aO x.child).1 }) k) (eR O n) gh' /\ (V.aO x.child).2.2.pg n = p /\ (V.aO x.child).2.2.own (V.aO x.child).1 /\ gh' (V.aO x.child).1 = gh x.child /\ (∀ y ∈ p.items.take a ++ p.items.drop (a + 1), gh' y.child = gh y.child /\ y.child ≠ (V.aO x.child).1) ∧
  H (V.aO x.child).1 = 0 /\ (V.aO x.child).1 ≠ n /\ (∀ k, 1 <= H k -> gh' k = gh k /\ (V.aO x.child).2.2.pg k = V.pg k) /\ (V.aO x.child).2.2.pg (V.aO x.child).1 = V.pg x.child := by
 have Hd := ed hx;have hkx := g9 h.kd.1 Hd;have ZE : ∀ (c k : Int), cI ((p.items.take a ++ ({ x with child := c } : It) :: p.items.drop (a + 1)).map It.child) k = cI ((p.items.take a).map It.child) k + cI ((p.items.drop (a + 1)).map It.child) k + dl c k := fun c k => gi _ _ _ _
 have Kr : ∀ k, cI (aA p) k = cI ((p.items.take a).map It.child) k + cI ((p.items.drop (a + 1)).map It.child) k + dl x.child k := fun k => by
  rw [dy h.kd.1]
  conv => lhs; rw [mC hx]
  exact gi _ _ _ _
 have Q5 : ∀ k, 0 <= H k := fun k => by have := hH k; have := eE (eR O n k); omega
 have hox : eR O n x.child = false := by
  cases e : eR O n x.child with
  | false => rfl
  | true =>
   exfalso;have h1 := (h.g.CE e).1;have h2 := hH x.child;have h3 := df hkx;rw [e, rS] at h2;have h1 : H x.child + cI (aA p) x.child = 1 := h1;omega
 have h1x : 1 <= H x.child + cI (aA p) x.child := by have := Q5 x.child; have := df hkx; omega
 obtain ⟨gh', s1, s2, s3, s4, s5, s6, s7, s8⟩ := h.g.aO (n := x.child) h1x hox he;obtain ⟨c, hc⟩ : ∃ c, c = (V.aO x.child).1 := ⟨_, rfl⟩;rw [<-hc] at s1 s2 s3 s4 s5 s8 ⊢;have lG : aP p.items a c = p.items.take a ++ ({ x with child := c } : It) :: p.items.drop (a + 1) := by
  rw [gS c hx, Lb, ah (nU.1 hx).1]
 have hHc : ∀ k, H k + cI (aA p) k - dl x.child k + dl c k = H k + cI ((p.items.take a).map It.child) k + cI ((p.items.drop (a + 1)).map It.child) k + dl c k := fun k => by rw [Kr]; omega
 have kP : H c = 0 /\ cI ((p.items.take a).map It.child) c = 0 /\ cI ((p.items.drop (a + 1)).map It.child) c = 0 := by
  have h2 := s1.B1 c;have h3 := s2.2;have h2 : H c + cI (aA p) c - dl x.child c + dl c c <= _ := h2;rw [hHc, dS, h3] at h2;have := Q5 c;have := bW ((p.items.take a).map It.child) c;have := bW ((p.items.drop (a + 1)).map It.child) c;omega
 have xt : c ≠ n := fun e => by
  have h2 := hH n;rw [fC, rS, <-e, kP.1] at h2; omega
 have NS : ∀ k, 1 <= H k + cI (aA p) k -> V.bw k ≠ 0 := fun k hk => h.g.held hk
 have aaF : ∀ k, 1 <= H k + cI (aA p) k - dl x.child k -> (V.aO x.child).2.2.pg k = V.pg k := fun k hk => by
  have hd := fN x.child k;refine s7 k (NS k oM) ?_
  by_cases e : k = x.child
  ·right
   subst e;refine s1.held (n := x.child) ?_;have := fN c x.child
   show 1 <= H x.child + cI (aA p) x.child - dl x.child x.child + dl c x.child
   omega
  exact .inl e
 have aa8 : ∀ k, 1 <= H k -> 1 <= H k + cI (aA p) k - dl x.child k := fun k hk => by
  rw [Kr];have := bW ((p.items.take a).map It.child) k;have := bW ((p.items.drop (a + 1)).map It.child) k;omega
 have hnH : 1 <= H n := by have := hH n; rw [fC, rS] at this; exact this
 refine ⟨gh', s1.ey fun k => ?_, ?_, s2, s5, fun y hy => ?_, kP.1, xt, fun k hk => ?_, s4⟩
 ·rw [dy (show ({ p with items := aP p.items a c } : Pg).kind = 2 from h.kd.1)]
  show H k + cI ((aP p.items a c).map It.child) k = _
  rw [lG, ZE, hHc]; omega
 ·rw [aaF n (aa8 n hnH), h.pg]
 ·have hyp : y ∈ p.items := by
   rcases eu.1 hy with hy | hy
   ·exact r9 hy
   exact Ad hy
  have Fc := g9 h.kd.1 hyp;refine ⟨s6 _ (NS _ (by have := df Fc; have := Q5 y.child; omega)), fun e => ?_⟩;rcases eu.1 hy with hy | hy
  ·have := df (dd.2 ⟨y, hy, e⟩);omega
  have := df (dd.2 ⟨y, hy, e⟩);omega
 exact ⟨s6 k (NS k (by have := bW (aA p) k; omega)), aaF k (aa8 k hk)⟩
end
theorem Aa (key : bN) : ∀ (l l' : List It) (a : Nat), l.map It.key = l'.map It.key -> jd key l a = jd key l' a
 | [], [], _, _ => rfl
 | [], _ :: _, _, h => by simp at h
 | _ :: _, [], _, h => by simp at h
 | x :: l, y :: l', a, h => by
  simp only [cG, List.cons.injEq] at h;rw [jd, jd, h.1, Aa key l l' _ h.2]
theorem Jf {key : bN} {l l' : List It} (h : l.map It.key = l'.map It.key) : de key l = de key l' := Aa key _ _ _ (by rw [K4, K4, h])
theorem jh {l : List It} {k : Nat} {x : It} (h : l[k]? = some x) : bh l k = x.child := by unfold bh; rw [h]; rfl
theorem Bi {V : Va} {n m : Int} {p : Pg} (he : (V.write n p).1 = 0) (h : V.own m) : (V.write n p).2.own m := by
 rw [(qz he).2.2]; exact h
section
variable {V : Va} {H : Int -> Int} {O : Int -> Bool} {gh : mJ} {n : Int} {l : Nat} {key : bN}
theorem VL {p : Pg} {ks : List bN} (h : Ix V H O gh n l p ks) (hH : ∀ a, zA (eR O n a) <= H a) (Qt : iJ key) (he : (kC V n p key).2.2 = 0) :
  ∃ (u6 : mJ) (p2 : Pg) (j : Nat) (x2 : It), Ix (kC V n p key).1 H O u6 n l p2 ks /\ p.items.length <= p2.items.length /\ p2.items[j]? = some x2 /\ (kC V n p key).2.1 = x2.child /\ (kC V n p key).1.own x2.child /\ OQ x2.key (Js (p2.items.drop (j + 1)) none) key /\ (∀ k, 1 <= H k -> k ≠ n -> u6 k = gh k /\ (kC V n p key).1.pg k = V.pg k) := by
 have Qy := (ji h.ck).2.2.1 h.kd.1;have CT : de key p.items < p.items.length := tO oM;obtain ⟨a, ha⟩ : ∃ a, a = de key p.items := ⟨_, rfl⟩
 (try unfold sQ at CT); rw [<-ha] at CT
 obtain ⟨x, hx⟩ : ∃ x, p.items[a]? = some x := ⟨_, cV CT⟩;unfold kC at he ⊢;rw [<-ha] at he ⊢
 rw [ae oM] at he ⊢;rw [jh hx] at he ⊢
 simp only at he ⊢
 by_cases h1 : (V.aO x.child).2.1 ≠ 0
 ·rw [ah h1] at he; exact absurd he h1
 rw [ae h1] at he ⊢;have h1 := cJ.1 h1;obtain ⟨gh', s1, s2, s3, s4, s5, s6, s7, s8, s9⟩ := h.aO hH hx h1;obtain ⟨V1, Dl⟩ : ∃ V1, V1 = (V.aO x.child).2.2 := ⟨_, rfl⟩;obtain ⟨c, hc⟩ : ∃ c, c = (V.aO x.child).1 := ⟨_, rfl⟩;rw [<-Dl, <-hc] at s1 s3 s9 he ⊢
 rw [<-Dl] at s2 s8;rw [<-hc] at s4 s5 s6 s7
 have lG : aP p.items a c = p.items.take a ++ ({ x with child := c } : It) :: p.items.drop (a + 1) := by
  rw [gS c hx, Lb, ah (nU.1 hx).1]
 have GN : (p.items.take a).length = a := by rw [fK]; omega
 have qU := h.ch;have Ar := h.ks;rw [mC hx, mn] at qU;rw [mC hx, qf] at Ar
 obtain ⟨c1, ⟨f, kc, c2, c3, c4, c5⟩, c6⟩ := qU;rw [c2] at s4 Ar;have Ar : ks = iG gh (p.items.take a) ++ (kc ++ iG gh (p.items.drop (a + 1))) := Ar;have hT : ∀ y ∈ p.items.take a, gh' y.child = gh y.child := fun y hy => (s5 y (oT _ hy)).1
 have hD : ∀ y ∈ p.items.drop (a + 1), gh' y.child = gh y.child := fun y hy => (s5 y (qV _ hy)).1
 have hcO : eR O n c = false := by
  cases e : eR O n c with
  | false => rfl
  | true => have h2 := hH c; rw [e, rS, s6] at h2; omega
 have LY : ∀ k, cI (aA { p with items := aP p.items a c }) k = cI ((p.items.take a).map It.child) k + cI ((p.items.drop (a + 1)).map It.child) k + dl c k := fun k => by
  rw [dy (show ({ p with items := aP p.items a c } : Pg).kind = 2 from h.kd.1)]
  show cI ((aP p.items a c).map It.child) k = _
  rw [lG, gi]
 have n4 : ∀ y ∈ p.items.take a ++ p.items.drop (a + 1), y.child ≠ n := fun y hy e => h.self (by
   rw [<-e];refine g9 h.kd.1 ?_;rcases eu.1 hy with hy | hy
   ·exact r9 hy
   ·exact Ad hy)
 have JI := vI (key := key) (l := p.items)
 (try unfold sQ at JI); rw [<-ha] at JI
 by_cases h2 : (cY V1 c).2.2.2 ≠ 0
 ·rw [ah h2] at he; exact absurd he h2
 rw [ae h2] at he ⊢;have h2 := cJ.1 h2;have Bd : 1 <= H c + cI (aA { p with items := aP p.items a c }) c := by
  rw [s6, LY, dS];have := bW ((p.items.take a).map It.child) c;have := bW ((p.items.drop (a + 1)).map It.child) c;omega
 rcases s1.half s3 Bd hcO s4 h2 with ⟨m0, mV⟩ | ⟨Dm, E2, JD, m1, m2, m3, m4, m5, m6, m7, m8, m9, m10, Zp, Zo, Ws⟩
 ·
  rw [m0, mV] at he ⊢;simp only [ne_eq, not_true_eq_false, false_and, if_false] at he ⊢
  obtain ⟨w1, w2, w3, w4, w5⟩ := s1.write fC he;have aaR : (aP p.items a c).map It.key = p.items.map It.key := by
   rw [lG]
   conv => rhs; rw [mC hx]
   rw [il, cG, il, cG]
  have Vt : (aP p.items a c)[a]? = some { x with child := c } := by
   rw [lG, xI oM, GN, Ab]; rfl
  have hra : de key (aP p.items a c) = a := by rw [Jf aaR, <-ha]
  refine ⟨gh', { p with items := aP p.items a c }, a, { x with child := c }, ⟨w1, w3, w2, h.kd, ?_, ?_, ?_, h.ho⟩, ?_, Vt, ?_, Bi he s3, ?_, fun k hk uO => ⟨(s8 k hk).1, (w4 k uO).trans (s8 k hk).2⟩⟩
  ·show ks = iG gh' (aP p.items a c)
   rw [lG, qf]
   show _ = iG gh' (p.items.take a) ++ ((gh' c).ks ++ iG gh' (p.items.drop (a + 1)))
   rw [s4, eA hT, eA hD]; exact Ar
  ·show qi gh' l (aP p.items a c) none
   rw [lG, mn];exact ⟨eD hT c1, ⟨f, kc, s4, c3, c4, c5⟩, eD hD c6⟩
  ·intro hk;rw [dy (show ({ p with items := aP p.items a c } : Pg).kind = 2 from h.kd.1)] at hk;have hk : n ∈ (aP p.items a c).map It.child := hk;rw [lG, il, cG, eu, bB] at hk
   rcases hk with hk | hk | hk
   ·obtain ⟨y, hy, e⟩ := dd.1 hk; exact n4 y (oT _ hy) e
   ·exact s7 hk.symm
   obtain ⟨y, hy, e⟩ := dd.1 hk; exact n4 y (qV _ hy) e
  ·show _ <= (aP p.items a c).length
   unfold aP; rw [R2]; exact eW _
  ·show (if _ then _ else _) = c
   rw [ae (not_not_intro he), hra, jh Vt]
  have h3 := KT w2 h.kd.1 Qt (x := { x with child := c }) (by show (aP p.items a c)[de key (aP p.items a c)]? = _; rw [hra]; exact Vt);have h3 : OQ x.key (Js ((aP p.items a c).drop (de key (aP p.items a c) + 1)) none) key := h3;rw [hra] at h3; exact h3
 obtain ⟨m, hm⟩ : ∃ m, m = (cY V1 c).2.1 := ⟨_, rfl⟩;obtain ⟨sep, Fg⟩ : ∃ s, s = (cY V1 c).2.2.1 := ⟨_, rfl⟩;obtain ⟨V2, YQ⟩ : ∃ V2, V2 = (cY V1 c).1 := ⟨_, rfl⟩;rw [<-hm, <-Fg, <-YQ] at he ⊢;rw [<-hm] at m1 m2 m3 m5 m7
 rw [<-Fg] at Zp Zo;rw [<-YQ] at m3 m4 m5 Ws
 split at he
 ·cases he
 rename_i h4;rw [ae h4, ah m1];simp only at he ⊢;have iE : (aP p.items a c).take (a + 1) ++ [(⟨sep, [], m, 0⟩ : It)] ++ (aP p.items a c).drop (a + 1) = p.items.take a ++ ({ x with child := c } : It) :: (⟨sep, [], m, 0⟩ : It) :: p.items.drop (a + 1) := by
  rw [lG];have e1 : (p.items.take a ++ ({ x with child := c } : It) :: p.items.drop (a + 1)).take (a + 1) = p.items.take a ++ [({ x with child := c } : It)] := by
   rw [RY, GN, show a + 1 - a = 1 by omega, vN oM]; rfl
  have e2 : (p.items.take a ++ ({ x with child := c } : It) :: p.items.drop (a + 1)).drop (a + 1) = p.items.drop (a + 1) := by
   rw [PO, GN, show a + 1 - a = 1 by omega, R7 oM]; rfl
  rw [e1, e2]; simp
 rw [iE] at he ⊢;obtain ⟨p2, T6⟩ : ∃ p2, p2 = ({ p with items := p.items.take a ++ ({ x with child := c } : It) :: (⟨sep, [], m, 0⟩ : It) :: p.items.drop (a + 1) } : Pg) := ⟨_, rfl⟩;have JO : p2.items = p.items.take a ++ ({ x with child := c } : It) :: (⟨sep, [], m, 0⟩ : It) :: p.items.drop (a + 1) := by rw [T6]
 have Yj : p2.kind = 2 := by rw [T6]; exact h.kd.1
 rw [<-T6] at he ⊢;rw [<-JO];obtain ⟨w1, w2, w3, w4, w5⟩ := m3.write fC he;have hnc : V1.bw n = 1 := (s1.CE fC).2.2;have Hc : m ≠ n := fun e => by rw [e, hnc] at m2; cases m2
 have hmc : m ≠ c := fun e => by
  have := s3.2;rw [e] at m2; omega
 have aaN : ∀ k, cI (aA p2) k = cI (aA { p with items := aP p.items a c }) k + dl m k := fun k => by
  rw [LY, dy Yj, JO, gi, cG, gr];simp only [dl]; omega
 have aa6 : ∀ y ∈ p.items.take a ++ p.items.drop (a + 1), V1.bw y.child ≠ 0 := fun y hy => by
  refine s1.held (n := y.child) ?_
  show 1 <= H y.child + cI (aA { p with items := aP p.items a c }) y.child
  have h5 := hH y.child;have h6 := eE (eR O n y.child);rw [LY];have h7 := bW ((p.items.take a).map It.child) y.child;have h8 := bW ((p.items.drop (a + 1)).map It.child) y.child;have h9 := fN c y.child;rcases eu.1 hy with hy | hy
  ·have := df (pB (f := It.child) hy); omega
  have := df (pB (f := It.child) hy); omega
 have VE : ∀ y ∈ p.items.take a, Dm y.child = gh y.child := fun y hy => ((Ws _ (aa6 y (oT _ hy)) (s5 y (oT _ hy)).2).1).trans (hT y hy)
 have hD2 : ∀ y ∈ p.items.drop (a + 1), Dm y.child = gh y.child := fun y hy => ((Ws _ (aa6 y (qV _ hy)) (s5 y (qV _ hy)).2).1).trans (hD y hy)
 have WC : ∀ k ∈ E2, k ∈ kc := fun k hk => by rw [m8]; exact oT _ hk
 have WB : ∀ k ∈ JD, k ∈ kc := fun k hk => by rw [m8]; exact qV _ hk
 have Tl : qi Dm l p2.items none := by
  rw [JO, mn];refine ⟨eD VE c1, ⟨4, E2, m6, eW _, m9, fun k hk => ⟨(c5 k (WC k hk)).1, (c5 k (WC k hk)).2.1, fun h' e => ?_⟩⟩, ⟨4, JD, m7, eW _, m10, fun k hk => ⟨(c5 k (WB k hk)).1, Zo k hk, (c5 k (WB k hk)).2.2⟩⟩, eD hD2 c6⟩;cases e;exact Zp k hk
 have Ys : ks = iG Dm p2.items := by
  rw [JO, qf]
  show _ = iG Dm (p.items.take a) ++ ((Dm c).ks ++ iG Dm ((⟨sep, [], m, 0⟩ : It) :: p.items.drop (a + 1)))
  have e3 : iG Dm ((⟨sep, [], m, 0⟩ : It) :: p.items.drop (a + 1)) = JD ++ iG gh (p.items.drop (a + 1)) := by
   unfold iG;rw [ku]
   show (Dm m).ks ++ _ = _
   rw [m7]
   congr 1
   exact eA hD2
  rw [m6, e3, eA VE, Ar, m8]
  show _ = iG gh (p.items.take a) ++ (E2 ++ (JD ++ iG gh (p.items.drop (a + 1))))
  simp
 have X' : n ∉ aA p2 := fun hk => by
  have h5 := df hk;rw [aaN, LY, js (fun e => Hc e.symm), js (fun e => s7 e.symm)] at h5
  by_cases e1 : cI ((p.items.take a).map It.child) n = 0
  ·have e2 : cI ((p.items.drop (a + 1)).map It.child) n ≠ 0 := oM;obtain ⟨y, hy, e⟩ := dd.1 (uF e2); exact n4 y (qV _ hy) e
  obtain ⟨y, hy, e⟩ := dd.1 (uF e1); exact n4 y (oT _ hy) e
 have NM : Ix (V2.write n p2).2 H O Dm n l p2 ks := ⟨w1.ey fun k => by show H k + cI (aA p2) k = H k + cI (aA { p with items := aP p.items a c }) k + dl m k; rw [aaN]; omega, w3, w2, ⟨Yj, by rw [T6]; exact h.kd.2⟩, Ys, Tl, X', h.ho⟩;obtain ⟨j, hj⟩ : ∃ j, j = de key p2.items := ⟨_, rfl⟩;have adi : p2.items.length = p.items.length + 1 := by
  rw [JO]; simp only [cj, jO, iC, GN]; omega
 have Te : j < p2.items.length := by rw [hj]; exact tO oM
 have JJ := vI (key := key) (l := p2.items)
 (try unfold sQ at JJ); rw [<-hj] at JJ
 have oF : ∀ i, i < a -> p2.items[i]? = p.items[i]? := fun i hi => by
  rw [JO, List.getElem?_append_left oM, List.getElem?_take, ah hi]
 have Fo : p2.items[a]? = some { x with child := c } := by rw [JO, xI oM, GN, Ab]; rfl
 have acg : p2.items[a + 1]? = some ⟨sep, [], m, 0⟩ := by rw [JO, xI oM, GN, show a + 1 - a = 1 by omega]; rfl
 have hhi : ∀ i, a + 2 <= i -> p2.items[i]? = p.items[i - 1]? := fun i hi => by
  rw [JO, xI oM, GN, show i - a = (i - a - 2) + 1 + 1 by omega, List.getElem?_cons_succ, List.getElem?_cons_succ, K7]
  congr 1; omega
 have hj2 : j = a \/ j = a + 1 := by
  by_cases e1 : j < a
  ·exfalso
   by_cases e2 : j + 1 = a
   ·have h5 := JJ.2 _ (by rw [e2]; exact Fo);have h6 := JI.1 a x oM (eW _) hx;have h5 : 0 < bU x.key key := h5;omega
   obtain ⟨z, hz⟩ : ∃ z, p.items[j + 1]? = some z := ⟨_, cV oM⟩;have h5 := JJ.2 z (by rw [oF _ oM]; exact hz);have h6 := JI.1 (j + 1) z oM oM hz;omega
  by_cases e2 : a + 2 <= j
  ·exfalso;obtain ⟨z, hz⟩ : ∃ z, p.items[a + 1]? = some z := ⟨_, cV oM⟩;have h5 := JJ.1 (a + 2) z oM e2 (by rw [hhi _ (eW _)]; exact hz);have h6 := JI.2 z hz;omega
  omega
 obtain ⟨x2, SP⟩ : ∃ x2, p2.items[j]? = some x2 := ⟨_, cV Te⟩;have abY : (V2.write n p2).2.own x2.child := by
  refine Bi he ?_;rcases hj2 with e | e
  ·rw [e, Fo] at SP; cases SP; exact m4
  rw [e, acg] at SP; cases SP; exact m5
 refine ⟨Dm, p2, j, x2, NM, oM, SP, ?_, abY, ?_, fun k hk uO => ?_⟩
 ·show (if _ then _ else _) = _
  rw [ae (not_not_intro he), <-hj, jh SP]
 ·have := KT w2 Yj Qt (by rw [<-hj]; exact SP);rw [<-hj] at this; exact this
 have h5 : V1.bw k ≠ 0 := s1.held (n := k) (by
       show 1 <= H k + cI (aA { p with items := aP p.items a c }) k
       have := bW (aA { p with items := aP p.items a c }) k;omega)
 have h6 : k ≠ c := fun e => by rw [e, s6] at hk; omega
 have h7 := Ws k h5 h6;exact ⟨h7.1.trans (s8 k hk).1, (w4 k uO).trans (h7.2.trans (s8 k hk).2)⟩
end
def EN (b : Bool) : Nat := if b = true then 0 else 1
theorem US {b : Bool} {new : It} : ∀ (l f : Nat) (V : Va) (T : Tr) (n : Int) (H : Int -> Int) (O : Int -> Bool) (gh : mJ) (f0 : Nat) (ks : List bN), l < f -> Gv V H O gh -> V.own n -> O n = false -> (∀ a, cI (kN [new]) a + dl n a + zA (O a) <= H a) -> gh n = .nd l f0 ks -> TQ new gh →
  ∃ r, Ae new.key (Lu b new) f V T n = some r /\ (r.2.2 = 0 -> ∃ gh' f' sf, Gv r.1 (fun a => H a - cI (kN [new]) a) O gh' /\ gh' n = .nd l f' sf /\ f0 <= f' /\ sf.length = ks.length + EN b /\ (∀ k ∈ sf, k ∈ ks \/ k = new.key) /\ sf ≠ [] /\ (∀ k, 1 <= H k - dl n k - cI (kN [new]) k -> gh' k = gh k /\ r.1.pg k = V.pg k) /\ r.2.1 = ⟨T.root, T.aK, T.items + (EN b : Int)⟩) := by
 intro l
 induction l with
 | zero =>
  intro f V T n H O gh f0 ks hf h hw ho hk hg ly;obtain ⟨f, rfl⟩ : ∃ g, f = g + 1 := ⟨f - 1, oM⟩;have hn : 1 <= H n := by
   have h1 := hk n;rw [dS] at h1;have := bW (kN [new]) n;have := eE (O n);omega
  have hc := h.held hn;have hl := h.loc n hc ho;rw [hg] at hl;have Qu : (V.pg n).kind = 1 := (cH.1 hl).2.1;rw [Ae, rD hc];simp only;rw [ah oM];refine ⟨_, rfl, fun he => ?_⟩;obtain ⟨gh', f', sf, a1, a2, a3, a4, a5, a6, a7, a8⟩ := U' (T := T) h hw ho hk hg ly he;refine ⟨gh', f', sf, a1, a2, a3, a4, a5, a6, a7, ?_⟩;rw [a8];unfold EN;cases b <;> rfl
 | succ l ih =>
  intro f V T n H O gh f0 ks hf h hw ho hk hg ly;obtain ⟨f, rfl⟩ : ∃ g, f = g + 1 := ⟨f - 1, oM⟩;have hn : 1 <= H n := by
   have h1 := hk n;rw [dS] at h1;have := bW (kN [new]) n;have := eE (O n);omega
  have hc := h.held hn;obtain ⟨NM, hf0⟩ := h.index hw hn ho hg;obtain ⟨s1, s2, s3⟩ := h.self hw hn ho;have iX : ∀ a, cI (kN [new]) a + zA (eR O n a) <= H a := fun a => by
   have h1 := hk a
   by_cases e : a = n
   ·subst e;rw [dS] at h1;have := eE (eR O a a);have := eE (O a);omega
   rw [oe e]; rw [js e] at h1; omega
  have hH : ∀ a, zA (eR O n a) <= H a := fun a => by have := iX a; have := bW (kN [new]) a; omega
  rw [Ae, rD hc];simp only;rw [ae (not_not_intro NM.kd.1)]
  by_cases he : (kC V n (V.pg n) new.key).2.2 ≠ 0
  ·rw [ah he];exact ⟨_, rfl, fun h => absurd h he⟩
  rw [ae he];have he := cJ.1 he;obtain ⟨u6, p2, j, x2, d1, d2, d3, d4, d5, d6, d7⟩ := VL NM hH ly.key he;obtain ⟨V3, hV3⟩ : ∃ V3, V3 = (kC V n (V.pg n) new.key).1 := ⟨_, rfl⟩;rw [<-hV3] at d1 d5 d7 ⊢;rw [d4];have IA : ∀ a, 0 <= H a := fun a => by have := hH a; have := eE (eR O n a); omega
  obtain ⟨V9, ZP, ZO, V8⟩ := d1.alone IA d3 d5;have Kn := ed d3;have qU := d1.ch;rw [mC d3, mn] at qU;obtain ⟨-, ⟨fj, kj, o1, o2, o3, o4⟩, -⟩ := qU;have abZ : eR O n x2.child = false := by
   cases e : eR O n x2.child with
   | false => rfl
   | true => have h2 := hH x2.child; rw [e, rS, V9] at h2; omega
  have hdk : ∀ a, dl x2.child a <= cI (aA p2) a := fun a => by
   by_cases e : a = x2.child
   ·subst e; rw [dS]; exact df (g9 d1.kd.1 Kn)
   rw [js e]; exact bW _ _
  have ab4 : TQ new u6 := ⟨ly.key, fun hs => by
    obtain ⟨c1, c2⟩ := ly.ch hs;have hnc : new.child ≠ n := fun e => by
     have h1 := hk n;rw [oC, kU, ah c2, e, dS, s2] at h1;have := eE (O n);omega
    have h1 := iX new.child;rw [oC, kU, ah c2, dS] at h1;have := eE (eR O n new.child);rw [(d7 new.child oM hnc).1];exact ⟨c1, c2⟩⟩
  obtain ⟨r, hr, bQ⟩ := ih f V3 T x2.child (fun a => H a + cI (aA p2) a) (eR O n) u6 fj kj oM d1.g d5 abZ (fun a => by
    have := iX a;have := hdk a
    show _ <= H a + cI (aA p2) a
    omega) o1 ab4
  refine ⟨r, hr, fun Vn => ?_⟩;obtain ⟨GS, f4, k4, a1, a2, a3, a4, a5, a6, a7, a8⟩ := bQ Vn;have Bb : ∀ k, 1 <= H k + cI (aA p2) k - dl x2.child k - cI (kN [new]) k -> GS k = u6 k /\ r.1.pg k = V3.pg k := a7;have ZB : cI (kN [new]) n = 0 := by
   have h1 := hk n;rw [dS, s2] at h1;have := eE (O n);have := bW (kN [new]) n;omega
  have Zz : dl x2.child n = 0 := js (fun e => V8 e.symm);obtain ⟨ZJ, k5, b1, b2, b3, b4, b5, b6⟩ := d1.shut (V' := r.1) (gh' := GS) (H' := fun a => H a - cI (kN [new]) a) (f := fj) (f' := f4) (kj := kj) (kj' := k4) d3 o1 oM a6 (fun k Fk => by
    rcases a5 k Fk with Fk | rfl
    ·exact o4 k Fk
    ·exact d6) (a1.ey fun a => by show H a - cI (kN [new]) a + cI (aA p2) a = H a + cI (aA p2) a - cI (kN [new]) a; omega) (by
    rw [(Bb n (by rw [Zz, ZB]; have := bW (aA p2) n; omega)).2]; exact d1.pg) a2 (fun y hy => by
    have hyp : y ∈ p2.items := by
     rcases eu.1 hy with hy | hy
     ·exact r9 hy
     ·exact Ad hy
    have hyx : y.child ≠ x2.child := fun e => by
     rcases eu.1 hy with hy | hy
     ·have := df (pB (f := It.child) hy); rw [e] at this; omega
     ·have := df (pB (f := It.child) hy); rw [e] at this; omega
    refine (Bb y.child ?_).1;rw [js hyx];have := iX y.child;have := eE (eR O n y.child);have := df (g9 d1.kd.1 hyp);omega) (fun a => by
    have := iX a
    show _ <= H a - cI (kN [new]) a
    omega)
  refine ⟨ZJ, _, k5, b1, b2, oM, ?_, fun k Fk => ?_, b5, fun k Fk => ?_, a8⟩
  ·rw [b3, b4];simp only [cj]; omega
  ·rw [b3] at Fk;rw [b4];simp only [eu] at Fk ⊢
   rcases Fk with Fk | Fk | Fk
   ·exact .inl (.inl Fk)
   ·rcases a5 k Fk with Fk | Fk
    ·exact .inl (.inr (.inl Fk))
    exact .inr Fk
   exact .inl (.inr (.inr Fk))
  have uO : k ≠ n := fun e => by subst e; rw [dS, s2, ZB] at Fk; omega
  rw [js uO] at Fk;have := bW (kN [new]) k;have h1 := Bb k (by have := hdk k; omega);have h2 := d7 k oM uO;exact ⟨(b6 k uO).trans (h1.1.trans h2.1), h1.2.trans h2.2⟩
section
variable {V : Va} {H : Int -> Int} {O : Int -> Bool} {gh : mJ} {n : Int} {l : Nat} {key value : bN}
theorem ON {p : Pg} {f : Nat} {ks : List bN} (hc : bD p = 0) (h : jV gh p (.nd l f ks)) : ∀ k ∈ ks, iJ k := by
 obtain ⟨h1, h2, h3, h4⟩ := cH.1 h;rw [h3];cases l with
 | zero =>
  intro k hk;obtain ⟨x, hx, rfl⟩ := dd.1 hk;exact (sV hc h2 x hx).2.2
 | succ l => exact VY h4
def p7 (gh : mJ) (T : Tr) : Prop := T = kp \/ (T.root ≠ 0 /\ ∃ l f ks, gh T.root = .nd l f ks /\ T.aK = (l : Int) + 1 /\ T.items = (ks.length : Int) /\ ks ≠ [] /\ l < 12)
theorem Uz {T : Tr} {f : Nat} {ks : List bN} (h : Gv V H O gh) (hn : 1 <= H T.root) (ho : O T.root = false) (hg : gh T.root = .nd l f ks) (hh : T.aK = (l : Int) + 1) (he : (fS V T).2.2.2 = 0) :
  ∃ gh' l' f', Gv (fS V T).1 (fun a => H a - dl T.root a + dl (fS V T).2.1.root a) O gh' /\ (fS V T).2.2.1 = (fS V T).2.1.root /\ (fS V T).1.own (fS V T).2.1.root /\ O (fS V T).2.1.root = false /\ (fS V T).2.1.root ≠ 0 /\ gh' (fS V T).2.1.root = .nd l' f' ks /\ (fS V T).2.1.aK = (l' : Int) + 1 /\ (fS V T).2.1.items = T.items /\ (∀ k, 1 <= H k - dl T.root k -> gh' k = gh k /\ k ≠ (fS V T).2.1.root) := by
 have hc := h.held hn;unfold fS at he ⊢
 by_cases h1 : (V.aO T.root).2.1 ≠ 0
 ·rw [ah h1] at he; exact absurd he h1
 rw [ae h1] at he ⊢;have h1 := cJ.1 h1;obtain ⟨gh', s1, s2, s3, s4, s5, s6, s7, s8⟩ := h.aO hn ho h1;obtain ⟨V1, Dl⟩ : ∃ V1, V1 = (V.aO T.root).2.2 := ⟨_, rfl⟩;obtain ⟨c, BQ⟩ : ∃ c, c = (V.aO T.root).1 := ⟨_, rfl⟩;rw [<-Dl, <-BQ] at s1 s2 s4 he ⊢
 rw [<-BQ] at s3 s5 s8;rw [hg] at s5
 have Bd : 1 <= H c - dl T.root c + dl c c := by
  rw [dS];have := h.h0 c;unfold dl;split
  ·rename_i e; subst e; omega
  omega
 have hcz : c ≠ 0 := fun e => by
  have h6 : bg V1.po.c c := cg (by show V1.bw c ≠ 0; rw [s2.2]; decide);unfold bg at h6; omega
 have Bb : ∀ k, 1 <= H k - dl T.root k -> gh' k = gh k /\ k ≠ c := fun k hk => by
  have := fN T.root k;refine ⟨s6 k (h.held oM), fun e => ?_⟩;subst e;have h2 := s8 hk;have h3 := s1.B1 k;have h4 := s2.2;have h3 : H k - dl T.root k + dl k k <= V1.bw k := h3;rw [dS] at h3;omega
 simp only at he ⊢
 by_cases h2 : (cY V1 c).2.2.2 ≠ 0 \/ (cY V1 c).2.1 = 0
 ·rw [ah h2] at he ⊢;simp only at he ⊢
  rcases s1.half s2 Bd s3 s5 he with ⟨m0, mV⟩ | ⟨Dm, E2, JD, m1, m2, m3, m4, m5, m6, m7, m8, m9, m10, Zp, Zo, Ws⟩
  ·rw [mV];exact ⟨gh', l, f, s1, trivial, s2, s3, hcz, s5, hh, trivial, Bb⟩
  exact absurd (h2.resolve_left (not_not_intro he)) m1
 rw [ae h2] at he ⊢;have YS : (cY V1 c).2.2.2 = 0 := sN fun h => h2 (.inl h)
 rcases s1.half s2 Bd s3 s5 YS with ⟨m0, mV⟩ | ⟨Dm, E2, JD, m1, m2, m3, m4, m5, m6, m7, m8, m9, m10, Zp, Zo, Ws⟩
 ·exact absurd (.inr m0) h2
 obtain ⟨m, hm⟩ : ∃ m, m = (cY V1 c).2.1 := ⟨_, rfl⟩;obtain ⟨sep, Fg⟩ : ∃ s, s = (cY V1 c).2.2.1 := ⟨_, rfl⟩;obtain ⟨V2, YQ⟩ : ∃ V2, V2 = (cY V1 c).1 := ⟨_, rfl⟩;rw [<-hm, <-Fg, <-YQ] at he ⊢;rw [<-hm] at m1 m2 m3 m5 m7
 rw [<-Fg] at Zp Zo;rw [<-YQ] at m3 m4 m5 Ws
 simp only at he ⊢;have aa0 : V1.bw c ≠ 0 := by rw [s2.2]; decide
 have we : ∀ k ∈ ks, iJ k := ON (s1.J6 aa0) (by have := s1.loc c aa0 s3; rw [s5] at this; exact this);have Tc : ∀ a, cI (aA ⟨2, T.aK, [⟨[], [], c, 0⟩, ⟨sep, [], m, 0⟩], [], 0⟩) a = dl c a + dl m a := fun a => by
  rw [dy rfl]
  show cI [c, m] a = _
  rw [gr, gr, sA]; unfold dl; omega
 have ab9 : jV Dm ⟨2, T.aK, [⟨[], [], c, 0⟩, ⟨sep, [], m, 0⟩], [], 0⟩ (.nd (l + 1) 2 ks) := by
  refine qs.2 ⟨rfl, rfl, hh, ?_, ⟨4, E2, m6, eW _, m9, fun k hk => ⟨we k (by rw [m8]; exact oT _ hk), AT _, fun h' e => ?_⟩⟩, ⟨4, JD, m7, eW _, m10, fun k hk => ⟨we k (by rw [m8]; exact qV _ hk), Zo k hk, fun h' e => by cases e⟩⟩, trivial⟩
  ·show ks = (Dm c).ks ++ ((Dm m).ks ++ [])
   rw [m6, m7, my]; exact m8
  cases e; exact Zp k hk
 obtain ⟨t1, t2, t3, t4, t5, t6, t7⟩ := m3.make (g := .nd (l + 1) 2 ks) he (fun a => by
     rw [Tc];have h5 := h.nn a
     show _ <= H a - dl T.root a + dl c a + dl m a
     unfold dl
     by_cases e : a = T.root
     ·subst e; rw [ho, tA, ah rfl]; omega
     ·rw [ae e]; omega) ab9
 obtain ⟨t, ht⟩ : ∃ t, t = (V2.make ⟨2, T.aK, [⟨[], [], c, 0⟩, ⟨sep, [], m, 0⟩], [], 0⟩).1 := ⟨_, rfl⟩;rw [<-ht] at t1 t2 t4 t5 t6 t7 ⊢;refine ⟨_, l + 1, 2, t4.ey fun a => ?_, trivial, t5, (m3.free t1).2.2, t2, jy, by rw [hh]; rfl, trivial, fun k hk => ?_⟩
 ·show H a - dl T.root a + dl t a = H a - dl T.root a + dl c a + dl m a + dl t a - _
  rw [Tc]; omega
 obtain ⟨f1, f2⟩ := Bb k hk;have f3 : V1.bw k ≠ 0 := s1.held (n := k) (by have := fN c k; show 1 <= H k - dl T.root k + dl c k; omega);have f4 : k ≠ t := fun e => by
  subst e;have h5 := (m3.free t1).1;have h5 : H k - dl T.root k + dl c k + dl m k = 0 := h5;have := fN c k;have := fN m k;omega
 exact ⟨by rw [dN f4, (Ws k f3 f2).1, f1], f4⟩
def nZ (T : Tr) : List Int := nz T.root
theorem Sv {p : Pg} {f : Nat} {ks : List bN} (hc : bD p = 0) (h : jV gh p (.nd l f ks)) : l < 12 := by
 cases l with
 | zero => omega
 | succ l =>
  obtain ⟨h1, h2, h3, -⟩ := qs.1 h;have := (ji hc).2.2.1 h2;omega
theorem Xy {T : Tr} (h : Gv V H (fun _ => false) gh) (hT : p7 gh T) (hn : ∀ a, cI (nZ T) a <= H a) : ∃ res, yT 20 V T key value = some res /\ (res.2.2.1 ≠ 0 -> res.2.2.2 = V) /\ (res.2.2.1 = 0 -> ∃ gh', Gv res.2.2.2 (fun a => H a - cI (nZ T) a + cI (nZ res.1) a) (fun _ => false) gh' /\ p7 gh' res.1 /\ (∀ k, 1 <= H k - cI (nZ T) k -> gh' k = gh k) /\ res.1.items <= T.items + 1) := by
 unfold yT
 by_cases h1 : ¬ (1 <= key.length /\ key.length <= 24)
 ·rw [ah h1]; exact ⟨_, rfl, fun _ => rfl, fun e => by cases e⟩
 rw [ae h1]
 by_cases h2 : 3840 < value.length
 ·rw [ah h2]; exact ⟨_, rfl, fun _ => rfl, fun e => by cases e⟩
 rw [ae h2]
 by_cases h3 : (nV V.rd T key).2.2 ≠ 0
 ·rw [ah h3]; exact ⟨_, rfl, fun _ => rfl, fun e => absurd e h3⟩
 rw [ae h3]
 by_cases h4 : (cN V key value).1 ≠ 0
 ·rw [ah h4]; exact ⟨_, rfl, fun _ => rfl, fun e => absurd e h4⟩
 rw [ae h4];have h4 := cJ.1 h4;obtain ⟨u6, a1, a2, a3, a4, a5⟩ := h.store h4;obtain ⟨V1, Dl⟩ : ∃ V1, V1 = (cN V key value).2.2 := ⟨_, rfl⟩;obtain ⟨new, BO⟩ : ∃ x, x = (cN V key value).2.1 := ⟨_, rfl⟩;obtain ⟨b, hb⟩ : ∃ b, b = (nV V.rd T key).2.1 := ⟨_, rfl⟩;rw [<-Dl, <-BO] at a1;rw [<-Dl] at a5
 rw [<-BO] at a3 a4;rw [<-Dl, <-BO, <-hb];have ly : TQ new u6 := ⟨by rw [a3]; exact a2, fun hs => by rw [a3]; exact a4 hs⟩;have BP : ∀ r : Va × Tr × Int, (r.2.2 = 0 -> ∃ gh', Gv r.1 (fun a => H a - cI (nZ T) a + cI (nZ r.2.1) a) (fun _ => false) gh' /\ p7 gh' r.2.1 /\ (∀ k, 1 <= H k - cI (nZ T) k -> gh' k = gh k) /\ r.2.1.items <= T.items + 1) -> ∃ res, (match some r with
       | none => none
       | some r => some (if r.2.2 ≠ 0 then (kp, false, r.2.2, V) else (r.2.1, b, 0, r.1))) = some res /\ (res.2.2.1 ≠ 0 -> res.2.2.2 = V) /\ (res.2.2.1 = 0 -> ∃ gh', Gv res.2.2.2 (fun a => H a - cI (nZ T) a + cI (nZ res.1) a) (fun _ => false) gh' /\ p7 gh' res.1 /\ (∀ k, 1 <= H k - cI (nZ T) k -> gh' k = gh k) /\ res.1.items <= T.items + 1) := fun r hr => by
  by_cases h5 : r.2.2 ≠ 0
  ·exact ⟨_, rfl, fun _ => by rw [ah h5], fun e => by rw [ah h5] at e; exact absurd e h5⟩
  refine ⟨_, rfl, fun e => by rw [ae h5] at e; exact absurd rfl e, fun _ => ?_⟩;rw [ae h5];exact hr (cJ.1 h5)
 unfold Bz
 by_cases hr : T.root = 0
 ·rw [ah hr];refine BP _ fun he => ?_
  have hTz : T = kp := hT.resolve_right fun h => h.1 hr
  have Qu : CG 0 (⟨1, 0, [new], [], 0⟩ : Pg) := rfl;have we : aA (⟨1, 0, [new], [], 0⟩ : Pg) = kN [new] := mg (l := 0) Qu;obtain ⟨t1, t2, t3, t4, t5, t6, t7⟩ := a1.make (g := .nd 0 1 [new.key]) he (fun a => by
       rw [we];have := h.h0 a
       show _ + zA false <= H a + cI (kN [new]) a
       rw [tA]; omega) (cH.2 ⟨rfl, Qu, rfl, fun x hx hs => by
       simp at hx; subst hx; exact ly.ch hs⟩)
  obtain ⟨t, ht⟩ : ∃ t, t = (V1.make ⟨1, 0, [new], [], 0⟩).1 := ⟨_, rfl⟩;rw [<-ht] at t1 t2 t4 t5 t6 t7;simp only;rw [<-ht];have hz : ∀ a, cI (nZ T) a = 0 := fun a => by unfold nZ; rw [hr, kU, ae (fun h => h rfl)]
  refine ⟨_, t4.ey fun a => ?_, .inr ⟨t2, 0, 1, [new.key], jy, rfl, rfl, by simp, oM⟩, fun k hk => ?_, ?_⟩
  ·rw [hz, we]
   show H a - 0 + cI (nz t) a = H a + cI (kN [new]) a + dl t a - cI (kN [new]) a
   rw [kU, ah t2]; omega
  ·rw [hz] at hk;have O5 : V.bw k ≠ 0 := h.held oM;rw [dN (fun e => a5.c k O5 (by rw [e]; exact t1)), a5.g k O5]
  rw [hTz]; show (1 : Int) <= 0 + 1; omega
 rw [ae hr];obtain ⟨-, l, f, ks, g1, g2, g3, g4, g5⟩ := hT.resolve_left fun e => hr (by rw [e]; rfl)
 have NH : ∀ a, cI (nZ T) a = dl T.root a := fun a => by unfold nZ; rw [kU, ah hr]
 have Di : 1 <= H T.root := by have := hn T.root; rw [NH, dS] at this; exact this
 have hrc := h.held Di
 by_cases h5 : (fS V1 T).2.2.2 ≠ 0
 ·rw [ah h5];exact BP _ fun he => absurd he h5
 rw [ae h5];have h5 := cJ.1 h5;obtain ⟨Dm, l2, f2, b1, b2, b3, b4, b5, b6, b7, b8, b9⟩ := Uz (T := T) a1 (by
        have := bW (kN [new]) T.root
        show 1 <= H T.root + cI (kN [new]) T.root
        omega) rfl (by rw [a5.g _ hrc]; exact g1) g2 h5
 obtain ⟨V2, YQ⟩ : ∃ V2, V2 = (fS V1 T).1 := ⟨_, rfl⟩;obtain ⟨T2, VE⟩ : ∃ T2, T2 = (fS V1 T).2.1 := ⟨_, rfl⟩;rw [b2];rw [<-YQ, <-VE] at b1 b3 ⊢;rw [<-VE] at b5 b6 b7 b8 b9
 have ack : ∀ k, 1 <= H k - dl T.root k -> Dm k = u6 k /\ k ≠ T2.root := fun k hk => b9 k (by have := bW (kN [new]) k; show 1 <= H k + cI (kN [new]) k - dl T.root k; omega)
 have L4 : V2.bw T2.root ≠ 0 := by rw [b3.2]; decide
 have Kq : l2 < 12 := Sv (b1.J6 L4) (by have := b1.loc _ L4 rfl; rw [b6] at this; exact this);have hHm : ∀ a, dl T.root a <= H a := fun a => by have := hn a; rw [NH] at this; exact this
 have ab3 : TQ new Dm := ⟨ly.key, fun hs => by
        obtain ⟨c1, c2⟩ := ly.ch hs;have := hHm new.child;rw [(b9 new.child (by
         show 1 <= H new.child + cI (kN [new]) new.child - dl T.root new.child
         rw [oC, kU, ah c2, dS]; omega)).1]
        exact ⟨c1, c2⟩⟩
 obtain ⟨r, JJ, bQ⟩ := US (b := b) (new := new) l2 20 V2 T2 T2.root _ (fun _ => false) Dm f2 ks oM b1 b3 rfl (fun a => by
        have := hHm a
        show _ + zA false <= H a + cI (kN [new]) a - dl T.root a + dl T2.root a
        rw [tA]; omega) b6 ab3
 rw [JJ];refine BP r fun he => ?_
 obtain ⟨GS, f4, k4, c1, c2, c3, c4, c5, c6, c7, c8⟩ := bQ he;rw [c8];have abQ : ∀ a, cI (nZ (⟨T2.root, T2.aK, T2.items + (EN b : Int)⟩ : Tr)) a = dl T2.root a := fun a => by unfold nZ; rw [kU, ah b5]
 refine ⟨GS, c1.ey fun a => ?_, .inr ⟨b5, l2, f4, k4, c2, b7, ?_, c6, Kq⟩, fun k hk => ?_, ?_⟩
 ·rw [NH, abQ]
  show H a - dl T.root a + dl T2.root a = H a + cI (kN [new]) a - dl T.root a + dl T2.root a - cI (kN [new]) a
  omega
 ·show T2.items + (EN b : Int) = _
  rw [b8, g3, c4]; omega
 ·rw [NH] at hk;obtain ⟨k1, k2⟩ := ack k hk;have k3 : V.bw k ≠ 0 := h.held (by have := fN T.root k; omega);rw [(c7 k (by
         show 1 <= H k + cI (kN [new]) k - dl T.root k + dl T2.root k - dl T2.root k - cI (kN [new]) k
         omega)).1, k1, a5.g k k3]
 show T2.items + (EN b : Int) <= T.items + 1
 rw [b8];unfold EN;split <;> simp <;> omega
end
section
variable {gh : mJ} {l : Nat}
theorem IL : ∀ {a : List It} {s : bN}, qi gh l a none -> (∀ k ∈ iG gh a, bU k s < 0) -> qi gh l a (some s)
 | [], _, _, _ => trivial
 | [x], s, h, hk => by
  obtain ⟨⟨f, ks, h1, h2, h3, h4⟩, -⟩ := h;refine ⟨⟨f, ks, h1, h2, h3, fun k iX => ⟨(h4 k iX).1, (h4 k iX).2.1, fun h e => ?_⟩⟩, trivial⟩;cases e;exact hk k (by unfold iG; simp [h1]; exact iX)
 | x :: y :: a, s, h, hk => ⟨h.1, IL h.2 fun k iX => hk k (by unfold iG at iX ⊢; rw [ku]; exact qV _ iX)⟩
theorem Mr : ∀ {a : List It} {hi : Option bN}, qi gh l a hi -> vr a /\ ∀ h, hi = some h -> ∀ x ∈ a, bU x.key h < 0
 | [], _, _ => ⟨List.Pairwise.nil, fun _ _ x hx => by cases hx⟩
 | x :: a, hi, h => by
  obtain ⟨i1, i2⟩ := Mr h.2;obtain ⟨f, ks, h1, h2, h3, h4⟩ := h.1;obtain ⟨k, hk⟩ : ∃ k, k ∈ ks := UK _ h3;obtain ⟨o1, o2, o3⟩ := h4 k hk;have hx : ∀ h, Js a hi = some h -> bU x.key h < 0 := fun h e => du (rM o2) (o3 h e)
  cases a with
  | nil => exact ⟨Jl.2 ⟨fun y hy => (by cases hy), List.Pairwise.nil⟩, fun t e y hy => by rw [Jj] at hy; rw [hy]; exact hx t e⟩
  | cons z a =>
   have hz : bU x.key z.key < 0 := hx z.key rfl;refine ⟨Jl.2 ⟨fun y hy => ?_, i1⟩, fun t e y hy => ?_⟩
   ·rcases bB.1 hy with hy | hy
    ·rw [hy]; exact hz
    exact du (b := z.key) oM ((Jl.1 i1).1 y hy)
   rcases bB.1 hy with hy | hy
   ·rw [hy]; exact du (b := z.key) oM (i2 t e z (fp ..))
   exact i2 t e y hy
theorem CH (s : bN) : ∀ q : List It, (An s q).map It.child = q.map It.child
 | [] => rfl
 | _ :: _ => rfl
theorem Qc (s : bN) (q : List It) : iG gh (An s q) = iG gh q := by cases q <;> rfl
theorem Jb {p q : Pg} {f1 f2 : Nat} {k1 k2 : List bN} {sep lo : bN} {hi : Option bN} (hp : jV gh p (.nd l f1 k1)) (hq : jV gh q (.nd l f2 k2)) (h1 : ∀ k ∈ k1, OQ lo (some sep) k) (h2 : ∀ k ∈ k2, OQ sep hi k) (n1 : k1 ≠ []) (n2 : k2 ≠ []) :
  M' gh l (jF p q sep) /\ Dd gh l (jF p q sep) = k1 ++ k2 /\ kr l (jF p q sep) = aA p ++ aA q /\ (jF p q sep).length = f1 + f2 /\ (vr p.items -> vr q.items -> vr (jF p q sep)) /\ (∀ k ∈ k1 ++ k2, OQ lo hi k) := by
 obtain ⟨a1, a2, a3, a4⟩ := cH.1 hp;obtain ⟨b1, b2, b3, b4⟩ := cH.1 hq;have jv : ∀ k ∈ k1 ++ k2, OQ lo hi k := fun k hk => by
  obtain ⟨m1, Dk⟩ := UK _ n1;obtain ⟨m2, nA⟩ := UK _ n2;rcases eu.1 hk with hk | hk
  ·obtain ⟨c1, c2, c3⟩ := h1 k hk;refine ⟨c1, c2, fun h e => ?_⟩;exact du (by have := c3 sep rfl; omega) (du (rM (h2 m2 nA).2.1) ((h2 m2 nA).2.2 h e))
  obtain ⟨c1, c2, c3⟩ := h2 k hk;refine ⟨c1, ?_, c3⟩;have h5 : bU lo sep < 0 := du (rM (h1 m1 Dk).2.1) ((h1 m1 Dk).2.2 sep rfl);exact xx (mc oM (rM c2))
 cases l with
 | zero =>
  have a2 : p.kind = 1 := a2;have e : jF p q sep = p.items ++ q.items := by unfold jF; rw [ae oM]
  rw [e];refine ⟨fun x hx => ?_, ?_, ?_, by rw [cj, a1, b1], fun r1 r2 => ?_, jv⟩
  ·rcases eu.1 hx with hx | hx
   ·exact a4 x hx
   exact b4 x hx
  ·rw [xm, <-a3, <-b3]
  ·rw [E3, mg (l := 0) a2, mg b2]
  refine List.pairwise_append.2 ⟨r1, r2, fun x hx y hy => ?_⟩;have c1 := h1 x.key (by rw [a3]; exact dd.2 ⟨x, hx, rfl⟩);have c2 := h2 y.key (by rw [b3]; exact dd.2 ⟨y, hy, rfl⟩);exact Mo (c1.2.2 sep rfl) (rM c2.2.1)
 | succ l =>
  have e : jF p q sep = p.items ++ An sep q.items := by unfold jF; rw [ah a2.1]
  rw [e];have a4 : qi gh l p.items none := a4;have b4 : qi gh l q.items none := b4;have a3 : k1 = iG gh p.items := a3;have b3 : k2 = iG gh q.items := b3;have c1 : qi gh l p.items (some sep) := IL a4 fun k hk => (h1 k (by rw [a3]; exact hk)).2.2 sep rfl
  have hc : qi gh l (p.items ++ An sep q.items) none := by
   cases hqi : q.items with
   | nil => rw [hqi] at b3; exact absurd b3 n2
   | cons z zs =>
    rw [hqi] at b4 b3;refine qh.2 ⟨c1, ?_, b4.2⟩;obtain ⟨f, ks, o1, o2, o3, o4⟩ := b4.1;exact ⟨f, ks, o1, o2, o3, fun k hk => ⟨(o4 k hk).1, (h2 k (by rw [b3]; unfold iG; rw [ku]; exact oT _ (by rw [o1]; exact hk))).2.1, (o4 k hk).2.2⟩⟩
  refine ⟨hc, ?_, ?_, ?_, fun _ _ => (Mr hc).1, jv⟩
  ·show iG gh _ = _
   rw [xn, Qc, a3, b3]
  ·show (p.items ++ An sep q.items).map It.child = _
   rw [il, CH, dy a2.1, dy b2.1]
  have := congrArg List.length (CH sep q.items);rw [bA, bA] at this;rw [cj, this, a1, b1]
end
structure Fs (H : Int -> Int) (O : Int -> Bool) (gh : mJ) (n : Int) (l : Nat) (s : Ct) (c : Int) (A : List It) (x : It) (B : List It) (fc : Nat) (kc ks : List bN) : Prop where
 g : Gv s.V (fun a => H a + cI (s.up.items.map It.child) a + cI (aA s.ch) a) (eR (eR O n) c) gh
 kd : s.up.kind = 2 /\ s.up.level = (l : Int) + 1
 it : s.up.items = A ++ x :: B
 at_ : A.length = s.at_
 xc : x.child = c
 cA : qi gh l A (some x.key)
 cB : qi gh l B none
 loc : jV gh s.ch (.nd l fc kc)
 ne : kc ≠ []
 Zk : ∀ k ∈ kc, OQ x.key (Js B none) k
 ks : ks = iG gh A ++ (kc ++ iG gh B)
 ho : O n = false
 self : ∀ y ∈ s.up.items, y.child ≠ n
 hH : ∀ a, zA (eR O n a) <= H a
section
variable {H : Int -> Int} {O : Int -> Bool} {gh : mJ} {n : Int} {l : Nat} {s : Ct} {c : Int} {A : List It} {x : It} {B : List It} {fc : Nat} {kc ks : List bN}
theorem Fs.kids (h : Fs H O gh n l s c A x B fc kc ks) (a : Int) : cI (s.up.items.map It.child) a = cI (A.map It.child) a + cI (B.map It.child) a + dl c a := by rw [h.it, gi, h.xc]
theorem Fs.alone (h : Fs H O gh n l s c A x B fc kc ks) : H c = 0 /\ cI (A.map It.child) c = 0 /\ cI (B.map It.child) c = 0 /\ cI (aA s.ch) c = 0 /\ c ≠ n /\ eR O n c = false := by
 have h1 := (h.g.CE fC).1;have h1 : H c + cI (s.up.items.map It.child) c + cI (aA s.ch) c = 1 := h1;rw [h.kids, dS] at h1;have h2 := h.hH c;have h3 := eE (eR O n c);have := bW (A.map It.child) c;have := bW (B.map It.child) c;have := bW (aA s.ch) c;refine ⟨oM, oM, oM, oM, fun e => h.self x (by rw [h.it]; simp) (by rw [h.xc]; exact e), ?_⟩;cases e : eR O n c with
 | false => rfl
 | true => rw [e, rS] at h2; omega
theorem Fs.other (h : Fs H O gh n l s c A x B fc kc ks) {y : It} (hy : y ∈ A \/ y ∈ B) : 1 <= H y.child + cI (s.up.items.map It.child) y.child + cI (aA s.ch) y.child /\ eR (eR O n) c y.child = false /\ y.child ≠ c := by
 obtain ⟨a1, a2, a3, a4, a5, a6⟩ := h.alone;have hm : y ∈ s.up.items := by
  rw [h.it];rcases hy with hy | hy
  ·exact oT _ hy
  exact qV _ (gF _ hy)
 have h2 := h.hH y.child;have h3 := eE (eR O n y.child);have h4 := bW (aA s.ch) y.child;have h5 := df (pB (f := It.child) hm);have ly : y.child ≠ c := fun e => by
  rcases hy with hy | hy
  ·have := df (pB (f := It.child) hy); rw [e] at this; omega
  have := df (pB (f := It.child) hy); rw [e] at this; omega
 refine ⟨oM, ?_, ly⟩;cases e : eR (eR O n) c y.child with
 | false => rfl
 | true =>
  exfalso;have h6 := (h.g.CE e).1;have h6 : H y.child + cI (s.up.items.map It.child) y.child + cI (aA s.ch) y.child = 1 := h6;rw [oe ly] at e;rw [e, rS] at h2
  omega
theorem Eh {V : Va} {m : Int} {p : Pg} {e : Int} (h : (vC V e m p).1 = 0) : e = 0 /\ (V.write m p).1 = 0 /\ vC V e m p = V.write m p := by
 unfold vC at h ⊢;split at h
 ·rename_i he; exact absurd h he
 rename_i he; rw [ae he]; exact ⟨cJ.1 he, h, rfl⟩
theorem Et {V : Va} {m : Int} {e : Int} (h : (uJ V e m).2.1 = 0) : e = 0 /\ (V.aO m).2.1 = 0 /\ uJ V e m = V.aO m := by
 unfold uJ at h ⊢;split at h
 ·rename_i he; exact absurd h he
 rename_i he; rw [ae he]; exact ⟨cJ.1 he, h, rfl⟩
theorem EP {b : Bool} {e : Int} (h : DY b e = 0) : b = true /\ e = 0 := by
 unfold DY DC at h;cases b with
 | true => exact ⟨rfl, by simpa using h⟩
 | false =>
  simp at h;split at h
  ·cases h
  rename_i h2; exact absurd h h2
theorem Fs.aO (h : Fs H O gh n l s c A x B fc kc ks) {y : It} (hy : y ∈ A \/ y ∈ B) (he : (s.V.aO y.child).2.1 = 0) : ∃ gh', Gv (s.V.aO y.child).2.2 (fun a => H a + cI (s.up.items.map It.child) a + cI (aA s.ch) a - dl y.child a + dl (s.V.aO y.child).1 a) (eR (eR O n) c) gh' /\ (s.V.aO y.child).2.2.own (s.V.aO y.child).1 /\ eR (eR O n) c (s.V.aO y.child).1 = false /\ (s.V.aO y.child).2.2.pg (s.V.aO y.child).1 = s.V.pg y.child /\ gh' (s.V.aO y.child).1 = gh y.child ∧
  (∀ k, s.V.bw k ≠ 0 -> gh' k = gh k) /\ (∀ k, 1 <= H k + cI (s.up.items.map It.child) k + cI (aA s.ch) k - dl y.child k -> (s.V.aO y.child).2.2.pg k = s.V.pg k /\ k ≠ (s.V.aO y.child).1) /\ (s.V.aO y.child).1 ≠ n /\ (s.V.aO y.child).1 ≠ c /\ H (s.V.aO y.child).1 = 0 := by
 obtain ⟨o1, o2, o3⟩ := h.other hy;obtain ⟨gh', s1, s2, s3, s4, s5, s6, s7, s8⟩ := h.g.aO (n := y.child) o1 o2 he;obtain ⟨r, hr⟩ : ∃ r, r = (s.V.aO y.child).1 := ⟨_, rfl⟩;rw [<-hr] at s1 s2 s3 s4 s5 s8 ⊢;have Di : H r + cI (s.up.items.map It.child) r + cI (aA s.ch) r - dl y.child r + dl r r <= 1 := by
  have h2 := s1.B1 r;have h3 := s2.2;have h2 : H r + cI (s.up.items.map It.child) r + cI (aA s.ch) r - dl y.child r + dl r r <= _ := h2;omega
 rw [dS] at Di;have hnr : eR O n n = true := fC;have hrn : r ≠ n := fun e => by
  have h4 : eR (eR O n) c r = true := by rw [e]; by_cases e2 : n = c <;> simp [eR, e2]
  rw [h4] at s3; cases s3
 have hrc : r ≠ c := fun e => by rw [e, fC] at s3; cases s3
 have Bb : ∀ k, 1 <= H k + cI (s.up.items.map It.child) k + cI (aA s.ch) k - dl y.child k -> (s.V.aO y.child).2.2.pg k = s.V.pg k /\ k ≠ r := fun k hk => by
  have hd := fN y.child k;have hkr : k ≠ r := fun e => by rw [e] at hk; omega
  have CT : s.V.bw k ≠ 0 := h.g.held (n := k) (by show 1 <= H k + cI (s.up.items.map It.child) k + cI (aA s.ch) k; omega);refine ⟨s7 k CT ?_, hkr⟩
  by_cases e : k = y.child
  ·right
   have h9 := s1.held (n := k) (by
    have := fN r k
    show 1 <= H k + cI (s.up.items.map It.child) k + cI (aA s.ch) k - dl y.child k + dl r k
    omega)
   rw [e] at h9; exact h9
  exact .inl e
 refine ⟨gh', s1, s2, s3, s4, s5, s6, Bb, hrn, hrc, ?_⟩;have h0 := h.hH r;have h1 := eE (eR O n r);have h2 := bW (s.up.items.map It.child) r;have h3 := bW (aA s.ch) r
 by_cases e : r = y.child
 ·have hm : y ∈ s.up.items := by
   rw [h.it];rcases hy with hy | hy
   ·exact oT _ hy
   exact qV _ (gF _ hy)
  have h4 := df (pB (f := It.child) hm);rw [e, dS] at Di;rw [e];rw [e] at h0 h1 h3
  omega
 rw [js e] at Di; omega
end
theorem Bw {V : Va} {e m : Int} (h : (px V e m).2 = 0) : e = 0 /\ V.bw m ≠ 0 /\ (px V e m).1 = V.pg m := by
 unfold px at h ⊢;split at h
 ·rename_i he; exact absurd h he
 rename_i he;rw [ae he];cases hr : V.rd m with
 | none => rw [hr] at h; cases h
 | some p =>
  obtain ⟨h1, h2⟩ := Xv hr;exact ⟨cJ.1 he, h1, h2⟩
theorem JB {gh : mJ} {l : Nat} {r : List It} (h : M' gh l r) (hr : r ≠ []) : Dd gh l r ≠ [] := by
 cases l with
 | zero => intro e; exact hr (List.map_eq_nil_iff.1 e)
 | succ l => exact Gj h hr
section
variable {H : Int -> Int} {O : Int -> Bool} {gh : mJ} {n : Int} {l : Nat} {s : Ct} {c : Int} {A : List It} {x : It} {B : List It} {fc : Nat} {kc ks : List bN}
theorem Fs.aaf (h : Fs H O gh n l s c A x B fc kc ks) {y : It} (hy : y ∈ A \/ y ∈ B) (a : Int) : dl y.child a <= cI (A.map It.child) a + cI (B.map It.child) a := by
 have h1 := bW (A.map It.child) a;have h2 := bW (B.map It.child) a
 by_cases e : a = y.child
 ·subst e;rw [dS];rcases hy with hy | hy
  ·have := df (pB (f := It.child) hy); omega
  have := df (pB (f := It.child) hy); omega
 rw [js e]; omega
theorem Fs.aaj (h : Fs H O gh n l s c A x B fc kc ks) (a : Int) : zA (eR (eR O n) c a) <= H a + dl c a := by
 have h1 := h.hH a;have h2 := eE (eR O n a)
 by_cases e : a = c
 ·subst e; have := eE (eR (eR O n) a a); rw [dS]; omega
 rw [oe e, js e]; omega
theorem Fs.aal (h : Fs H O gh n l s c A x B fc kc ks) {y : It} (hy : y ∈ A \/ y ∈ B) (xr : (s.V.aO y.child).2.1 = 0) {wp cp : Pg} {fw fcp : Nat} {kw kcp : List bN} (sg : ((s.V.aO y.child).2.2.write (s.V.aO y.child).1 wp).1 = 0)
  (we : ∀ a, cI (aA wp) a + cI (aA cp) a = cI (aA s.ch) a + cI (aA (s.V.pg y.child)) a) (hlw : jV gh wp (.nd l fw kw)) (IB : jV gh cp (.nd l fcp kcp)) :
  ∃ gh', Gv ((s.V.aO y.child).2.2.write (s.V.aO y.child).1 wp).2 (fun a => H a + cI (s.up.items.map It.child) a - dl y.child a + dl (s.V.aO y.child).1 a + cI (aA cp) a) (eR (eR O n) c) gh' /\ gh' (s.V.aO y.child).1 = .nd l fw kw /\ jV gh' cp (.nd l fcp kcp) /\ (∀ k, 1 <= H k + cI (s.up.items.map It.child) k - dl y.child k -> gh' k = gh k) /\ (s.V.aO y.child).1 ≠ n /\ (s.V.aO y.child).1 ≠ c ∧
   (∀ k, 1 <= H k -> k ≠ n -> gh' k = gh k /\ ((s.V.aO y.child).2.2.write (s.V.aO y.child).1 wp).2.pg k = s.V.pg k) := by
 obtain ⟨u6, s1, s2, s3, s4, s5, s6, s7, s8, s9, s10⟩ := h.aO hy xr;obtain ⟨o1, o2, o3⟩ := h.other hy;have JG := h.g.held (n := y.child) o1;obtain ⟨r, hr⟩ : ∃ r, r = (s.V.aO y.child).1 := ⟨_, rfl⟩;obtain ⟨V1, Dl⟩ : ∃ V1, V1 = (s.V.aO y.child).2.2 := ⟨_, rfl⟩;rw [<-hr, <-Dl] at s1 s2 s4 sg ⊢;rw [<-hr] at s3 s5 s8 s9 s10
 rw [<-Dl, <-hr] at s7;have hup := fun a => h.kids a
 have Uc := fun a => h.aaf hy a
 have Ku : ∀ a, 0 <= H a := fun a => by have := h.hH a; have := eE (eR O n a); omega
 have Di : 1 <= H r + cI (s.up.items.map It.child) r + cI (aA s.ch) r - dl y.child r + dl r r := by
  rw [hup, dS];have := Uc r; have := Ku r; have := bW (aA s.ch) r; have := fN c r;omega
 obtain ⟨f1, f2, -⟩ := s1.self s2 Di s3;have f2 : H r + cI (s.up.items.map It.child) r + cI (aA s.ch) r - dl y.child r + dl r r = 1 := f2;have abR : cI (aA s.ch) r = 0 := by
  rw [hup, dS] at f2;have := Uc r; have := Ku r; have := bW (aA s.ch) r; have := fN c r;omega
 rw [s4] at f1;have Tc : ∀ k, 1 <= cI (aA s.ch) k + cI (aA (s.V.pg y.child)) k -> u6 k = gh k /\ k ≠ r := fun k hk => by
  by_cases e : cI (aA s.ch) k = 0
  ·have e2 : k ∈ aA (s.V.pg y.child) := uF oM;exact ⟨s6 k (h.g.Sy JG o2 e2), fun e3 => f1 (by rw [<-e3]; exact e2)⟩
  refine ⟨s6 k (h.g.held (n := k) ?_), fun e3 => e (by rw [e3]; exact abR)⟩;have := Ku k; have := bW (aA s.ch) k; have := bW (s.up.items.map It.child) k
  show 1 <= H k + cI (s.up.items.map It.child) k + cI (aA s.ch) k
  omega
 have hkw : ∀ k ∈ aA wp, u6 k = gh k /\ k ≠ r := fun k hk => Tc k (by have := we k; have := df hk; have := bW (aA cp) k; omega)
 have O5 : ∀ k ∈ aA cp, u6 k = gh k /\ k ≠ r := fun k hk => Tc k (by have := we k; have := df hk; have := bW (aA wp) k; omega)
 have h1 := s1.opens s2 Di s3;obtain ⟨w1, w2, w3, w4, w5⟩ := h1.write fC sg;have Df := w1.shut (g := .nd l fw kw) fC (by
  rw [w3];refine hlw.F9 fun k hk => ?_
  rw [dN (hkw k hk).2, (hkw k hk).1]) (fun a => by
  rw [w3, s4];have q1 := we a;have q2 := h.aaj a;have q3 := Uc a;have q4 := bW (aA cp) a;have q5 := Ku a;have q6 := fN c a;have q7 := fN r a
  show _ <= H a + cI (s.up.items.map It.child) a + cI (aA s.ch) a - dl y.child a + dl r a + cI (aA (s.V.pg y.child)) a
  rw [hup]
  by_cases e : a = r
  ·subst e;have := eE (eR (eR (eR O n) c) a a);rw [dS]; omega
  ·rw [oe e]; omega)
 rw [w3, s4, rN s3] at Df;have hcr : ∀ k, 1 <= H k + cI (s.up.items.map It.child) k - dl y.child k -> u6 k = gh k /\ k ≠ r := fun k hk => by
  have h3 := bW (aA s.ch) k;have h4 := fN y.child k;exact ⟨s6 k (h.g.held (n := k) (by show 1 <= H k + cI (s.up.items.map It.child) k + cI (aA s.ch) k; omega)), (s7 k oM).2⟩
 refine ⟨_, Df.ey fun a => ?_, jy, IB.F9 fun k hk => ?_, fun k hk => ?_, s8, s9, fun k hk uO => ?_⟩
 ·have q1 := we a
  show H a + cI (s.up.items.map It.child) a - dl y.child a + dl r a + cI (aA cp) a = H a + cI (s.up.items.map It.child) a + cI (aA s.ch) a - dl y.child a + dl r a + cI (aA (s.V.pg y.child)) a - cI (aA wp) a
  omega
 ·rw [dN (O5 k hk).2, (O5 k hk).1]
 ·rw [dN (hcr k hk).2, (hcr k hk).1]
 have iX : 1 <= H k + cI (s.up.items.map It.child) k - dl y.child k := by rw [hup]; have := Uc k; have := fN c k; omega
 have h3 := bW (aA s.ch) k;have h4 := s7 k oM;exact ⟨by rw [dN (hcr k iX).2, (hcr k iX).1], (w4 k h4.2).trans h4.1⟩
def Cn (H : Int -> Int) (O : Int -> Bool) (gh : mJ) (n : Int) (l fc : Nat) (ks : List bN) (s s' : Ct) : Prop := ∃ gh' c' A' x' B' WZ XH, Fs H O gh' n l s' c' A' x' B' WZ XH ks /\ fc + 1 <= WZ /\ s.up.items.length <= s'.up.items.length + 1 /\ ∀ k, 1 <= H k -> k ≠ n -> gh' k = gh k /\ s'.V.pg k = s.V.pg k
theorem EY {p q a b : Pg} {sep s : bN} {t : Bool} (h : jm p q sep t = some (a, b, s)) : y0 p q t /\ jz p q (jF p q sep) (if t = true then p.items.length - 1 else p.items.length + 1) = some (a, b, s) := by
 unfold jm at h;split at h
 ·exact ⟨by assumption, h⟩
 cases h
theorem Fs.BS (h : Fs H O gh n l s c A x B fc kc ks) (BQ : bD s.ch = 0) (h1 : (eY s).1 = true) (he : (eY s).2.e = 0) : Cn H O gh n l fc ks s (eY s).2 := by
 unfold eY at h1 he ⊢
 by_cases hl : ¬ s.at_ + 1 < s.up.items.length
 ·rw [ah hl] at h1; cases h1
 rw [ae hl] at h1 he ⊢;have hl := cJ.1 hl;have qu := h.it;cases B with
 | nil => rw [qu, <-h.at_] at hl; simp at hl
 | cons y B =>
  have WO : s.up.items[s.at_ + 1]? = some y := by
   rw [qu, <-h.at_, xI oM, show A.length + 1 - A.length = 1 by omega]; rfl
  rw [jh WO, qH WO] at h1 he ⊢;simp only at h1 he ⊢
  by_cases h5 : (px s.V s.e y.child).1.items.length <= 4
  ·rw [ah h5] at h1; cases h1
  rw [ae h5] at h1 he ⊢;simp only at he ⊢
  obtain ⟨e1, e2, e3⟩ := Eh he;obtain ⟨z1, z2⟩ := EP e1;obtain ⟨q1, q2, q3⟩ := Bw z2;obtain ⟨r1, r2, r3⟩ := Et q1;obtain ⟨p1, p2, p3⟩ := Bw r1;rw [r1] at r3;obtain ⟨u6, -, -, -, s4, -⟩ := h.aO (y := y) (.inr (fp ..)) r2;rw [e3];rw [r1] at q3 z1 e2 ⊢
  rw [r3] at q3 z1 e2 ⊢;rw [s4] at q3
  rw [p3] at h5;obtain ⟨z, hz⟩ := Option.isSome_iff_exists.1 z1;obtain ⟨pl, pr, sep⟩ := z;rw [hz] at e2 ⊢
  rw [q3] at hz;simp only [RX] at e2 ⊢
  obtain ⟨o1, o2, o3⟩ := h.other (y := y) (.inr (fp ..));have JG := h.g.held (n := y.child) o1;obtain ⟨fr, TY, k1, k2, k3, k4⟩ := h.cB.1;have MV := h.g.loc _ JG o2;rw [k1] at MV;obtain ⟨t1, t2⟩ := EY hz;obtain ⟨v1, v2, v3, v4, v5, v6⟩ := Jb h.loc MV h.Zk k4 h.ne k3;have v5 := v5 (tQ BQ) (tQ (h.g.J6 JG));have hfc := (cH.1 h.loc).1;have Bb := (cH.1 MV).1;rw [ae dM] at t2
  obtain ⟨w1, w2, w3, w4, w5, w6⟩ := yV (cH.1 h.loc).2.1 (cH.1 MV).2.1 v5 v1 oM (by rw [v4]; omega) t2;have we : ∀ a, cI (aA pr) a + cI (aA pl) a = cI (aA s.ch) a + cI (aA (s.V.pg y.child)) a := fun a => by
   rw [w5, w6, Int.add_comm, <-cM, <-E3, qd, v3, cM]
  obtain ⟨GS, g1, g2, g3, g4, g5, g6, g7⟩ := h.aal (y := y) (.inr (fp ..)) r2 e2 we w2 w1;obtain ⟨r, hr⟩ : ∃ r, r = (s.V.aO y.child).1 := ⟨_, rfl⟩;rw [<-hr] at g1 g2 g5 g6 g7 ⊢;have lG : s.up.items.set (s.at_ + 1) (⟨sep, [], r, 0⟩ : It) = A ++ x :: (⟨sep, [], r, 0⟩ : It) :: B := by
   rw [qu, <-h.at_, K9 _ _ oM, show A.length + 1 - A.length = 1 by omega]; rfl
  have ma : ∀ k, (k ∈ Dd gh l ((jF s.ch (s.V.pg y.child) y.key).take (s.ch.items.length + 1)) \/ k ∈ Dd gh l ((jF s.ch (s.V.pg y.child) y.key).drop (s.ch.items.length + 1))) -> OQ x.key (Js B none) k := fun k hk => v6 k (by
     rw [<-v2, <-qd (s.ch.items.length + 1) (jF s.ch (s.V.pg y.child) y.key), xm];exact eu.2 hk)
  have WH : ∀ z ∈ A, GS z.child = gh z.child := fun z mh => g4 _ (by
     rw [h.kids, cG, gr];have := df (pB (f := It.child) mh);have := h.hH z.child; have := eE (eR O n z.child); have := bW (B.map It.child) z.child; have := fN c z.child;unfold dl at *; omega)
  have WG : ∀ z ∈ B, GS z.child = gh z.child := fun z mh => g4 _ (by
     rw [h.kids, cG, gr];have := df (pB (f := It.child) mh);have := h.hH z.child; have := eE (eR O n z.child); have := bW (A.map It.child) z.child; have := fN c z.child;unfold dl at *; omega)
  have YE : Dd gh l ((jF s.ch (s.V.pg y.child) y.key).drop (s.ch.items.length + 1)) ≠ [] := by
   have h6 := (cH.1 w2);intro e;have h7 := h6.2.2;refine JB (gh := gh) (l := l) (r := pr.items) h7.2 (fun e4 => ?_) (h7.1 ▸ e);rw [e4] at h6;have := h6.1;simp at this; omega
  have XY : Dd gh l ((jF s.ch (s.V.pg y.child) y.key).take (s.ch.items.length + 1)) ≠ [] := by
   have h6 := (cH.1 w1);intro e;have h7 := h6.2.2;refine JB (gh := gh) (l := l) (r := pl.items) h7.2 (fun e4 => ?_) (h7.1 ▸ e);rw [e4] at h6;have := h6.1;simp at this
  refine ⟨GS, c, A, x, (⟨sep, [], r, 0⟩ : It) :: B, _, _, ⟨g1.ey fun a => ?_, h.kd, lG, h.at_, h.xc, eD WH h.cA, ⟨⟨_, _, g2, oM, YE, fun k hk => ⟨(ma k (.inr hk)).1, w4 k hk, (ma k (.inr hk)).2.2⟩⟩, eD WG h.cB.2⟩, g3, XY, fun k hk => ⟨(ma k (.inl hk)).1, (ma k (.inl hk)).2.1, fun t e => by cases e; exact w3 k hk⟩, ?_, h.ho, fun z mh => ?_, h.hH⟩, oM, ?_, g7⟩
  ·show H a + cI ((s.up.items.set (s.at_ + 1) (⟨sep, [], r, 0⟩ : It)).map It.child) a + cI (aA pl) a = H a + cI (s.up.items.map It.child) a - dl y.child a + dl r a + cI (aA pl) a
   rw [lG, gi, h.kids, cG, cG, gr, gr, h.xc];simp only [dl]; omega
  ·rw [h.ks, eA WH];have e5 : iG GS ((⟨sep, [], r, 0⟩ : It) :: B) = Dd gh l ((jF s.ch (s.V.pg y.child) y.key).drop (s.ch.items.length + 1)) ++ iG gh B := by
    unfold iG;rw [ku]
    show (GS r).ks ++ _ = _
    rw [g2]
    congr 1
    exact eA WG
   have e6 : iG gh (y :: B) = TY ++ iG gh B := by unfold iG; rw [ku, k1]; rfl
   rw [e5, e6, <-je kc, <-v2, <-je (Dd gh l _), <-xm, qd]
  ·have mh : z ∈ s.up.items.set (s.at_ + 1) (⟨sep, [], r, 0⟩ : It) := mh;rw [lG] at mh;simp only [eu, bB] at mh
   rcases mh with mh | rfl | rfl | mh
   ·exact h.self z (by rw [qu]; simp [mh])
   ·exact h.self z (by rw [qu]; simp)
   ·exact g5
   exact h.self z (by rw [qu]; simp [mh])
  show s.up.items.length <= (s.up.items.set (s.at_ + 1) (⟨sep, [], r, 0⟩ : It)).length + 1
  rw [qC]; omega
end
theorem Ow {α : Type} {l : List α} (h : l ≠ []) : ∃ a w, l = a ++ [w] := ⟨l.dropLast, l.getLast h, (PX h).symm⟩
section
variable {H : Int -> Int} {O : Int -> Bool} {gh : mJ} {n : Int} {l : Nat} {s : Ct} {c : Int} {A : List It} {x : It} {B : List It} {fc : Nat} {kc ks : List bN}
theorem Fs.Fx (h : Fs H O gh n l s c A x B fc kc ks) (BQ : bD s.ch = 0) (h1 : (fY s).1 = true) (he : (fY s).2.e = 0) : Cn H O gh n l fc ks s (fY s).2 := by
 unfold fY at h1 he ⊢
 by_cases hl : s.at_ < 1
 ·rw [ah hl] at h1; cases h1
 rw [ae hl] at h1 he ⊢;have oY := h.at_;obtain ⟨A', w, rfl⟩ := Ow (l := A) (fun e => by rw [e] at oY; simp at oY; omega);rw [cj, jt] at oY
 have qu : s.up.items = A' ++ w :: x :: B := by rw [h.it]; simp
 have hiw : s.up.items[s.at_ - 1]? = some w := by
  rw [qu, <-oY, UA, xI (eW _), Ab]; rfl
 have NM : s.up.items[s.at_]? = some x := by
  rw [qu, <-oY, xI oM, show A'.length + 1 - A'.length = 1 by omega]; rfl
 rw [jh hiw] at h1 he ⊢;rw [qH NM] at he ⊢
 simp only at h1 he ⊢;have Zt : w ∈ A' ++ [w] \/ w ∈ B := .inl sM
 by_cases h5 : (px s.V s.e w.child).1.items.length <= 4
 ·rw [ah h5] at h1; cases h1
 rw [ae h5] at h1 he ⊢;simp only at he ⊢
 obtain ⟨e1, e2, e3⟩ := Eh he;obtain ⟨z1, z2⟩ := EP e1;obtain ⟨q1, q2, q3⟩ := Bw z2;obtain ⟨r1, r2, r3⟩ := Et q1;obtain ⟨p1, p2, p3⟩ := Bw r1;rw [r1] at r3;obtain ⟨u6, -, -, -, s4, -⟩ := h.aO Zt r2;rw [e3];rw [r1] at q3 z1 e2 ⊢
 rw [r3] at q3 z1 e2 ⊢;rw [s4] at q3
 rw [p3] at h5;obtain ⟨z, hz⟩ := Option.isSome_iff_exists.1 z1;obtain ⟨pl, pr, sep⟩ := z;rw [hz] at e2 ⊢
 rw [q3] at hz;simp only [RX] at e2 ⊢
 obtain ⟨o1, o2, o3⟩ := h.other Zt;have JG := h.g.held (n := w.child) o1;obtain ⟨cA1, cA2⟩ := qh.1 h.cA;obtain ⟨fr, TY, k1, k2, k3, k4⟩ := cA2.1;have MV := h.g.loc _ JG o2;rw [k1] at MV;obtain ⟨t1, t2⟩ := EY hz;obtain ⟨v1, v2, v3, v4, v5, v6⟩ := Jb MV h.loc k4 h.Zk k3 h.ne;have v5 := v5 (tQ (h.g.J6 JG)) (tQ BQ);have hfc := (cH.1 h.loc).1;have Bb := (cH.1 MV).1;rw [ah rfl] at t2
 have adr : 1 <= fc := by
  have h6 := cH.1 h.loc;rcases Nat.eq_zero_or_pos fc with e | e
  ·exfalso;have : s.ch.items = [] := yS oM;refine h.ne ?_;rw [h6.2.2.1, this];cases l <;> rfl
  exact e
 obtain ⟨w1, w2, w3, w4, w5, w6⟩ := yV (cH.1 MV).2.1 (cH.1 h.loc).2.1 v5 v1 oM (by rw [v4]; omega) t2;have we : ∀ a, cI (aA pl) a + cI (aA pr) a = cI (aA s.ch) a + cI (aA (s.V.pg w.child)) a := fun a => by
  rw [w5, w6, <-cM, <-E3, qd, v3, cM]; omega
 obtain ⟨GS, g1, g2, g3, g4, g5, g6, g7⟩ := h.aal Zt r2 e2 we w1 w2;obtain ⟨r, hr⟩ : ∃ r, r = (s.V.aO w.child).1 := ⟨_, rfl⟩;rw [<-hr] at g1 g2 g5 g6 g7 ⊢;have lG : l9 (aP s.up.items (s.at_ - 1) r) s.at_ sep = (A' ++ [({ w with child := r } : It)]) ++ ({ x with key := sep } : It) :: B := by
  have e4 : aP s.up.items (s.at_ - 1) r = A' ++ ({ w with child := r } : It) :: x :: B := by
   rw [gS r hiw, qu, <-oY, UA, K9 _ _ (eW _), Ab]; rfl
  have e5 : (A' ++ ({ w with child := r } : It) :: x :: B)[s.at_]? = some x := by
   rw [<-oY, xI oM, show A'.length + 1 - A'.length = 1 by omega]; rfl
  rw [e4, Bp sep e5, <-oY, K9 _ _ oM, show A'.length + 1 - A'.length = 1 by omega];simp
 have ma : ∀ k, (k ∈ Dd gh l ((jF (s.V.pg w.child) s.ch x.key).take ((s.V.pg w.child).items.length - 1)) \/ k ∈ Dd gh l ((jF (s.V.pg w.child) s.ch x.key).drop ((s.V.pg w.child).items.length - 1))) -> OQ w.key (Js B none) k := fun k hk => v6 k (by
    rw [<-v2, <-qd ((s.V.pg w.child).items.length - 1) (jF (s.V.pg w.child) s.ch x.key), xm];exact eu.2 hk)
 have JR : ∀ a, cI (s.up.items.map It.child) a = cI (A'.map It.child) a + dl w.child a + dl x.child a + cI (B.map It.child) a := fun a => by
  rw [qu, gi, cG, gr]; simp only [dl]; omega
 have WH : ∀ z ∈ A', GS z.child = gh z.child := fun z mh => g4 _ (by
    rw [JR];have := df (pB (f := It.child) mh);have := h.hH z.child; have := eE (eR O n z.child); have := bW (B.map It.child) z.child; have := fN x.child z.child;omega)
 have WG : ∀ z ∈ B, GS z.child = gh z.child := fun z mh => g4 _ (by
    rw [JR];have := df (pB (f := It.child) mh);have := h.hH z.child; have := eE (eR O n z.child); have := bW (A'.map It.child) z.child; have := fN x.child z.child;omega)
 have YE : Dd gh l ((jF (s.V.pg w.child) s.ch x.key).drop ((s.V.pg w.child).items.length - 1)) ≠ [] := by
  have h6 := (cH.1 w2);intro e;have h7 := h6.2.2;refine JB (gh := gh) (l := l) (r := pr.items) h7.2 (fun e4 => ?_) (h7.1 ▸ e);rw [e4] at h6;have := h6.1;simp at this; omega
 have XY : Dd gh l ((jF (s.V.pg w.child) s.ch x.key).take ((s.V.pg w.child).items.length - 1)) ≠ [] := by
  have h6 := (cH.1 w1);intro e;have h7 := h6.2.2;refine JB (gh := gh) (l := l) (r := pl.items) h7.2 (fun e4 => ?_) (h7.1 ▸ e);rw [e4] at h6;have := h6.1;simp at this; omega
 refine ⟨GS, c, A' ++ [({ w with child := r } : It)], { x with key := sep }, B, _, _, ⟨g1.ey fun a => ?_, h.kd, lG, ?_, h.xc, qh.2 ⟨eD WH cA1, ⟨⟨_, _, g2, oM, XY, fun k hk => ⟨(ma k (.inl hk)).1, (ma k (.inl hk)).2.1, fun t e => by cases e; exact w3 k hk⟩⟩, trivial⟩⟩, eD WG h.cB, g3, YE, fun k hk => ⟨(ma k (.inr hk)).1, w4 k hk, (ma k (.inr hk)).2.2⟩, ?_, h.ho, fun z mh => ?_, h.hH⟩, oM, ?_, g7⟩
 ·show H a + cI ((l9 (aP s.up.items (s.at_ - 1) r) s.at_ sep).map It.child) a + cI (aA pr) a = H a + cI (s.up.items.map It.child) a - dl w.child a + dl r a + cI (aA pr) a
  rw [lG, gi, il, cM, cG, j3, gr, sA, JR];simp only [dl]; omega
 ·show (A' ++ [({ w with child := r } : It)]).length = s.at_
  rw [cj, jt]; omega
 ·rw [h.ks, eA WG];have e5 : iG GS (A' ++ [({ w with child := r } : It)]) = iG gh A' ++ Dd gh l ((jF (s.V.pg w.child) s.ch x.key).take ((s.V.pg w.child).items.length - 1)) := by
   rw [xn, eA WH];unfold iG;rw [ku, List.flatMap_nil, my]
   show _ ++ (GS r).ks = _
   rw [g2]; rfl
  have e6 : iG gh (A' ++ [w]) = iG gh A' ++ TY := by
   rw [xn];unfold iG;rw [ku, List.flatMap_nil, my, k1]; rfl
  rw [e5, e6, je, je, <-je TY, <-v2, <-je (Dd gh l _), <-xm, qd]
 ·have mh : z ∈ l9 (aP s.up.items (s.at_ - 1) r) s.at_ sep := mh;rw [lG] at mh;simp only [eu, bB, cW, or_false] at mh
  rcases mh with (mh | rfl) | rfl | mh
  ·exact h.self z (by rw [qu]; simp [mh])
  ·exact g5
  ·exact h.self x (by rw [qu]; simp)
  exact h.self z (by rw [qu]; simp [mh])
 show s.up.items.length <= (l9 (aP s.up.items (s.at_ - 1) r) s.at_ sep).length + 1
 simp only [l9, aP, R2]; omega
theorem OO {p q : Pg} {sep : bN} (h : decide (eB p q) = true) : eB p q /\ sX p q sep = { p with items := jF p q sep } := by
 have h := of_decide_eq_true h;exact ⟨h, ah h⟩
theorem Fs.BH (h : Fs H O gh n l s c A x B fc kc ks) (h1 : (eJ s).1 = true) (he : (eJ s).2.e = 0) : Cn H O gh n l fc ks s (eJ s).2 := by
 unfold eJ at h1 he ⊢
 by_cases hl : ¬ s.at_ + 1 < s.up.items.length
 ·rw [ah hl] at h1; cases h1
 rw [ae hl] at h1 he ⊢;have hl := cJ.1 hl;have qu := h.it;cases B with
 | nil => rw [qu, <-h.at_] at hl; simp at hl
 | cons y B =>
  have WO : s.up.items[s.at_ + 1]? = some y := by
   rw [qu, <-h.at_, xI oM, show A.length + 1 - A.length = 1 by omega]; rfl
  rw [jh WO, qH WO] at *;simp only at h1 he ⊢
  have he : DY (decide (eB s.ch (xE s.V s.e y.child).1)) (xE s.V s.e y.child).2.1 = 0 := he;obtain ⟨z1, z2⟩ := EP he;obtain ⟨e1, e2, e3⟩ := vE z2;rw [e3] at z1 he ⊢;have hyB : y ∈ A \/ y ∈ y :: B := .inr (fp ..);obtain ⟨o1, o2, o3⟩ := h.other hyB;obtain ⟨t1, t2, t3⟩ := h.g.take (n := y.child) o1 o2 e2;rw [t1] at z1 he ⊢
  obtain ⟨j1, j2⟩ := OO (sep := y.key) z1;rw [j2];have JG := h.g.held (n := y.child) o1;obtain ⟨fr, TY, k1, k2, k3, k4⟩ := h.cB.1;have MV := h.g.loc _ JG o2;rw [k1] at MV;obtain ⟨v1, v2, v3, v4, -, v6⟩ := Jb h.loc MV h.Zk k4 h.ne k3;have Qu := (cH.1 h.loc).2.1;have iE : s.up.items.take (s.at_ + 1) ++ s.up.items.drop (s.at_ + 1 + 1) = A ++ x :: B := by
   have e4 : s.up.items.take (s.at_ + 1) = A ++ [x] := by
    rw [qu, <-h.at_, RY, show A.length + 1 - A.length = 1 by omega, vN oM]; rfl
   have e5 : s.up.items.drop (s.at_ + 1 + 1) = B := by
    rw [qu, <-h.at_, PO, show A.length + 1 + 1 - A.length = 2 by omega, R7 oM]; rfl
   rw [e4, e5]; simp
  have hkb : ∀ a, cI (aA { s.ch with items := jF s.ch (s.V.pg y.child) y.key }) a = cI (aA s.ch) a + cI (aA (s.V.pg y.child)) a := fun a => by
   rw [mg (gU Qu)]
   show cI (kr l (jF s.ch (s.V.pg y.child) y.key)) a = _
   rw [v3, cM]
  refine ⟨gh, c, A, x, B, fc + fr, kc ++ TY, ⟨t2.ey fun a => ?_, h.kd, iE, h.at_, h.xc, h.cA, h.cB.2, cH.2 ⟨v4.symm, gU Qu, v2.symm, v1⟩, ?_, v6, ?_, h.ho, fun z mh => ?_, h.hH⟩, oM, ?_, fun k hk uO => ⟨rfl, ?_⟩⟩
  ·show H a + cI ((s.up.items.take (s.at_ + 1) ++ s.up.items.drop (s.at_ + 1 + 1)).map It.child) a + cI (aA { s.ch with items := jF s.ch (s.V.pg y.child) y.key }) a = H a + cI (s.up.items.map It.child) a + cI (aA s.ch) a - dl y.child a + cI (aA (s.V.pg y.child)) a
   rw [iE, hkb, gi, h.kids, cG, gr, h.xc];simp only [dl]; omega
  ·intro e; exact h.ne (R8.1 e).1
  ·rw [h.ks];have e6 : iG gh (y :: B) = TY ++ iG gh B := by unfold iG; rw [ku, k1]; rfl
   rw [e6, je]
  ·have mh : z ∈ s.up.items.take (s.at_ + 1) ++ s.up.items.drop (s.at_ + 1 + 1) := mh;rw [iE] at mh;simp only [eu, bB] at mh
   rcases mh with mh | rfl | mh
   ·exact h.self z (by rw [qu]; simp [mh])
   ·exact h.self z (by rw [qu]; simp)
   exact h.self z (by rw [qu]; simp [mh])
  ·show s.up.items.length <= (s.up.items.take (s.at_ + 1) ++ s.up.items.drop (s.at_ + 1 + 1)).length + 1
   rw [cj, fK, iC]; omega
  refine t3 k ?_
  by_cases e : k = y.child
  ·right
   have h9 := t2.held (n := k) (by
      show 1 <= H k + cI (s.up.items.map It.child) k + cI (aA s.ch) k - dl y.child k + cI (aA (s.V.pg y.child)) k
      rw [h.kids, cG, gr];have := bW (aA s.ch) k; have := bW (aA (s.V.pg y.child)) k; have := bW (A.map It.child) k; have := bW (B.map It.child) k; have := fN c k;simp only [dl] at *; omega)
   rw [e] at h9; exact h9
  exact .inl e
theorem Fs.E7 (h : Fs H O gh n l s c A x B fc kc ks) (h1 : (fG s).1 = true) (he : (fG s).2.e = 0) : Cn H O gh n l fc ks s (fG s).2 := by
 unfold fG at h1 he ⊢
 by_cases hl : s.at_ < 1
 ·rw [ah hl] at h1; cases h1
 rw [ae hl] at h1 he ⊢;have oY := h.at_;obtain ⟨A', w, rfl⟩ := Ow (l := A) (fun e => by rw [e] at oY; simp at oY; omega);rw [cj, jt] at oY
 have qu : s.up.items = A' ++ w :: x :: B := by rw [h.it]; simp
 have hiw : s.up.items[s.at_ - 1]? = some w := by
  rw [qu, <-oY, UA, xI (eW _), Ab]; rfl
 have NM : s.up.items[s.at_]? = some x := by
  rw [qu, <-oY, xI oM, show A'.length + 1 - A'.length = 1 by omega]; rfl
 rw [jh hiw, jh NM, h.xc] at he ⊢;rw [qH NM] at he ⊢
 simp only at h1 he ⊢;have Zt : w ∈ A' ++ [w] \/ w ∈ B := .inl sM;obtain ⟨hh, Kt⟩ : ∃ hh, hh = uJ s.V s.e w.child := ⟨_, rfl⟩;obtain ⟨t, hte⟩ : ∃ t, t = xE hh.2.2 hh.2.1 c := ⟨_, rfl⟩;obtain ⟨q, Yf⟩ : ∃ q, q = px t.2.2 t.2.1 hh.1 := ⟨_, rfl⟩;rw [<-Kt, <-hte, <-Yf] at he ⊢
 have he : DY (decide (eB q.1 s.ch)) q.2 = 0 := he;obtain ⟨z1, z2⟩ := EP he;obtain ⟨q1, q2, q3⟩ := Bw (V := t.2.2) (e := t.2.1) (m := hh.1) (by rw [<-Yf]; exact z2);rw [<-Yf] at q3;obtain ⟨t1, t2, t3⟩ := vE (V := hh.2.2) (e := hh.2.1) (n := c) (by rw [<-hte]; exact q1);rw [<-hte] at t3
 obtain ⟨r1, r2, r3⟩ := Et (V := s.V) (e := s.e) (m := w.child) (by rw [<-Kt]; exact t1);rw [<-Kt] at r3;obtain ⟨u6, s1, s2, s3, s4, s5, s6, s7, s8, s9, s10⟩ := h.aO Zt r2;rw [<-r3] at s1 s2 s3 s4 s5 s7 s8 s9 s10
 obtain ⟨o1, o2, o3⟩ := h.other Zt;have JG := h.g.held (n := w.child) o1;obtain ⟨V9, ZP, ZO, V8, al5, al6⟩ := h.alone;obtain ⟨r, hr⟩ : ∃ r, r = hh.1 := ⟨_, rfl⟩;rw [<-hr] at s1 s2 s3 s4 s5 s7 s8 s9 s10 q2 q3 ⊢;have JR : ∀ a, cI (s.up.items.map It.child) a = cI (A'.map It.child) a + dl w.child a + dl x.child a + cI (B.map It.child) a := fun a => by
  rw [qu, gi, cG, gr]; simp only [dl]; omega
 have Ku : ∀ a, 0 <= H a := fun a => by have := h.hH a; have := eE (eR O n a); omega
 have Di : 1 <= H r + cI (s.up.items.map It.child) r + cI (aA s.ch) r - dl w.child r + dl r r := by
  rw [JR, dS];have := Ku r; have := bW (aA s.ch) r; have := bW (A'.map It.child) r; have := bW (B.map It.child) r; have := fN x.child r;omega
 have Yl := s1.opens s2 Di s3;rw [s4] at Yl;have hco : eR (eR (eR O n) c) r c = true := by rw [oe (fun e => s9 e.symm), fC]
 obtain ⟨u1, u2⟩ := Yl.RL hco t2;have hO : xZ (eR (eR (eR O n) c) r) c = eR (eR O n) r := by
  funext m
  by_cases e : m = c
  ·subst e;have e2 : xZ (eR (eR (eR O n) m) r) m m = false := by unfold xZ; simp
   rw [e2, oe (fun e => s9 e.symm), al6]
  have e2 : xZ (eR (eR (eR O n) c) r) c m = eR (eR (eR O n) c) r m := by unfold xZ; simp [e]
  rw [e2]
  by_cases e3 : m = r
  ·subst e3; rw [fC, fC]
  rw [oe e3, oe e, oe e3]
 rw [hO] at u1;have hq : q.1 = s.V.pg w.child := by
  rw [q3, t3, (u2 r s9).1, s4]
 rw [hq] at z1 he ⊢;obtain ⟨j1, j2⟩ := OO (sep := x.key) z1;rw [j2, t3];have Vh := h.xc;obtain ⟨cA1, cA2⟩ := qh.1 h.cA;obtain ⟨fr, TY, k1, k2, k3, k4⟩ := cA2.1;have MV := h.g.loc _ JG o2;rw [k1] at MV
 obtain ⟨v1, v2, v3, v4, -, v6⟩ := Jb MV h.loc k4 h.Zk k3 h.ne;have Qu := (cH.1 MV).2.1;have lG : aP s.up.items (s.at_ - 1) r = A' ++ ({ w with child := r } : It) :: x :: B := by
  rw [gS r hiw, qu, <-oY, UA, K9 _ _ (eW _), Ab]; rfl
 have iE : (aP s.up.items (s.at_ - 1) r).take s.at_ ++ (aP s.up.items (s.at_ - 1) r).drop (s.at_ + 1) = A' ++ ({ w with child := r } : It) :: B := by
  have e4 : (A' ++ ({ w with child := r } : It) :: x :: B).take s.at_ = A' ++ [({ w with child := r } : It)] := by
   rw [<-oY, RY, show A'.length + 1 - A'.length = 1 by omega, vN oM]; rfl
  have e5 : (A' ++ ({ w with child := r } : It) :: x :: B).drop (s.at_ + 1) = B := by
   rw [<-oY, PO, show A'.length + 1 + 1 - A'.length = 2 by omega, R7 oM]; rfl
  rw [lG, e4, e5]; simp
 have hkb : ∀ a, cI (aA { s.V.pg w.child with items := jF (s.V.pg w.child) s.ch x.key }) a = cI (aA (s.V.pg w.child)) a + cI (aA s.ch) a := fun a => by
  rw [mg (gU Qu)]
  show cI (kr l (jF (s.V.pg w.child) s.ch x.key)) a = _
  rw [v3, cM]
 have CT : ∀ k, 1 <= H k + cI (s.up.items.map It.child) k + cI (aA s.ch) k -> u6 k = gh k := fun k hk => s6 k (h.g.held (n := k) hk)
 have aaQ : ∀ k ∈ aA { s.V.pg w.child with items := jF (s.V.pg w.child) s.ch x.key }, u6 k = gh k := fun k hk => by
  have h6 := df hk;rw [hkb] at h6
  by_cases e : cI (aA s.ch) k = 0
  ·exact s6 k (h.g.Sy JG o2 (uF oM))
  exact CT k (by have := Ku k; have := bW (aA s.ch) k; have := bW (s.up.items.map It.child) k; omega)
 have WH : ∀ z ∈ A', u6 z.child = gh z.child := fun z mh => CT _ (by
   rw [JR];have := df (pB (f := It.child) mh);have := Ku z.child; have := bW (B.map It.child) z.child; have := fN x.child z.child; have := fN w.child z.child; have := bW (aA s.ch) z.child;omega)
 have WG : ∀ z ∈ B, u6 z.child = gh z.child := fun z mh => CT _ (by
   rw [JR];have := df (pB (f := It.child) mh);have := Ku z.child; have := bW (A'.map It.child) z.child; have := fN x.child z.child; have := fN w.child z.child; have := bW (aA s.ch) z.child;omega)
 refine ⟨u6, r, A', { w with child := r }, B, fr + fc, TY ++ kc, ⟨u1.ey fun a => ?_, h.kd, iE, ?_, rfl, eD WH cA1, eD WG h.cB, ?_, ?_, v6, ?_, h.ho, fun z mh => ?_, h.hH⟩, oM, ?_, fun k hk uO => ⟨CT k (by have := bW (aA s.ch) k; have := bW (s.up.items.map It.child) k; omega), ?_⟩⟩
 ·show H a + cI (((aP s.up.items (s.at_ - 1) r).take s.at_ ++ (aP s.up.items (s.at_ - 1) r).drop (s.at_ + 1)).map It.child) a + cI (aA { s.V.pg w.child with items := jF (s.V.pg w.child) s.ch x.key }) a = H a + cI (s.up.items.map It.child) a + cI (aA s.ch) a - dl w.child a + dl r a + cI (aA (s.V.pg w.child)) a - dl c a
  rw [iE, hkb, gi, JR, Vh]
  dsimp only
  omega
 ·show A'.length = s.at_ - 1
  omega
 ·refine jV.F9 aaQ ?_;exact cH.2 ⟨v4.symm, gU Qu, v2.symm, v1⟩
 ·intro e; exact k3 (R8.1 e).1
 ·rw [h.ks, eA WH, eA WG];have e6 : iG gh (A' ++ [w]) = iG gh A' ++ TY := by
   rw [xn];unfold iG;rw [ku, List.flatMap_nil, my, k1]; rfl
  rw [e6, je, je]
 ·have mh : z ∈ (aP s.up.items (s.at_ - 1) r).take s.at_ ++ (aP s.up.items (s.at_ - 1) r).drop (s.at_ + 1) := mh;rw [iE] at mh;simp only [eu, bB] at mh
  rcases mh with mh | rfl | mh
  ·exact h.self z (by rw [qu]; simp [mh])
  ·exact s8
  exact h.self z (by rw [qu]; simp [mh])
 ·show s.up.items.length <= ((aP s.up.items (s.at_ - 1) r).take s.at_ ++ (aP s.up.items (s.at_ - 1) r).drop (s.at_ + 1)).length + 1
  rw [iE, qu];simp only [cj, jO]; omega
 have O5 : k ≠ c := fun e => by rw [e] at hk; omega
 have iX : 1 <= H k + cI (s.up.items.map It.child) k + cI (aA s.ch) k - dl w.child k := by
  rw [JR];have := bW (A'.map It.child) k; have := bW (B.map It.child) k; have := fN x.child k; have := bW (aA s.ch) k;omega
 exact (u2 k O5).1.trans (s7 k iX).1
end
theorem uj {f k : Nat} {s : Ct} (h : (mb (f + 1) k s).e = 0) : ((jS k s).1 = true /\ mb (f + 1) k s = (jS k s).2) \/ ((jS k s).1 = false /\ ∃ e, mb (f + 1) k s = mb f (k + 1) { s with e := e }) := by
 rw [mb] at h ⊢
 by_cases h1 : s.e ≠ 0
 ·rw [ah h1] at h; exact absurd h h1
 rw [ae h1] at h ⊢
 by_cases h2 : (jS k s).1 = true
 ·rw [ah h2]; exact .inl ⟨h2, rfl⟩
 rw [ae h2];have h2 : (jS k s).1 = false := by simpa using h2
 obtain ⟨e, he⟩ := zT h2;exact .inr ⟨h2, e, by rw [he]⟩
section
variable {H : Int -> Int} {O : Int -> Bool} {gh : mJ} {n : Int} {l : Nat} {s : Ct} {c : Int} {A : List It} {x : It} {B : List It} {fc : Nat} {kc ks : List bN}
theorem Fs.Xq (h : Fs H O gh n l s c A x B fc kc ks) (e : Int) : Fs H O gh n l { s with e := e } c A x B fc kc ks := ⟨h.g, h.kd, h.it, h.at_, h.xc, h.cA, h.cB, h.loc, h.ne, h.Zk, h.ks, h.ho, h.self, h.hH⟩
theorem zU {k : Nat} (h : Fs H O gh n l s c A x B fc kc ks) (BQ : bD s.ch = 0) (h1 : (jS k s).1 = true) (he : (jS k s).2.e = 0) : Cn H O gh n l fc ks s (jS k s).2 := by
 match k, h1, he with
 | 0, h1, he => exact h.BS BQ h1 he
 | 1, h1, he => exact h.Fx BQ h1 he
 | 2, h1, he => exact h.BH h1 he
 | k + 3, h1, he => exact h.E7 h1 he
theorem Tz (h : Fs H O gh n l s c A x B fc kc ks) (BQ : bD s.ch = 0) (h2 : 2 <= s.up.items.length) (he : (kB s).e = 0) : Cn H O gh n l fc ks s (kB s) := by
 unfold kB at he ⊢;rcases uj he with ⟨a1, a2⟩ | ⟨-, e1, a2⟩
 ·rw [a2] at he ⊢; exact zU h BQ a1 he
 rw [a2] at he ⊢;have h1 := h.Xq e1;rcases uj he with ⟨b1, b2⟩ | ⟨-, e2, b2⟩
 ·rw [b2] at he ⊢; exact zU h1 BQ b1 he
 rw [b2] at he ⊢;have h3 := h.Xq e2;rcases uj he with ⟨c1, c2⟩ | ⟨c1, e3, c2⟩
 ·rw [c2] at he ⊢; exact zU h3 BQ c1 he
 rw [c2] at he ⊢;have h4 := h.Xq e3;rcases uj he with ⟨d1, d2⟩ | ⟨d1, e4, d2⟩
 ·rw [d2] at he ⊢; exact zU h4 BQ d1 he
 exfalso;have q1 : ¬ s.at_ + 1 < s.up.items.length := by
  intro hq;have c1 : (eJ { s with e := e2 }).1 = false := c1;unfold eJ at c1;rw [ae (not_not_intro hq)] at c1; cases c1
 have q2 : s.at_ < 1 := by
  refine sN fun hq => ?_
  have d1 : (fG { s with e := e3 }).1 = false := d1;unfold fG at d1;rw [ae hq] at d1; cases d1
 have := h.at_;omega
end
section
variable {V : Va} {H : Int -> Int} {O : Int -> Bool} {gh : mJ} {n : Int} {l : Nat} {key : bN}
structure Md (V : Va) (H : Int -> Int) (O : Int -> Bool) (gh : mJ) (n : Int) (l : Nat) (up : Pg) (y : Int) (j : Nat) (x : It) (fc : Nat) (kc ks : List bN) (ch : Pg) : Prop where
 g : Gv V (fun a => H a + cI (up.items.map It.child) a) (eR O n) gh
 kd : up.kind = 2 /\ up.level = (l : Int) + 1
 it : up.items[j]? = some x
 xc : x.child = y
 cc : qi gh l up.items none
 ks : ks = iG gh up.items
 gy : gh y = .nd l fc kc
 f5 : 5 <= fc
 own : V.own y
 pg : V.pg y = ch
 ho : O n = false
 self : ∀ z ∈ up.items, z.child ≠ n
 hH : ∀ a, zA (eR O n a) <= H a
theorem Pc {p : Pg} {ks : List bN} {d : Cd} (h : Ix d.V H O gh d.n l p ks) (hH : ∀ a, zA (eR O d.n a) <= H a) (hp : d.p = p) (hs : (eV (cU key d).1 (cU key d).2).1 = false) (he : (eV (cU key d).1 (cU key d).2).2.2.e = 0) :
  ∃ u6 j x fc kc, Md (eV (cU key d).1 (cU key d).2).2.2.V H O u6 d.n l (eV (cU key d).1 (cU key d).2).2.2.up (eV (cU key d).1 (cU key d).2).2.1 j x fc kc ks (eV (cU key d).1 (cU key d).2).2.2.ch /\ p.items.length <= (eV (cU key d).1 (cU key d).2).2.2.up.items.length + 1 ∧
   (∀ k, 1 <= H k -> k ≠ d.n -> u6 k = gh k /\ (eV (cU key d).1 (cU key d).2).2.2.V.pg k = d.V.pg k) := by
 have Qy := (ji h.ck).2.2.1 h.kd.1;have CT : de key p.items < p.items.length := tO oM;obtain ⟨a, ha⟩ : ∃ a, a = de key p.items := ⟨_, rfl⟩
 (try unfold sQ at CT); rw [<-ha] at CT
 obtain ⟨x, hx⟩ : ∃ x, p.items[a]? = some x := ⟨_, cV CT⟩;obtain ⟨hh, Kt⟩ : ∃ hh, hh = uJ d.V d.e x.child := ⟨_, rfl⟩;obtain ⟨q, Yf⟩ : ∃ q, q = px hh.2.2 hh.2.1 hh.1 := ⟨_, rfl⟩;have tC : cU key d = (hh.1, ⟨hh.2.2, q.2, { p with items := aP p.items a hh.1 }, a, q.1⟩) := by
  unfold cU;simp only;rw [hp, <-ha, jh hx, <-Kt, <-Yf]
 rw [tC] at hs he ⊢;simp only at hs he ⊢
 obtain ⟨u, hu⟩ : ∃ u : Ct, u = ⟨hh.2.2, q.2, { p with items := aP p.items a hh.1 }, a, q.1⟩ := ⟨_, rfl⟩;rw [<-hu] at hs he ⊢;have hue : u.e = 0 := by
  unfold eV at he;split at he
  ·rename_i h1; exact h1.1
  exact he
 have Qo : q.2 = 0 := by rw [hu] at hue; exact hue
 obtain ⟨q1, q2, q3⟩ := Bw (V := hh.2.2) (e := hh.2.1) (m := hh.1) (by rw [<-Yf]; exact Qo);rw [<-Yf] at q3;obtain ⟨r1, r2, r3⟩ := Et (V := d.V) (e := d.e) (m := x.child) (by rw [<-Kt]; exact q1);rw [<-Kt] at r3
 obtain ⟨gh', s1, s2, s3, s4, s5, s6, s7, s8, s9⟩ := h.aO hH hx r2;rw [<-r3] at s1 s2 s3 s4 s5 s6 s7 s8 s9;obtain ⟨c, hc⟩ : ∃ c, c = hh.1 := ⟨_, rfl⟩;obtain ⟨V1, Dl⟩ : ∃ V1, V1 = hh.2.2 := ⟨_, rfl⟩;rw [<-hc, <-Dl] at s1 s3 s9 q2 q3 hu
 rw [<-hc] at s4 s5 s6 s7 ⊢;rw [<-Dl] at s2 s8
 have lG : aP p.items a c = p.items.take a ++ ({ x with child := c } : It) :: p.items.drop (a + 1) := by
  rw [gS c hx, Lb, ah (nU.1 hx).1]
 have GN : (p.items.take a).length = a := by rw [fK]; omega
 have qU := h.ch;have Ar := h.ks;rw [mC hx, mn] at qU;rw [mC hx, qf] at Ar
 obtain ⟨c1, ⟨f, kc, c2, c3, c4, c5⟩, c6⟩ := qU;rw [c2] at s4 Ar;have Ar : ks = iG gh (p.items.take a) ++ (kc ++ iG gh (p.items.drop (a + 1))) := Ar;have hT : ∀ y ∈ p.items.take a, gh' y.child = gh y.child := fun y hy => (s5 y (oT _ hy)).1
 have hD : ∀ y ∈ p.items.drop (a + 1), gh' y.child = gh y.child := fun y hy => (s5 y (qV _ hy)).1
 have hcO : eR O d.n c = false := by
  cases e : eR O d.n c with
  | false => rfl
  | true => have h2 := hH c; rw [e, rS, s6] at h2; omega
 have LY : ∀ k, cI (aA { p with items := aP p.items a c }) k = cI ((aP p.items a c).map It.child) k := fun k => by
  rw [dy (show ({ p with items := aP p.items a c } : Pg).kind = 2 from h.kd.1)]
 have n4 : ∀ z ∈ aP p.items a c, z.child ≠ d.n := fun z hz => by
  rw [lG] at hz;simp only [eu, bB] at hz
  have Ua : ∀ z ∈ p.items, z.child ≠ d.n := fun z hz e => h.self (by rw [<-e]; exact g9 h.kd.1 hz)
  rcases hz with hz | rfl | hz
  ·exact Ua z (r9 hz)
  ·exact s7
  exact Ua z (Ad hz)
 have Bd : 1 <= H c + cI (aA { p with items := aP p.items a c }) c := by
  rw [s6, LY, lG, gi]
  dsimp only
  rw [dS];have := bW ((p.items.take a).map It.child) c;have := bW ((p.items.drop (a + 1)).map It.child) c;omega
 have BQ := s1.held (n := c) Bd;have IB := s1.loc c BQ hcO;rw [s4] at IB;have Ba := (cH.1 IB).1;have kA : p.items.length = (aP p.items a c).length := by unfold aP; rw [R2]
 by_cases ud : u.e = 0 /\ u.ch.items.length = 4
 ·
  have hF : Fs H O gh' d.n l u c (p.items.take a) { x with child := c } (p.items.drop (a + 1)) f kc ks := by
   rw [hu];have Yl := s1.opens s3 Bd hcO;refine ⟨Yl.ey fun k => ?_, h.kd, lG, GN, rfl, eD hT c1, eD hD c6, by rw [q3]; exact IB, c4, c5, by rw [eA hT, eA hD]; exact Ar, h.ho, n4, hH⟩
   show H k + cI ((aP p.items a c).map It.child) k + cI (aA q.1) k = H k + cI (aA { p with items := aP p.items a c }) k + cI (aA (V1.pg c)) k
   rw [LY, q3]
  have tD : bD u.ch = 0 := by rw [hu, q3]; exact s1.J6 BQ
  unfold eV at hs he ⊢;rw [ah ud] at hs he ⊢
  simp only at hs he ⊢
  by_cases WT : (kB u).e ≠ 0
  ·rw [ah WT] at hs; cases hs
  rw [ae WT] at he ⊢;have WT := cJ.1 WT;simp only at he ⊢
  obtain ⟨Dm, c', A', x', B', WZ, XH, Fq, m1, m2, m3⟩ := Tz hF tD (by rw [hu]; show 2 <= (aP p.items a c).length; omega) WT;obtain ⟨w, hw⟩ : ∃ w, w = kB u := ⟨_, rfl⟩;rw [<-hw] at he Fq m2 m3 WT ⊢;have WO : w.up.items[w.at_]? = some x' := by
   rw [Fq.it, <-Fq.at_, xI (eW _), Ab]; rfl
  rw [jh WO, Fq.xc] at he ⊢;obtain ⟨z1, z2, z3⟩ := Eh he;rw [z3];obtain ⟨V9, ZP, ZO, V8, al5, al6⟩ := Fq.alone;obtain ⟨w1, w2, w3, w4, w5⟩ := Fq.g.write fC z2;have Df := w1.shut (g := .nd l WZ XH) fC (by
    rw [w3];exact Fq.loc.F9 fun k hk => dN fun e => by have := df hk; rw [e] at this; omega) (fun k => by
    rw [w3];have t1 := Fq.aaj k;have t2 := bW (A'.map It.child) k;have t3 := bW (B'.map It.child) k
    show _ <= H k + cI (w.up.items.map It.child) k + cI (aA w.ch) k
    rw [Fq.kids]; omega)
  rw [w3, rN al6] at Df;have Uh : ∀ z ∈ A', xD Dm c' (.nd l WZ XH) z.child = Dm z.child := fun z hz => dN fun e => by
   have := df (pB (f := It.child) hz); rw [e] at this; omega
  have VH : ∀ z ∈ B', xD Dm c' (.nd l WZ XH) z.child = Dm z.child := fun z hz => dN fun e => by
   have := df (pB (f := It.child) hz); rw [e] at this; omega
  have h44 : f = 4 := by rw [Ba, <-q3]; have := ud.2; rw [hu] at this; exact this
  refine ⟨_, w.at_, x', WZ, XH, ⟨Df.ey fun k => ?_, Fq.kd, WO, Fq.xc, ?_, ?_, jy, oM, w1.own c' fC, w3, Fq.ho, Fq.self, Fq.hH⟩, ?_, fun k hk uO => ?_⟩
  ·show H k + cI (w.up.items.map It.child) k = H k + cI (w.up.items.map It.child) k + cI (aA w.ch) k - cI (aA w.ch) k
   omega
  ·rw [Fq.it, mn];refine ⟨eD Uh Fq.cA, ⟨WZ, XH, by rw [Fq.xc]; exact jy, oM, Fq.ne, Fq.Zk⟩, eD VH Fq.cB⟩
  ·rw [Fq.it, qf, eA Uh, eA VH, Fq.xc, jy];exact Fq.ks
  ·rw [hu] at m2
   show p.items.length <= w.up.items.length + 1
   have m2 : (aP p.items a c).length <= w.up.items.length + 1 := m2;omega
  have O5 : k ≠ c' := fun e => by rw [e] at hk; omega
  have t1 := m3 k hk uO;have t2 := s8 k hk;rw [hu] at t1;exact ⟨by rw [dN O5]; exact t1.1.trans t2.1, (w4 k O5).trans (t1.2.trans t2.2)⟩
 unfold eV;rw [ae ud];simp only;have Vt : (aP p.items a c)[a]? = some { x with child := c } := by
  rw [lG, xI oM, GN, Ab]; rfl
 have hf5 : 5 <= f := by
  have : ¬ f = 4 := fun e => ud ⟨hue, by rw [hu]; show q.1.items.length = 4; rw [q3, <-Ba]; exact e⟩
  omega
 rw [hu];refine ⟨gh', a, { x with child := c }, f, kc, ⟨s1.ey fun k => ?_, h.kd, Vt, rfl, ?_, ?_, s4, hf5, s3, q3.symm, h.ho, n4, hH⟩, ?_, fun k hk _ => s8 k hk⟩
 ·show H k + cI ((aP p.items a c).map It.child) k = H k + cI (aA { p with items := aP p.items a c }) k
  rw [LY]
 ·show qi gh' l (aP p.items a c) none
  rw [lG, mn];exact ⟨eD hT c1, ⟨f, kc, s4, c3, c4, c5⟩, eD hD c6⟩
 ·show ks = iG gh' (aP p.items a c)
  rw [lG, qf, eA hT, eA hD]
  show ks = _ ++ ((gh' c).ks ++ _)
  rw [s4]; exact Ar
 show p.items.length <= (aP p.items a c).length + 1
 omega
end
end Go.Proofs.YteifbglognfgdaaGreatDoor.X
