/- The ground and the walks of this claim, part 3: XNode2 XNode3 XDraw XNode4 XBlob XWalk2 XDefer XStore XPut XPut2 XPut3 XPut4 XPut5 XLoad1 XLoad2 XLoad3 XChk XChk2 XChk3 XChk4 XDoc XDoc2 XSound XWhole XWhole2 XLoad4 XCk XCk2 XCk3 XSpan4 XWithin XLeast XItems XScan XIt. -/
import Derived.Test.YteifbglognfgdaaGreatDoorY2
namespace Go.Proofs.YteifbglognfgdaaGreatDoor.X
open _root_.Go.Proofs.Tryz _root_.Go.Proofs.YteifbglognfgdaaGreatDoor.Tryz
set_option linter.unusedVariables false
set_option linter.unusedSimpArgs false
set_option maxRecDepth 20000
set_option maxHeartbeats 8000000
section
variable {P : Program} {n : Nat} {ops : Array Oper} {dr : Bool} {done r : List Nat} {K : gj -> World -> Prop} {e : gj} {w : World} {i d : Nat} {t s : TypeId} {p : String} {af : Array Edge} {g : Option (Nat × Bool)} {x : Operand}
theorem I1 {c : TypeId} {q : Option Addr} {len cap z : Nat} {lo : Int} {kl : IntKind} {l : Operand} (ho : ops[i]? = some ⟨some d, .slice s x (some l) none none, t, p, af, g⟩) (hs : P.underlying s = some (.slice c)) (hz : (P.info? c).map (·.size) = some z)
  (hx : ev e x = some (.slice q len cap)) (hl : ev e l = some (.int kl lo)) (hb : 0 <= lo /\ lo <= len) (hc : len <= cap) (hq : lo < cap -> ∃ b o, q = some ⟨b, o, none⟩)
  (h : ∀ v', (∀ b o, q = some ⟨b, o, none⟩ -> lo < cap -> v' = .slice (some ⟨b, o + lo.toNat * z, none⟩) (len - lo.toNat) (cap - lo.toNat)) -> (lo = cap -> v' = .slice q 0 0) -> XL P n ops dr (i :: done) r K ((d, v') :: e) w) (hd : Nat.blt d n = true := by exact rfl) (hg : Gd ops e g := by first | trivial | exact ⟨_, rfl, rfl⟩) : XL P n ops dr done (i :: r) K e w := by
 by_cases IB : lo < cap
 ·obtain ⟨b, o, rfl⟩ := hq IB;exact Rx (hd := hd) (hg := hg) ho hs hz hx hl hb IB (h _ (fun b' o' h1 _ => by cases h1; rfl) (fun h1 => by omega))
 have hlen : len = cap := oM;subst hlen;exact Og (hd := hd) (hg := hg) ho hs (by rw [hz]; rfl) hx hl oM (h _ (fun b' o' _ h1 => absurd h1 IB) (fun _ => rfl))
end
theorem Az {z : Nat} : ∀ {rs : List (List Value)} {j : Nat}, (∀ r ∈ rs, r.length = z) -> (rs.take j).flatten = rs.flatten.take (j * z)
 | [], j, _ => by simp
 | r :: rs, 0, _ => by simp
 | r :: rs, j + 1, h => by
  have hr := h r (fp ..);have ih := Az (rs := rs) (j := j) (fun x hx => h x (gF _ hx));simp only [R5, C9];rw [ih, show (j + 1) * z = r.length + j * z by rw [yQ]; omega, List.take_length_add_append]
theorem AA {z : Nat} : ∀ {rs : List (List Value)} {j : Nat}, (∀ r ∈ rs, r.length = z) -> (rs.drop j).flatten = rs.flatten.drop (j * z)
 | [], j, _ => by simp
 | r :: rs, 0, _ => by simp
 | r :: rs, j + 1, h => by
  have hr := h r (fp ..);have ih := AA (rs := rs) (j := j) (fun x hx => h x (gF _ hx));simp only [R4, C9];rw [ih, show (j + 1) * z = r.length + j * z by rw [yQ]; omega, List.drop_length_add_append]
theorem gC.take {z m cap : Nat} {a : Option Addr} {rs : List (List Value)} {w : World} (h : gC z (.slice a m cap) rs w) {j cap' : Nat} (hj : j <= rs.length) (hc : j <= cap') (h0 : rs = [] -> cap' = 0) : gC z (.slice a j cap') (rs.take j) w \/ a = none := by
 rcases h with ⟨a', h1, h2, rfl⟩ | ⟨b, o, c, h1, h2, h3, h4⟩
 ·cases h1;cases a with
  | none => exact .inr rfl
  | some a =>
   have : j = 0 := by simpa using hj
   subst this;rw [h0 rfl];exact .inl (.inl ⟨_, rfl, fun _ _ => rfl, by simp⟩)
 cases h1;refine .inl (.inr ⟨b, o, cap', by rw [fK]; congr 1; omega, by rw [fK]; omega, fun r hr => h3 r (r9 hr), ?_⟩);rw [Az h3]; exact h4.take _
theorem kZ.take {L : List az} {a : Option Addr} {m cap : Nat} {l : List bT} (h : kZ L (.slice a m cap) l) {j : Nat} (hj : j <= l.length) (hn : a = none -> cap = 0) : kZ L (.slice a j j) (l.take j) :=
 ⟨fun g w hw => by
  have h1 := h.sl.at hw;rw [K5];rcases h1.take (j := j) (cap' := j) (by rw [bA]; exact hj) (eW _) (fun h => by have := congrArg List.length h; rw [bA] at this; simp at this; simp [this] at hj; exact hj) with h2 | h2
  ·exact h2
  ·subst h2;have hl := h1.form;obtain ⟨a, c, h3, h4, _⟩ := hl;cases h3;rw [hn rfl, bA] at h4;have : j = 0 := oM;subst this;exact .inl ⟨none, rfl, (fun x hx => by cases hx), rfl⟩, fun x hx => h.it x (r9 hx), by have := h.len; rw [fK]; omega⟩
theorem kZ.drop {L : List az} {a : Option Addr} {m cap : Nat} {l : List bT} (h : kZ L (.slice a m cap) l) {j : Nat} {v' : Value} (hj : j <= l.length)
  (h1 : ∀ b o, a = some ⟨b, o, none⟩ -> (j : Int) < cap -> v' = .slice (some ⟨b, o + (j : Int).toNat * 4, none⟩) (m - (j : Int).toNat) (cap - (j : Int).toNat)) (h2 : (j : Int) = cap -> v' = .slice a 0 0) : kZ L v' (l.drop j) :=
 ⟨fun g w hw => by
  have h3 := h.sl.at hw;rw [K4];rw [fQ] at h1
  rcases h3 with ⟨a', e1, e2, e3⟩ | ⟨b, o, c, e1, e2, e3, e4⟩
  ·cases e1;have : j = 0 := by have := congrArg List.length e3; simp at this; simp [this] at hj; exact hj
   subst this;rw [h2 rfl, e3];exact .inl ⟨_, rfl, e2, rfl⟩
  ·cases e1;rw [bA] at e2
   by_cases hc : (j : Int) < cap
   ·rw [h1 b o rfl hc];refine .inr ⟨b, o + j * 4, cap - j, by simp, by simp; omega, fun r hr => e3 r (Ad hr), ?_⟩;rw [AA e3]; exact e4.drop _
   ·have hjc : j = cap := oM;rw [h2 oM, u0 (by rw [bA]; omega)];exact .inl ⟨_, rfl, (fun x hx => by cases hx; rfl), rfl⟩, fun x hx => h.it x (Ad hx), by have := h.len; rw [iC]; omega⟩
def Cl (v : Value) : Prop := ∀ a n c, v = .slice a n c -> ∀ x, a = some x -> x.spot = none
theorem gC.plain {z : Nat} {v : Value} {rs : List (List Value)} {w : World} (h : gC z v rs w) (hn : 0 < rs.length) : Cl v := fun a n c e x hx => by
 subst e;obtain ⟨b, o, rfl⟩ := h.nn hn;cases hx; rfl
theorem sR {p : bm} {G : Gh} {R : List az} {w : World} (h : ar G (aR p :: R) w) : Cl p.s := fun a n c e x hx => by
 have h1 := ar.cD (M := fi p) h;simp only [fi, j4, jG] at h1;obtain ⟨_, h2 | ⟨b, cap, cur, h2, _⟩⟩ := oR h1
 ·rw [h2.1] at e; cases e; cases hx
 rw [h2] at e; cases e; cases hx; rfl
theorem gC.I' {z m cap : Nat} {a : Option Addr} {rs : List (List Value)} {w : World} (h : gC z (.slice a m cap) rs w) : rs.length <= cap /\ (0 < cap -> ∃ b o, a = some ⟨b, o, none⟩) /\ (a = none -> cap = 0) := by
 rcases h with ⟨a', h1, h2, rfl⟩ | ⟨b, o, c, h1, h2, h3, h4⟩
 ·cases h1; exact ⟨fo _, fun h => absurd h oM, fun _ => rfl⟩
 cases h1; exact ⟨h2, fun _ => ⟨b, o, rfl⟩, (fun h => by cases h)⟩
theorem Mb {pcs : List (Value × List bT)} (h1 : pcs.length <= 1000) (h2 : ∀ x ∈ pcs, x.2.length <= 1000000) (k : Nat) : ((pcs.take k).flatMap (·.2)).length <= 1000000000 := by
 have key : ∀ (l : List (Value × List bT)), (∀ x ∈ l, x.2.length <= 1000000) -> (l.flatMap (·.2)).length <= l.length * 1000000 := by
  intro l
  induction l with
  | nil => intro _; simp
  | cons x l ih =>
   intro h;have h3 := ih (fun y hy => h y (gF _ hy));have h4 := h x (fp ..);rw [ku, cj, jO]; omega
 have h3 := key (pcs.take k) (fun x hx => h2 x (r9 hx));have h4 : (pcs.take k).length <= 1000 := by rw [fK]; omega
 omega
section
variable {G : Gh} {L R : List az} {w : World}
theorem oJ {v : Value} {l : List bT} {at_ : Nat} (hw : ar G L w) (hl : kZ L v l) (tC : Cl v) (ha : at_ <= l.length) : Calls prog 145 #[v, iQ at_] w (dv fun r w' => ∃ va vb, r = .tuple #[va, vb] /\ kZ L va (l.take at_) /\ kZ L vb (l.drop at_) /\ ar G L w') := by
 obtain ⟨a, c, rfl, -, -⟩ := (hl.sl.at hw).form;obtain ⟨Bd, L4, Ud⟩ := (hl.sl.at hw).I';have hc4 := tC _ _ _ rfl;rw [bA] at Bd;have hlen : (l.map bT.cells).length = l.length := bA ..;refine al (args := [_, _]) func145 rfl ntmps145 rfl rfl ?_;refine z6 ?_;refine bu [0, 1, 2, 3, 4, 5, 6, 7, 8] bK kR ?_;replace hw := hw.drawn (w.drawn + 1);refine z3 ?_;refine Oh rfl aG I7 rfl hc4 rfl rfl ⟨oM, oM, oM⟩ ?_;refine z2 ?_;refine I1 rfl aG aY rfl rfl ⟨oM, oM⟩ oM (fun h => L4 oM) fun v12 acJ acI => ?_;refine z4 ?_;exact eK rfl rfl rfl rfl ⟨_, v12, rfl, by
 have h := hl.take ha Ud
 simpa using h, hl.drop ha acJ acI, hw⟩
theorem yv {p : bm} (hw : ar G L w) : Calls prog 190 #[gQ p.cells] w (dv fun r w' => r = .bool (decide (p.kind = 1 \/ p.kind = 2)) /\ ar G L w') := by
 refine al (args := [_]) func190 rfl ntmps190 rfl rfl ?_;refine z2 ?_;refine bE rfl rfl rfl hw rfl fun w b1 hw => ?_;refine z5 ?_;refine lD (v := iQ p.kind) ai hw ?_;refine z2 ?_;refine bY (l1 := [4, 5, 6, 7]) (l2 := [8]) rfl (d := 10) (p.kind = 1 \/ p.kind = 2) rfl ?_ ?_
 ·
  refine aE (d := 6) rfl (fun h1 => ?_) fun h1 => ?_
  ·
   refine z5 ?_;refine cQ ?_;exact dC
  refine z1 ?_;refine lD (v := iQ p.kind) ai hw ?_;refine z3 ?_;refine cQ ?_;exact dC
 refine z3 ?_;exact br rfl rfl rfl ⟨rfl, (hw.b [ag b1 _ _]).tail⟩
theorem j9 {p : bm} {pv : Value} {pcs : List (Value × List bT)} (hw : ar G L w) (hp : p.Ok L) (Zw : aX L (tF pv (pcs.map (·.1)))) (qu : ∀ x ∈ pcs, kZ L x.1 x.2) (hlen : pcs.length <= 1000) (jv : ∀ x ∈ pcs, x.2.length <= 1000000) :
  Calls prog 146 #[gQ p.cells, pv] w (dv fun r w' => ∃ p' : bm, r = gQ p'.cells /\ p'.pg = ⟨p.kind, p.level, (pcs.flatMap (·.2)).map bT.it, p.data, p.next⟩ /\ p'.Sm /\ ar G (aR p' :: L) w') := by
 obtain ⟨a1, c1, a2, c2, hs, hd, gJ⟩ := hp.form hw;obtain ⟨pa, pc, rfl⟩ := (Zw.at hw).form;rw [bA] at Zw ⊢;rw [gJ];have hdt := hp.data;rw [hd] at hdt
 refine al (args := [_, _]) func146 rfl ntmps146 rfl rfl ?_;refine z2 ?_;refine bE rfl rfl rfl hw rfl fun w b2 hw => ?_;refine aN rfl bf hw rfl fun w b4 hw => ?_;refine z4 ?_;refine lD ay hw ?_;refine an rfl gH rfl (iw hw (hdt.of sF) hp.sd) rfl fun w v11 hv => ?_;have hw : ar G (row 5 1 v11 p.data.length (dV p.data) :: _) _ := hv;obtain ⟨W5, W2, rfl⟩ := aM hw;refine z1 ?_;refine bS (l' := [_, _, _, _, _]) rfl tV rfl rfl ay rfl hw pK rfl rfl rfl fun w hw => ?_;refine z4 ?_;refine bS (l' := [_, _, _, _, _]) rfl tV rfl rfl ao rfl hw pK rfl rfl rfl fun w hw => ?_;refine z5 ?_;refine dQ rfl kR eF rfl ?_;refine z3 ?_;have hw := cf (ar.bH (M := ([] : List bT).flatMap bn) hw) 114 4;have hw := hw.b [ag b2 _ _, row 114 4 _ _ _, aT _, row 5 1 _ _ _, ag b4 _ _];refine cO (fun m e w => ∃ (k : Nat) (dn : List bT) (u : Value), k <= pcs.length /\ m = pcs.length - k /\ e = [(2, pQ b2), (4, pQ b4), (14, .slice pa pcs.length pc), (15, iQ pcs.length), (16, iQ k)] /\ (dn.map bT.it = ((pcs.take k).flatMap (·.2)).map bT.it) /\ ar G (ag b2 [iQ p.kind, iQ p.level, u, .slice W5 p.data.length W2, iQ p.next] 75 :: row 114 4 u dn.length (dn.map bT.cells).flatten :: aT (dn.flatMap bn) :: row 5 1 (.slice W5 p.data.length W2) p.data.length (dV p.data) :: ag b4 [iQ 0, iQ 0, nQ, nQ, iQ 0] 75 :: L) w)
  (m := pcs.length) sB
  ⟨0, [], nQ, fo _, rfl, rfl, rfl, hw⟩ ?_
 rintro m e w ⟨k, dn, u, hk, rfl, rfl, rf, hw⟩;refine z5 ?_;refine aS rfl (fun h1 => ?_) fun h1 => ?_
 ·
  have nS : k < pcs.length := oM;obtain ⟨⟨lv, l⟩, hx⟩ : ∃ x, pcs[k]? = some x := ⟨_, cV nS⟩;have CM := qu _ (ed hx);have SO := jv _ (ed hx);have MO : (pcs.map (·.1))[k]? = some lv := by rw [dB, hx]; rfl
  simp only at CM SO;obtain ⟨la, lc, rfl, -, -⟩ := ((CM.of sF).sl.at hw).form;rw [bA] at CM MO
  have NP : dn.length <= 1000000000 := by
   have h := congrArg List.length rf;rw [bA, bA] at h;rw [h]; exact Mb hlen jv k
  obtain ⟨bb, oo, rfl⟩ := ((Zw.of sF).at hw).nn (by rw [bA]; omega);refine z5 ?_;refine fk rfl eF gw rfl rfl ⟨oM, oM⟩ ?_;refine bt rfl rfl (aj.one (v := .slice la l.length lc) ao (((Zw.of sF).at hw).at (by rw [fQ]; exact MO))) ?_;refine z9 ?_;refine cO (fun m e w => ∃ (j : Nat) (dn : List bT) (u : Value), j <= l.length /\ m = l.length - j /\ e = [(2, pQ b2), (4, pQ b4), (14, .slice (some ⟨bb, oo, none⟩) pcs.length pc), (15, iQ pcs.length), (16, iQ k), (20, .slice la l.length lc), (21, iQ l.length), (22, iQ j)] /\ (dn.map bT.it = ((pcs.take k).flatMap (·.2)).map bT.it ++ (l.take j).map bT.it /\ dn.length <= 1000000000 + j) /\ ar G (ag b2 [iQ p.kind, iQ p.level, u, .slice W5 p.data.length W2, iQ p.next] 75 :: row 114 4 u dn.length (dn.map bT.cells).flatten :: aT (dn.flatMap bn) :: row 5 1 (.slice W5 p.data.length W2) p.data.length (dV p.data) :: ag b4 [iQ 0, iQ 0, nQ, nQ, iQ 0] 75 :: L) w)
   (m := l.length) sB
   ⟨0, dn, u, fo _, rfl, rfl, ⟨by simp [rf], oM⟩, hw⟩ ?_
  rintro m e w ⟨j, dn, u, hj, rfl, rfl, ⟨rf, NP⟩, hw⟩;refine z5 ?_;refine aS rfl (fun h2 => ?_) fun h2 => ?_
  ·
   have hj' : j < l.length := oM;obtain ⟨x, hy⟩ : ∃ x, l[j]? = some x := ⟨_, cV hj'⟩;have GM := CM.it x (ed hy);have NB : (l.map bT.cells)[j]? = some x.cells := by rw [dB, hy]; rfl
   obtain ⟨bc, oc, rfl⟩ := ((CM.of sF).sl.at hw).nn (by rw [bA]; omega);refine z5 ?_;refine dD rfl aG aY rfl rfl ⟨oM, oM⟩ ?_;refine bt rfl rfl (aj.many (cs := x.cells) aI rfl (by rw [fQ]; exact ((CM.of sF).sl.at hw).at NB)) ?_;refine aN rfl fV hw rfl fun w b8 hw => ?_;refine aL (cs := x.cells) (l' := x.cells) rfl tV rfl rfl aI rfl (mB (GM.of sF) hw) hw pK (by simp [bT.cells]) rfl rfl fun w hw => ?_;refine aH ?_;refine bu [0, 1, 2, 3, 4, 5, 6, 7] bK kR ?_;replace hw := hw.drawn (w.drawn + 1);refine z1 ?_;refine lD ao hw ?_;refine lA (l := x.cells) aI hw ?_;refine dL rfl Gq rfl (HB (x := x) hw (GM.of sF)) (fun w TU hv q' hq => ?_) fun w TU hv => ?_
   ·
    obtain ⟨x', rfl, Zs, Fi, hw⟩ := hv;have hq := a9 (l := [1]) kR hq;simp only [bB, cW, or_false] at hq;subst hq;exact aV rfl rfl rfl (aj.bx ao hw pK rfl)
   obtain ⟨x', rfl, Zs, Fi, hw⟩ := hv;refine vA rfl aG aY mM dM rfl rfl rfl hw (fun w W3 hw q' hq => ?_) fun w W3 hw => ?_
   ·
    have hq := a9 (l := [1]) kR hq;simp only [bB, cW, or_false] at hq;subst hq;exact aV rfl rfl rfl (aj.bx ao hw pK rfl)
   refine gP (m := dn.length) (k := 1) (news := x'.cells) rfl aG aY C0 mM rfl rfl hw pK (Rd.nP hw pK) rfl Fi mL oM kR fun w v31 hw => ?_;obtain ⟨a31, c31, rfl⟩ := aM hw;refine z1 ?_;refine bS (l' := [_, _, _, _, _]) rfl tV rfl rfl ao rfl hw pK rfl rfl kR fun w hw => ?_;refine z5 ?_;have hw := (hw.b [ag W3 _ _, ag b8 _ _, aT (dn.flatMap bn), aT (bn x')]).tail.tail.Mz;have e1 : dn.flatMap bn ++ bn x' = (dn ++ [x']).flatMap bn := by simp
   have e2 : (dn.map bT.cells).flatten ++ x'.cells = ((dn ++ [x']).map bT.cells).flatten := by simp
   rw [e1, e2] at hw;have hz := hw.b [ag b2 _ _, row 114 4 _ _ _, aT _, row 5 1 _ _ _, ag b4 _ _];refine ⟨l.length - (j + 1), oM, [(2, _), (4, _), (14, _), (15, _), (16, _), (20, _), (21, _), (22, iQ (j + 1 : Nat))], sB, j + 1, dn ++ [x'], .slice a31 (dn.length + 1) c31, oM, rfl, rfl, ⟨?_, by simp; omega⟩, ?_⟩
   ·rw [cP hy, il, il, rf, <-je]; simp [Zs]
   rw [cj, jt]; exact hz
  refine z5 ?_;have WN : j = l.length := oM;subst WN;refine ⟨pcs.length - (k + 1), oM, [(2, _), (4, _), (14, _), (15, _), (16, iQ (k + 1 : Nat))], sB, k + 1, dn, u, oM, rfl, rfl, ?_, hw⟩;rw [cP hx, Ac, rf, uZ]; simp
 have wg : k = pcs.length := oM;subst wg;rw [uZ] at rf;obtain ⟨ua, uc, rfl⟩ := aM (hw.pick (A := row 114 4 u _ _) pK);refine z3 ?_;refine bt rfl rfl (aj.cw (l := [iQ p.kind, iQ p.level, .slice ua dn.length uc, .slice W5 p.data.length W2, iQ p.next]) ad hw pK sM) ?_;refine aL (cs := [iQ p.kind, iQ p.level, .slice ua dn.length uc, .slice W5 p.data.length W2, iQ p.next]) (l' := [iQ p.kind, iQ p.level, .slice ua dn.length uc, .slice W5 p.data.length W2, iQ p.next]) rfl tV rfl rfl ad rfl (by intro u hu; simp at hu; rcases hu with rfl | rfl | rfl | rfl | rfl <;> rfl) hw pK sM rfl rfl (fun w hw => ?_);refine z2 ?_;exact br rfl rfl ⟨_, rfl, (aj.cw ad hw pK sM)⟩ (by
 refine ⟨⟨p.kind, p.level, dn, .slice ua dn.length uc, .slice W5 p.data.length W2, p.data, p.next⟩, rfl, by simp only [bm.pg, rf], ⟨?_, fun y hy => ?_, hp.sd⟩, ?_⟩
 ·have h := congrArg List.length rf;rw [bA, bA] at h;have h2 := Mb hlen jv pcs.length;rw [uZ] at h2
  show dn.length <= _; omega
 ·have : y.it ∈ (pcs.flatMap (·.2)).map bT.it := rf ▸ pB hy;obtain ⟨z, hz, XK⟩ := dd.1 this;obtain ⟨q, hq, hzq⟩ := G2.1 hz;rw [<-XK]; exact ⟨((qu q hq).it z hzq).sk, ((qu q hq).it z hzq).sv⟩
 ·have hw := (hw.b [ag b2 _ _, ag b4 _ _]).tail.tail;refine ar.bH (M := fi _) ?_;simp only [fi];exact hw)
end
def bM : bN -> bN -> Nat
 | x :: a, y :: b => if x = y then bM a b + 1 else 0
 | _, _ => 0
theorem zt : ∀ a b : bN, bM a b <= a.length /\ bM a b <= b.length
 | [], b => by simp [bM]
 | x :: a, [] => by simp [bM]
 | x :: a, y :: b => by
  have := zt a b;simp only [bM, jO];split <;> omega
theorem zu : ∀ (a b : bN) (k : Nat), k <= a.length -> k <= b.length -> (∀ j, j < k -> a.getD j 0 = b.getD j 0) -> bM a b = k + bM (a.drop k) (b.drop k)
 | a, b, 0, _, _, _ => by simp
 | [], b, k + 1, h, _, _ => by simp at h
 | x :: a, [], k + 1, _, h, _ => by simp at h
 | x :: a, y :: b, k + 1, h1, h2, h => by
  have h0 : x = y := by simpa using h 0 oM
  have ih := zu a b k (by simpa using h1) (by simpa using h2) (fun j hj => by simpa using h (j + 1) oM);simp only [bM, ah h0, R4, ih]; omega
theorem Ga {a b : bN} {x y : UInt8} (h : x ≠ y) : bM (x :: a) (y :: b) = 0 := ae h
def kF (a b : bN) : Option bN := if 0 <= bU a b then none else if 24 <= bM a b then none else
 if bM a b = a.length then some (b.take (bM a b) ++ [0]) else some (b.take (bM a b) ++ [a.getD (bM a b) 0 + 1])
theorem B3 : ∀ a : bN, bU a a = 0 := fun a => AU.2 rfl
theorem wM : ∀ {a b : bN}, bU a b < 0 -> bM a b < b.length
 | [], [], h => by simp [bU] at h
 | [], y :: b, _ => by simp [bM]
 | x :: a, [], h => by simp [bU] at h
 | x :: a, y :: b, h => by
  simp only [bU] at h;simp only [bM, jO];split
  ·rename_i e; subst e;rw [ae oM, ae oM] at h;have := wM h; omega
  omega
theorem Gc : ∀ {a b : bN}, bU a b < 0 -> bM a b < a.length -> (a.getD (bM a b) 0).toNat < (b.getD (bM a b) 0).toNat
 | [], _, _, h => by simp at h
 | x :: a, [], h, _ => by simp [bU] at h
 | x :: a, y :: b, h, h2 => by
  simp only [bU] at h;simp only [bM] at h2 ⊢
  by_cases e : x = y
  ·subst e;rw [ah rfl] at h2 ⊢;rw [ae oM, ae oM] at h
   simpa using Gc h (by simpa using h2)
  rw [ae e];simp only [R6];refine sN fun hn => ?_
  rw [ae hn] at h;split at h
  ·omega
  rename_i h3;exact e (UInt8.toNat_inj.1 oM)
theorem kL.arm {b : bN} {v : Value} {w : World} (h : kL v b w) (hb : 0 < b.length) : ∃ bb ob c, v = .slice (some ⟨bb, ob, none⟩) b.length c /\ b.length <= c := by
 rcases h with ⟨_, h⟩ | ⟨bb, ob, c, h1, h2, _⟩
 ·subst h; simp at hb
 exact ⟨bb, ob, c, h1, h2⟩
theorem kL.aah {L : List az} {b : bN} {bb ob c : Nat} (h : aX L (kL (.slice (some ⟨bb, ob, none⟩) b.length c) b)) {j : Nat} (hj : j <= b.length) : aX L (kL (.slice (some ⟨bb, ob, none⟩) j j) (b.take j)) := fun g w hw => by
 rcases h.at hw with ⟨⟨a, h1⟩, h2⟩ | ⟨b', o', c', h1, h2, h3⟩
 ·subst h2;have : j = 0 := by simpa using hj
  subst this;exact .inl ⟨⟨_, rfl⟩, rfl⟩
 cases h1;refine .inr ⟨bb, ob, j, by rw [fK, Nc hj], by rw [fK]; omega, ?_⟩;rw [Mu]; exact h3.take _
theorem Oy {z b T : Nat} {r : List Value} (hr : r.length = z) : aX [ag b r T] (gC z (sQ b 1 1) [r]) := fun g w hw =>
 .inr ⟨b, 0, 1, rfl, eW _, (fun x hx => by simp at hx; subst hx; exact hr), by simp only [C9, List.flatten_nil, my]; have := Rd.gN (o := 0) hw .here; simpa using this⟩
theorem tL {b T : Nat} {cs : List Value} : aX [ag b cs T] (tF (sQ b cs.length cs.length) cs) := fun g w hw =>
 .inr ⟨b, 0, cs.length, rfl, eW _, by have := Rd.gN (o := 0) hw .here; simpa using this⟩
section
variable {G : Gh} {L R : List az} {w : World}
theorem F5 {va vb : Value} {a b : bN} (hw : ar G L w) (ka : aX L (kL va a)) (kb : aX L (kL vb b)) (ha : bz a) (hb : bz b) : Calls prog 198 #[va, vb] w (dv fun r w' => r = iQ (bM a b) /\ ar G L w') := by
 unfold bz at ha hb;obtain ⟨pa, ca, rfl⟩ := (ka.at hw).form;obtain ⟨pb, cb, rfl⟩ := (kb.at hw).form;obtain ⟨n, hn⟩ : ∃ n : Nat, (n : Int) = min (a.length : Int) b.length := ⟨min a.length b.length, oM⟩;refine al (args := [_, _]) func198 rfl ntmps198 rfl rfl ?_;refine yb ?_;refine yH rfl rfl rfl ?_;rw [<-hn];refine z9 ?_;refine cO (fun m e w => ∃ k : Nat, k <= n /\ m = n - k /\ e = [(0, .slice pa a.length ca), (1, .slice pb b.length cb), (5, iQ n), (12, iQ n), (13, iQ k)] /\ (∀ j, j < k -> a.getD j 0 = b.getD j 0) /\ ar G L w)
  (m := n) sB
  ⟨0, fo _, rfl, rfl, (fun j h => by omega), hw⟩ ?_
 rintro m e w ⟨k, hk, rfl, rfl, heq, hw⟩;refine z5 ?_;refine aS rfl (fun h1 => ?_) fun h1 => ?_
 ·
  have nS : k < n := oM;obtain ⟨ba, oa, _, h1a, _⟩ := (ka.at hw).arm oM;obtain ⟨bb, ob, _, h1b, _⟩ := (kb.at hw).arm oM;cases h1a;cases h1b;refine z9 ?_;refine bu [0, 1, 2, 3, 4, 5, 6, 7, 8] bK kR ?_;replace hw := hw.drawn (w.drawn + 1);refine z2 ?_;refine fk rfl bL dX rfl rfl ⟨oM, oM⟩ ?_;refine bt rfl rfl (aj.one xh (kL.at (ka.at hw) (i := (k : Int)) ⟨oM, oM⟩)) ?_;refine z2 ?_;refine fk rfl bL dX rfl rfl ⟨oM, oM⟩ ?_;refine bt rfl rfl (aj.one xh (kL.at (kb.at hw) (i := (k : Int)) ⟨oM, oM⟩)) ?_;refine z2 ?_;refine aS rfl (fun h2 => ?_) fun h2 => ?_
  ·
   have ly : a.getD k 0 ≠ b.getD k 0 := fun e => h2 (by rw [fQ, e])
   refine z6 ?_;exact br rfl rfl rfl (by
 have e := zu a b k oM oM heq;have ea : a.drop k = a.getD k 0 :: a.drop (k + 1) := dG (by rw [qW, cV oM]; rfl);have eb : b.drop k = b.getD k 0 :: b.drop (k + 1) := dG (by rw [qW, cV oM]; rfl);rw [ea, eb, Ga ly, PJ] at e;rw [e]; exact ⟨rfl, hw⟩)
  have he : a.getD k 0 = b.getD k 0 := by
   have h3 := cJ.1 h2;rw [fQ] at h3;exact UInt8.toNat_inj.1 oM
  refine z5 ?_;refine ⟨n - (k + 1), oM, [(0, _), (1, _), (5, _), (12, _), (13, iQ (k + 1 : Nat))], sB, k + 1, oM, rfl, rfl, fun j hj => ?_, hw⟩
  by_cases LZ : j = k
  ·subst LZ; exact he
  exact heq j oM
 refine z7 ?_;exact br rfl rfl rfl (by
 have wg : k = n := oM;subst wg;have e := zu a b k oM oM heq;have e0 : bM (a.drop k) (b.drop k) = 0 := by
  rcases K2 k a.length with h | h
  ·rw [show b.drop k = [] from u0 oM];cases a.drop k <;> rfl
  ·rw [show a.drop k = [] from u0 oM];rfl
 rw [e0, PJ] at e;rw [e]; exact ⟨rfl, hw⟩)
theorem DD {va vb : Value} {a b : bN} (hw : ar G L w) (ka : aX L (kL va a)) (kb : aX L (kL vb b)) (ha : bz a) (hb : bz b) : Calls prog 196 #[va, vb] w (dv fun r w' => (kF a b = none /\ r = .tuple #[nQ, .bool false] /\ ar G L w') \/ (∃ s v, kF a b = some s /\ r = .tuple #[v, .bool true] /\ ar G (row 5 1 v s.length (dV s) :: L) w')) := by
 obtain ⟨pa, ca, rfl⟩ := (ka.at hw).form;obtain ⟨pb, cb, rfl⟩ := (kb.at hw).form;refine al (args := [_, _]) func196 rfl ntmps196 rfl rfl ?_;refine yb ?_;refine an rfl eT rfl (fb hw ka kb) rfl fun w v10 hv => ?_;obtain ⟨rfl, hw⟩ := hv;refine z2 ?_;refine aS rfl (fun h1 => ?_) fun h1 => ?_
 ·
  refine z6 ?_;exact eK rfl rfl rfl rfl (.inl ⟨by unfold kF; rw [ah h1], rfl, hw⟩)
 have iD : bU a b < 0 := oM;have gJ := wM iD;have hca := (zt a b).1;obtain ⟨bb, ob, cb', h1b, YI⟩ := (kb.at hw).arm oM;cases h1b;refine z5 ?_;refine an rfl DM rfl (F5 hw ka kb ha hb) rfl fun w QY hv => ?_;obtain ⟨rfl, hw⟩ := hv;refine z8 ?_;refine aS rfl (fun h2 => ?_) fun h2 => ?_
 ·
  refine z6 ?_;exact eK rfl rfl rfl rfl (.inl ⟨by unfold kF; rw [ae h1, ah oM], rfl, hw⟩)
 refine z6 ?_;refine Oh rfl bL Pz rfl sM rfl rfl ⟨oM, oM, oM⟩ ?_;refine an rfl fE rfl (gp (m := 1) (l := b.take (bM a b)) hw (by simpa using kL.aah kb (j := bM a b) oM) (by unfold bz at hb ⊢; rw [fK]; omega) oM) rfl (fun w Wj hv => ?_);have hw : ar G (row 5 1 Wj (b.take (bM a b)).length (dV (b.take (bM a b))) :: L) w := hv;have WV : (b.take (bM a b)).length = bM a b := by rw [fK]; omega
 rw [WV] at hw;refine yb ?_;refine aS rfl (fun h3 => ?_) fun h3 => ?_
 ·
  have h3' : bM a b = a.length := oM;refine z3 ?_;refine hY rfl bL dX k8 dM rfl rfl rfl hw rfl fun w b27 hw => ?_;refine gP (m := bM a b) (k := 1) (news := dV [0]) rfl bL dX pk k8 rfl rfl hw pK (by have h := Rd.nP (hw.b [ag b27 _ _]) .here; exact h) rfl (sS _) mL oM rfl (fun w v28 hw => ?_);refine z4 ?_;exact eK rfl rfl rfl rfl (.inr ⟨b.take (bM a b) ++ [0], v28, by unfold kF; rw [ae h1, ae oM, ah h3'], rfl, by
 rw [cj, WV, uG];exact (hw.b [ag b27 _ _]).tail⟩)
 have h3' : ¬ bM a b = a.length := oM;obtain ⟨ba, oa, _, h1a, _⟩ := (ka.at (hw.tail)).arm oM;cases h1a;have oY := Gc iD oM;have hbt := (b.getD (bM a b) 0).toNat_lt;refine z6 ?_;refine fk rfl bL dX rfl rfl ⟨oM, oM⟩ ?_;refine bt rfl rfl (aj.one xh (kL.at ((ka.of sF).at hw) (i := (bM a b : Int)) ⟨oM, oM⟩)) ?_;refine Oi rfl rfl rfl ?_;have hbv : Value.int .u8 (IntKind.u8.wrap (((a.getD (bM a b : Int).toNat 0).toNat : Int) + 1)) = bv (a.getD (bM a b) 0 + 1) := by
  rw [fQ];unfold bv
  congr 1
 refine hY rfl bL dX k8 dM rfl rfl rfl hw rfl fun w Rc hw => ?_;refine gP (m := bM a b) (k := 1) (news := dV [a.getD (bM a b) 0 + 1]) rfl bL dX pk k8 rfl rfl hw pK (by have h := Rd.gN (o := 0) (hw.b [ag Rc _ _]) .here; rw [hbv] at h; simpa [dV] using h) rfl (sS _) mL oM rfl (fun w v36 hw => ?_);refine z4 ?_;exact eK rfl rfl rfl rfl (.inr ⟨b.take (bM a b) ++ [a.getD (bM a b) 0 + 1], v36, by unfold kF; rw [ae h1, ae oM, ae h3'], rfl, by
 rw [cj, WV, uG];exact (hw.b [ag Rc _ _]).tail⟩)
theorem wJ {p : bm} {x : bT} {at_ : Nat} (hw : ar G L w) (hp : p.Ok L) (tC : Cl p.s) (hx : x.Ok L) : Calls prog 85 #[gQ p.cells, iQ at_, gQ x.cells] w (dv fun r w' =>
  (¬ (at_ <= p.l.length /\ p.l.length < 8) /\ r = .tuple #[gQ bI.cells, .bool false] /\ ar G L w') ∨
  ((at_ <= p.l.length /\ p.l.length < 8) /\ ∃ p' : bm, r = .tuple #[gQ p'.cells, .bool true] /\ p'.pg = { p.pg with items := p.pg.items.take at_ ++ [x.it] ++ p.pg.items.drop at_ } /\ p'.Sm /\ ar G (aR p' :: L) w')) := by
 obtain ⟨a1, c1, a2, c2, hs, hd, gJ⟩ := hp.form hw;have T9 := hp.its.len;obtain ⟨cl, adt⟩ : ∃ cl, cl = p.cells := ⟨_, rfl⟩;have iE := hp.its;rw [hs] at iE;have LQ := tC;rw [hs] at LQ
 refine al (args := [_, _, _]) func85 rfl ntmps85 rfl rfl ?_;refine z2 ?_;refine bE rfl rfl rfl hw rfl fun w b3 hw => ?_;refine bE rfl rfl rfl hw rfl fun w b5 hw => ?_;refine aN rfl bf hw rfl fun w b6 hw => ?_;refine z8 ?_;refine bY (l1 := [3, 4, 5, 6, 7, 8]) (l2 := [9, 10, 11, 12, 13, 14]) rfl (d := 18) ((p.l.length : Int) < at_) rfl ?_ ?_
 ·
  refine aE (d := 12) rfl (fun h1 => ?_) fun h1 => ?_
  ·
   refine z7 ?_;refine cQ ?_;exact dC
  refine z2 ?_;refine bt rfl rfl (aj.bx (v := .slice a1 p.l.length c1) ao hw pK (by rw [gJ]; rfl)) ?_;refine dQ rfl kR aG rfl ?_;refine z3 ?_;refine cQ ?_;exact dC
 refine z1 ?_;refine bY (l1 := [10, 11, 12, 13, 14]) (l2 := []) rfl (d := 24) ((p.l.length : Int) < at_ \/ 8 <= (p.l.length : Int)) rfl ?_ ?_
 ·
  refine aE (d := 19) rfl (fun h2 => ?_) fun h2 => ?_
  ·
   refine z6 ?_;refine cQ ?_;exact dC
  refine z1 ?_;refine bt rfl rfl (aj.bx (v := .slice a1 p.l.length c1) ao hw pK (by rw [gJ]; rfl)) ?_;refine dQ rfl kR aG rfl ?_;refine z3 ?_;refine cQ ?_;exact dC
 refine aH ?_;refine aS rfl (fun h3 => ?_) fun h3 => ?_
 ·
  refine z2 ?_;refine aQ (v := gQ bI.cells) rfl rfl (fun w => kR) ?_;refine aL (cs := bI.cells) (l' := bI.cells) rfl tV rfl rfl ad rfl bF hw pK (by simp [bI, bm.cells]) rfl rfl fun w hw => ?_;refine z3 ?_;exact eK rfl rfl ⟨_, rfl, (aj.cw ad hw pK rfl)⟩ rfl (.inl ⟨oM, rfl, (hw.b [ag b6 _ _, ag b5 _ _, ag b3 _ _]).tail.tail.tail⟩)
 refine z4 ?_;refine bt rfl rfl (aj.bx (v := .slice a1 p.l.length c1) ao hw pK (by rw [gJ]; rfl)) ?_;refine z1 ?_;refine an rfl nN rfl (oJ (l := p.l) hw (iE.of sF) LQ oM) rfl fun w v30 hv => ?_;obtain ⟨va, vb, rfl, CN, G8, hw⟩ := hv;obtain ⟨aa, ac, rfl, -, -⟩ := ((CN.of sF).sl.at hw).form;obtain ⟨ba, bc, rfl, -, -⟩ := ((G8.of sF).sl.at hw).form;refine z8 ?_;refine lA ad hw ?_;refine z1 ?_;refine lA aI hw ?_;refine hY rfl aG aY mM dM rfl rfl rfl hw rfl fun w Y4 hw => ?_;refine z1 ?_;refine Ee (cs := [.slice aa ((p.l.take at_).map bT.cells).length ac, sQ Y4 1 1, .slice ba ((p.l.drop at_).map bT.cells).length bc]) rfl eF gw oy dM rfl kR hw rfl fun w b38 hw => ?_;refine an rfl jj rfl (j9 (p := p) (pcs := [(.slice aa ((p.l.take at_).map bT.cells).length ac, p.l.take at_), (sQ Y4 1 1, [x]), (.slice ba ((p.l.drop at_).map bT.cells).length bc, p.l.drop at_)]) hw (hp.of sF) ((tL (cs := [.slice aa ((p.l.take at_).map bT.cells).length ac, sQ Y4 1 1, .slice ba ((p.l.drop at_).map bT.cells).length bc])).head _) (by
 intro y hy;simp only [bB, cW, or_false] at hy;rcases hy with rfl | rfl | rfl
 ·exact CN.of sF
 ·exact ⟨((Oy (r := x.cells) rfl).head _).of sF, (fun z hz => by simp at hz; subst hz; exact hx.of sF), by simp⟩
 ·exact G8.of sF) sM (by
 intro y hy;simp only [bB, cW, or_false] at hy;rcases hy with rfl | rfl | rfl
 ·simp only [fK]; omega
 ·simp
 ·simp only [iC]; omega)) rfl (fun w RC hv => ?_)
 obtain ⟨p', rfl, D3, ft, hw⟩ := hv;refine aL (cs := p'.cells) (l' := p'.cells) rfl tV rfl rfl ad rfl (cF (aB ft pK) hw) hw pK (by simp [bm.cells]) rfl rfl fun w hw => ?_;refine z3 ?_;exact eK rfl rfl ⟨_, rfl, (aj.cw ad hw pK rfl)⟩ rfl (.inr ⟨oM, p', rfl, by rw [D3]; simp [bm.pg], ft, (hw.b [ag b6 _ _, ag b5 _ _, ag b3 _ _, ag Y4 _ _, ag b38 _ _]).tail.tail.tail.tail.tail⟩)
end
theorem ES : ∀ (n : Nat) (l : List Nat), l.Nodup -> (∀ x ∈ l, x < n) -> l.length <= n
 | 0, l, _, h => by
  cases l with
  | nil => exact eW _
  | cons x l => have := h x (fp ..); omega
 | n + 1, l, hn, h => by
  have h1 : (l.erase n).Nodup := hn.erase n;have h2 := ES n (l.erase n) h1 (fun x hx => by
   have h3 := h x (List.mem_of_mem_erase hx);have h4 : x ≠ n := fun e => by subst e; exact (List.Nodup.mem_erase_iff hn).1 hx |>.1 rfl
   omega)
  have h3 : l.length <= (l.erase n).length + 1 := by rw [List.length_erase]; split <;> omega
  omega
def N7 (ops : Array Oper) : Bool := (List.range ops.size).all fun j => match ops[j]? with
 | some o => o.after.all fun x => !Region.binds .any x || Nat.blt x.on j
 | none => true
section
variable {P : Program} {n : Nat} {ro : Option Nat} {ops : Array Oper} {K : mK} {E : List (Nat × mK)} {F : mK} {e : gj} {w : World}
theorem H5 (hB : N7 ops = true) {listed : Array Bool} (hr : Region.ready .any ops listed = []) (dm : listed.size = ops.size) : ∀ j, j < ops.size -> listed.getD j true = true := by
 intro j
 induction j using Nat.strongRecOn with
 | _ j ih =>
  intro hj;refine sN fun hl => ?_
  have hl : listed.getD j true = false := by simpa using hl
  have hm : j ∈ Region.ready .any ops listed := mem_ready.2 ⟨hl, ops[j], Nj hj, fun x hx hb => by
   have h1 := yR.1 hB j (sL.2 hj);rw [Nj hj] at h1;simp only at h1
   have h2 := Xx.1 h1 x hx;simp only [hb, Bool.not_true, Bool.false_or, Nat.blt_eq] at h2;have h3 := ih x.on h2 oM;have h4 : x.on < listed.size := oM;simp only [Array.getD, h4, dif_pos] at h3 ⊢
   exact h3⟩
  rw [hr] at hm; cases hm
def CB (ops : Array Oper) (Jt : List Nat) : List Nat -> Bool
 | [] => true
 | p :: r => Jt.all (fun m => (si .any ops m).contains p && !(m == p)) && r.all (fun q => (si .any ops p).contains q && !(p == q)) && CB ops Jt r
theorem Fu {listed : Array Bool} {j m : Nat} (dm : listed.size = m) (hj : j < m) (h : ¬ listed.getD j true = true) : listed.getD j false = false /\ listed.getD j true = false := by
 have h4 : j < listed.size := oM;simp only [Array.getD, h4, dif_pos] at h ⊢
 simpa using h
theorem Lg (hB : N7 ops = true) (Q : Exit -> Act -> World -> Prop) (Jt : List Nat) : ∀ (post : List Nat) (fuel : Nat) (listed : Array Bool) (a : Act) (w : World), listed.size = ops.size -> kS .any ops listed →
  (∀ j, j < ops.size -> (listed.getD j true = true \/ j ∈ post)) -> (∀ j ∈ post, listed.getD j true = false) -> CB ops [] post = true -> post.Nodup -> (∀ j ∈ post, j < ops.size) -> post.length <= fuel -> SN P ops (Q .normal) post a w -> wpAnyIn (Fw ro) 0 P .any ops Q fuel listed a w
 | [], fuel, listed, a, w, dm, hc, h1, h2, h3, h4, h5, h6, h => by
  have hr : Region.ready .any ops listed = [] := by
   cases hr : Region.ready .any ops listed with
   | nil => rfl
   | cons j r =>
    have hj : j ∈ Region.ready .any ops listed := by rw [hr]; exact fp ..
    obtain ⟨D4, o, ho, _⟩ := mem_ready.1 hj;have Yw := (sO.1 ho).1;rcases h1 j Yw with h | h
    ·rw [h] at D4; cases D4
    cases h
  cases fuel with
  | zero => exact ⟨hr, h⟩
  | succ fuel => exact ⟨fun _ => h, fun i hi => by rw [hr] at hi; cases hi⟩
 | p :: post, 0, listed, a, w, dm, hc, h1, h2, h3, h4, h5, h6, h => by simp at h6
 | p :: post, fuel + 1, listed, a, w, dm, hc, h1, h2, h3, h4, h5, h6, h => by
  simp only [CB, qD, yR, cW, false_implies, implies_true, true_and] at h3;have ft := h5 p (fp ..);have kA := h2 p (fp ..);refine ⟨fun hr => ?_, fun i hi => ?_⟩
  ·have := H5 hB hr dm p ft;rw [kA] at this; cases this
  obtain ⟨CR, o, ho, _⟩ := mem_ready.1 hi;have his := (sO.1 ho).1;have hip : i = p := by
   refine sN fun ly => ?_
   have Ub : i ∈ post := by
    rcases h1 i his with h | h
    ·rw [h] at CR; cases CR
    exact (bB.1 h).resolve_left ly
   have h7 := (h3.1 i Ub).1;exact qJ hc (Fu dm ft (by rw [kA]; simp)).1 (by simpa using h7) ly hi
  subst hip;simp only [SN, ho] at h;refine oO ho (fun a' w' hx => ?_) h;refine Lg hB Q Jt post fuel (listed.setIfInBounds i true) a' w' (by simp [dm]) (hc.set hi) (fun j hj => ?_) (fun j hj => ?_) h3.2 (xH.1 h4).2 (fun j hj => h5 j (gF _ hj)) (by simpa using h6) hx
  ·by_cases Fm : j = i
   ·subst Fm; exact .inl (by simp [dm, hj])
   have e1 : (listed.setIfInBounds i true).getD j true = listed.getD j true := by
    simp only [Array.getD, Array.size_setIfInBounds];split
    ·exact UN _ (fun e => Fm e.symm)
    rfl
   rw [e1];rcases h1 j hj with h | h
   ·exact .inl h
   exact .inr ((bB.1 h).resolve_left Fm)
  have Fm : j ≠ i := fun e => by subst e; exact (xH.1 h4).1 hj
  have e1 : (listed.setIfInBounds i true).getD j true = listed.getD j true := by
   simp only [Array.getD, Array.size_setIfInBounds];split
   ·exact UN _ (fun e => Fm e.symm)
   rfl
  rw [e1]; exact h2 j (gF _ hj)
def Pp (ops : Array Oper) (i : Nat) : List Nat := match ops[i]? with
 | some o => (o.after.toList.filter (Region.binds .any)).map (·.on)
 | none => []
theorem Up {id : Nat} (Jt post : List Nat) (I : List Nat -> gj -> World -> Prop) (hm : P.follows .mixedOrders = true) (hB : (N7 ops && CB ops Jt post && decide (post.Nodup) && decide (Jt.length + post.length = ops.size) && (List.range ops.size).all (fun j => Jt.contains j || post.contains j) && post.all (Nat.blt · ops.size) && Jt.all (fun m => Nat.blt m ops.size && !post.contains m)) = true) (h0 : I [] e { w with drawn := w.drawn + 1 })
  (hs : ∀ D i e w, i ∈ Jt -> i ∉ D -> (∀ j, (Pp ops i).contains j = true -> j ∈ D) -> I D e w -> XL P n ops false [] [i] (I (i :: D)) e w)
  (he : ∀ D e w, (∀ i ∈ Jt, i ∈ D) -> I D e w -> XL P n ops false [] post K e w) : X P n ro (.region id ops true) K E F e w := fun a ha => by
 simp only [qD, decide_eq_true_eq, yR, Nat.blt_eq, Bool.or_eq_true, By, Bool.not_eq_true', sL] at hB;obtain ⟨⟨⟨⟨⟨⟨hA, hP⟩, GQ⟩, hlen⟩, aaY⟩, kA⟩, JQ⟩ := hB;refine wpIn_region_any hm ?_;have hP0 : ∀ (l : List Nat), CB ops Jt l = true -> CB ops [] l = true /\ ∀ p ∈ l, ∀ m ∈ Jt, p ∈ si .any ops m /\ m ≠ p := by
  intro l
  induction l with
  | nil => intro _; exact ⟨rfl, fun p hp => by cases hp⟩
  | cons p l ih =>
   intro h;simp only [CB, qD, yR] at h;obtain ⟨⟨h1, h2⟩, h3⟩ := h;obtain ⟨h4, h5⟩ := ih h3;refine ⟨by simp only [CB, qD, yR]; exact ⟨⟨fun x hx => (by cases hx), h2⟩, h4⟩, fun q hq m hm => ?_⟩;rcases bB.1 hq with rfl | hq
   ·have := h1 m hm
    simpa using this
   exact h5 q hq m hm
 obtain ⟨hP1, hP2⟩ := hP0 post hP;have key : ∀ (fuel : Nat) (listed : Array Bool) (D : List Nat) (a : Act) (w : World), listed.size = ops.size -> kS .any ops listed -> (∀ j, j < ops.size -> (listed.getD j true = true ↔ j ∈ D)) -> D.Nodup -> (∀ j ∈ D, j ∈ Jt) -> D.length + fuel = ops.size -> (∃ e, dT n e a /\ I D e w) →
   wpAnyIn (Fw ro) 0 P .any ops (rE K E F n) fuel listed a w := by
  intro fuel
  induction fuel with
  | zero =>
   intro listed D a w dm hc hl hn iD aaJ ⟨e, Ue, hI⟩;have jv : ∀ j, j < ops.size -> j ∈ D := fun j hj => by
    refine sN fun hjD => ?_
    have := ES ops.size (j :: D) (xH.2 ⟨hjD, hn⟩) (fun x hx => by
     rcases bB.1 hx with rfl | hx
     ·exact hj
     ·exact (JQ x (iD x hx)).1)
    simp only [jO] at this; omega
   have S4 : post = [] := by
    cases Q2 : post with
    | nil => rfl
    | cons p r =>
     have h1 := kA p (by rw [Q2]; exact fp ..);have h2 := (JQ p (iD p (jv p h1))).2;rw [Q2] at h2; simp at h2
   have h := he D e w (fun i hi => jv i (JQ i hi).1) hI a Ue;rw [S4] at h;simp only [cond, SN] at h
   refine ⟨?_, h⟩;cases hr : Region.ready .any ops listed with
   | nil => rfl
   | cons j r =>
    have hj : j ∈ Region.ready .any ops listed := by rw [hr]; exact fp ..
    obtain ⟨h1, o, ho, _⟩ := mem_ready.1 hj;have Yw := (sO.1 ho).1;rw [(hl j Yw).2 (jv j Yw)] at h1; cases h1
  | succ fuel ih =>
   intro listed D a w dm hc hl hn iD aaJ hEI
   by_cases jv : ∀ i ∈ Jt, i ∈ D
   ·obtain ⟨e, Ue, hI⟩ := hEI;have h := he D e w jv hI a Ue;simp only [cond] at h;refine Lg hA (rE K E F n) Jt post (fuel + 1) listed a w dm hc (fun j hj => ?_) (fun j hj => ?_) hP1 GQ kA ?_ h
    ·rcases aaY j hj with h' | h'
     ·exact .inl ((hl j hj).2 (jv j h'))
     exact .inr h'
    ·have Yw := kA j hj;have hjD : j ∉ D := fun h' => by
      have h2 := (JQ j (iD j h')).2;simp [hj] at h2
     exact (Fu dm Yw (fun h' => hjD ((hl j Yw).1 h'))).2
    refine sN fun adm => ?_
    have hdm : D.length <= Jt.length := by
     have h1 := ES ops.size (D ++ post) (Nf.2 ⟨hn, GQ, fun x hx y hy e => by
       subst e;have h2 := (JQ x (iD x hx)).2;simp [hy] at h2⟩) (fun x hx => by
       rcases eu.1 hx with hx | hx
       ·exact (JQ x (iD x hx)).1
       ·exact kA x hx)
     rw [cj] at h1;omega
    omega
   obtain ⟨m, Dk, nA⟩ : ∃ m, m ∈ Jt /\ m ∉ D := by
    refine sN fun MU => jv fun i hi => sN fun hiD => MU ⟨i, hi, hiD⟩
   have T7 := (JQ m Dk).1;obtain ⟨e, Ue, hI⟩ := hEI;refine ⟨fun hr => ?_, fun i hi => ?_⟩
   ·exact absurd ((hl m T7).1 (H5 hA hr dm m T7)) nA
   obtain ⟨h1, o, ho, h2⟩ := mem_ready.1 hi;have his := (sO.1 ho).1;have Ub : i ∈ Jt := by
    rcases aaY i his with h | h
    ·exact h
    exfalso;have h3 := hP2 i h m Dk;exact qJ hc (Fu dm T7 (fun h' => nA ((hl m T7).1 h'))).1 h3.1 (fun e => h3.2 e.symm) hi
   have hiD : i ∉ D := fun h => by rw [(hl i his).2 h] at h1; cases h1
   have L3 : ∀ x ∈ o.after, Region.binds .any x = true -> x.on ∈ D := fun x hx hb => by
    have h3 := h2 x hx hb;have NC : x.on < ops.size := by
     rw [<-dm];refine sN fun h => ?_
     simp only [Array.getD, h, dif_neg, not_false_iff] at h3;cases h3
    refine (hl x.on NC).1 ?_;have h4 : x.on < listed.size := oM;simp only [Array.getD, h4, dif_pos] at h3 ⊢;exact h3
   have WD := hs D i e w Ub hiD (fun j hj => by
      simp only [Pp, ho, By, dd, G1] at hj;obtain ⟨x, ⟨hx, hb⟩, rfl⟩ := hj;exact L3 x (by simpa using hx) hb) hI a Ue
   simp only [cond, SN, ho] at WD;refine oO ho (fun a' w' hx => ?_) WD;obtain ⟨e', Hh, hI'⟩ := hx;refine ih (listed.setIfInBounds i true) (i :: D) a' w' (by simp [dm]) (hc.set hi) (fun j hj => ?_) (xH.2 ⟨hiD, hn⟩) (fun j hj => ?_) (by simp only [jO]; omega) ⟨e', Hh, hI'⟩
   ·have := hl j hj
    by_cases Fm : j = i
    ·subst Fm; simp [dm, hj]
    have e1 : (listed.setIfInBounds i true).getD j true = listed.getD j true := by
     simp only [Array.getD, Array.size_setIfInBounds];split
     ·exact UN _ (fun e => Fm e.symm)
     rfl
    rw [e1, this]; simp [Fm]
   rcases bB.1 hj with rfl | hj
   ·exact Ub
   exact iD j hj
 refine key ops.size (Array.replicate ops.size false) [] a _ sM ⟨by simp, fun j o ho hl => ?_⟩ (fun j hj => by simp [hj]) List.nodup_nil (fun j hj => by cases hj) sM ⟨e, ha, h0⟩;exfalso;rcases K2 j ops.size with h' | h'
 ·simp [h'] at hl
 simp [R9 (show (Array.replicate ops.size false).size <= j by simpa using h')] at hl
end
def mU (c : Prop) (A : az) : az := fun h => c -> A h
theorem nu {c : Prop} {A : az} {G : Gh} {R : List az} {w : World} (hc : c) (h : ar G (mU c A :: R) w) : ar G (A :: R) w := h.iL fun _ h => h hc
theorem Nm {c : Prop} {A : az} {G : Gh} {R : List az} {w : World} (h : ar G (A :: R) w) : ar G (mU c A :: R) w := h.iL fun _ h _ => h
theorem Sn {c : Prop} {A : az} {G : Gh} {R : List az} {w : World} (hc : ¬ c) (h : ar G R w) : ar G (mU c A :: R) w := by
 have h' : ar G (aT ([] : List az) :: R) w := ar.bH h;exact h'.iL fun _ _ h => absurd h hc
structure Wd (S : List (Nat × Nat)) (b : gj) (D : List Nat) (val : Nat -> Value) (e : gj) : Prop where
 base : kK b e
 slot : ∀ k t, (k, t) ∈ S -> k ∈ D -> get e t = some (val k)
theorem Wd.step {S : List (Nat × Nat)} {b : gj} {D : List Nat} {val : Nat -> Value} {e : gj} (h : Wd S b D val e) (k t : Nat) {u : Value} (hS : (S.all fun x => Nat.beq x.1 k == Nat.beq x.2 t) = true) (hb : get b t = none) (ht : Nat.beq t 1000000000 = false) :
  Wd S b (k :: D) (fun j => if j = k then u else val j) ((t, u) :: e) := by
 have MP : t ≠ 1000000000 := fun e => by subst e; simp at ht
 have ly : ∀ s : Nat, s ≠ t -> get ((t, u) :: e) s = get e s := fun s hs => by simp only [get, uH (fun e => hs e.symm), Bool.false_and, cond]
 refine ⟨⟨fun s v hv => ?_, ?_⟩, fun j s hj hd => ?_⟩
 ·have gD : s ≠ t := fun e => by subst e; rw [hb] at hv; cases hv
  rw [ly s gD]; exact h.base.get s v hv
 ·rw [j5 MP]; exact h.base.marks
 have h1 := yR.1 hS _ hj;simp only at h1
 by_cases LZ : j = k
 ·subst LZ;have gD : s = t := by
   have : Nat.beq s t = true := by simpa using h1
   exact Nat.eq_of_beq_eq_true this
  subst gD;rw [ah rfl];simp [get, ht]
 have gD : s ≠ t := fun e => by
  subst e;have : Nat.beq j k = true := by simpa using h1
  exact LZ (Nat.eq_of_beq_eq_true this)
 rw [ly s gD, ae LZ];exact h.slot j s hj ((bB.1 hd).resolve_left LZ)
theorem i' {G : Gh} {w : World} {P : Nat -> Value -> az} {D : List Nat} {val : Nat -> Value} {k : Nat} {u : Value} {frame : List az} : ∀ (E2 JD : List Nat), k ∉ E2 -> k ∉ JD →
  ar G (P k u :: ((E2 ++ JD).map (fun j => mU (j ∈ D) (P j (val j))) ++ frame)) w -> ar G ((E2 ++ k :: JD).map (fun j => mU (j ∈ k :: D) (P j (if j = k then u else val j))) ++ frame) w := by
 intro E2 JD h1 h2 h;have hm : ∀ (ks : List Nat), k ∉ ks -> ∀ (R R' : List az), (∀ h, all R h -> all R' h) -> ∀ h, all (ks.map (fun j => mU (j ∈ D) (P j (val j))) ++ R) h -> all (ks.map (fun j => mU (j ∈ k :: D) (P j (if j = k then u else val j))) ++ R') h := by
  intro ks
  induction ks with
  | nil => intro _ R R' hR h hh; exact hR h hh
  | cons j ks ih =>
   intro hk R R' hR h hh;have LZ : j ≠ k := fun e => hk (by rw [e]; exact fp ..)
   obtain ⟨x1, x2, hd, hu, hA, hB⟩ := hh;refine ⟨x1, x2, hd, hu, fun hj => ?_, ih (fun h => hk (gF _ h)) R R' hR x2 hB⟩;rw [ae LZ];exact hA ((bB.1 hj).resolve_left LZ)
 have hp : ∀ (E2 : List Nat) (R : List az) (A : az), dg A (E2.map (fun j => mU (j ∈ D) (P j (val j))) ++ A :: R) (E2.map (fun j => mU (j ∈ D) (P j (val j))) ++ R) := by
  intro E2 R A
  induction E2 with
  | nil => exact .here
  | cons j ks ih => exact .there ih
 rw [il, je] at h;have h3 := h.yK (hp E2 (JD.map (fun j => mU (j ∈ D) (P j (val j))) ++ frame) (P k u));rw [il, je, cG, j4];refine h3.mono fun hh ha => hm E2 h1 _ _ (fun x hx => ?_) hh ha
 obtain ⟨x1, x2, hd, hu, hA, hB⟩ := hx;refine ⟨x1, x2, hd, hu, fun _ => by rw [ah rfl]; exact hA, hm JD h2 _ _ (fun _ h => h) x2 hB⟩
def jU (l : List It) (k : Nat) : bN := (l[k]?.map It.key).getD []
def yX : List It -> List It
 | [] => []
 | x :: r => { x with key := [] } :: r
def jz (left right : Pg) (row : List It) (n : Nat) : Option (Pg × Pg × bN) :=
 if left.kind = 2 then some ({ left with items := row.take n }, { right with items := yX (row.drop n) }, jU row n)
 else match kF (jU row (n - 1)) (jU row n) with
  | none => none
  | some s => some ({ left with items := row.take n }, { right with items := row.drop n }, s)
theorem ny {l : List bT} {k : Nat} {x : bT} (h : l[k]? = some x) : jU (l.map bT.it) k = x.it.key := by unfold jU; rw [dB, h]; rfl
theorem QR {G : Gh} {R M : List az} {A : az} {w : World} (h : ar G (A :: aT M :: R) w) : ar G (aT (A :: M) :: R) w :=
 ar.bH (M := A :: M) (h.mono (L' := A :: (M ++ R)) fun h ha => jk (fun h hb => (kg M R h).1 hb) ha)
def nk (p : Pg) : Option (Pg × Pg × bN) := if ¬ (p.kind = 1 \/ p.kind = 2) \/ ¬ p.items.length = 8 then none else jz p p p.items 4
def ptI (va vb : Value) (p q : bm) (A B : Pg) : Nat -> Value -> az := fun k u => match k with
 | 0 => dH (u = gQ p.cells) (aT [])
 | 1 => dH (u = va) (aT [])
 | 2 => ex fun b => dH (u = sQ b 1 1) (ag b [va] 73)
 | 3 => ex fun p1 : bm => dH (u = gQ p1.cells /\ p1.pg = A /\ p1.Sm) (aR p1)
 | 4 => dH (u = gQ q.cells) (aT [])
 | 5 => dH (u = vb) (aT [])
 | 6 => ex fun b => dH (u = sQ b 1 1) (ag b [vb] 73)
 | 7 => ex fun p2 : bm => dH (u = gQ p2.cells /\ p2.pg = B /\ p2.Sm) (aR p2)
 | _ => ex fun b => dH (u = pQ b) (ag b bI.cells 75)
theorem nC {p : Prop} {G : Gh} {R : List az} {w : World} (hp : p) (h : ar G R w) : ar G (dH p (aT []) :: R) w := ar.iR hp (ar.bH (M := []) h)
section
variable {G : Gh} {L R : List az} {w : World}
theorem qP {p q : bm} {rv : Value} {rl : List bT} {n : Nat} (hw : ar G L w) (hp : p.Ok L) (hq : q.Ok L) (hr : kZ L rv rl) (hn : 1 <= n /\ n < rl.length) (NI : rl.length <= 1000000) : Calls prog 191 #[gQ p.cells, gQ q.cells, rv, iQ n] w (dv fun r w' =>
  (jz p.pg q.pg (rl.map bT.it) n = none /\ r = .tuple #[gQ bI.cells, gQ bI.cells, nQ, .bool false] /\ ar G L w') ∨
  (∃ (pl pr : bm) (s : bN) (sv : Value), jz p.pg q.pg (rl.map bT.it) n = some (pl.pg, pr.pg, s) /\ r = .tuple #[gQ pl.cells, gQ pr.cells, sv, .bool true] /\ pl.Sm /\ pr.Sm /\ ar G (aR pl :: aR pr :: row 5 1 sv s.length (dV s) :: L) w')) := by
 refine al (args := [_, _, _, _]) func191 rfl ntmps191 rfl rfl ?_;refine z2 ?_;refine bE rfl rfl rfl hw rfl fun w b4 hw => ?_;refine bE rfl rfl rfl hw rfl fun w b5 hw => ?_;refine aN rfl bf hw rfl fun w b8 hw => ?_;refine aN rfl bf hw rfl fun w b9 hw => ?_;refine z7 ?_;refine an rfl nN rfl (oJ (l := rl) hw (hr.of sF) ((hr.sl.of sF).at hw |>.plain (by rw [bA]; omega)) oM) rfl (fun w Xk hv => ?_);obtain ⟨va, vb, rfl, CN, G8, hw⟩ := hv;obtain ⟨aa, ac, rfl, -, -⟩ := ((CN.of sF).sl.at hw).form;obtain ⟨ba, bc, rfl, -, -⟩ := ((G8.of sF).sl.at hw).form;have hla : ((rl.take n).map bT.cells).length = n := by rw [bA, fK]; omega
 have hlb : ((rl.drop n).map bT.cells).length = rl.length - n := by rw [bA, iC]
 rw [hla] at CN;rw [hlb] at G8
 rw [hla, hlb];obtain ⟨ZM, Zn, rfl⟩ := ((CN.of sF).sl.at hw).nn oM;obtain ⟨ZL, Zm, rfl⟩ := ((G8.of sF).sl.at hw).nn oM;obtain ⟨xa, Vi⟩ : ∃ x, rl[n - 1]? = some x := ⟨_, cV oM⟩;obtain ⟨xb, XP⟩ : ∃ x, rl[n]? = some x := ⟨_, cV oM⟩;refine z7 ?_;have hz := hw;clear hw;have hw : ar G (ag b9 [iQ 0, iQ 0, nQ, nQ, iQ 0] 75 :: ag b8 [iQ 0, iQ 0, nQ, nQ, iQ 0] 75 :: ag b5 q.cells 75 :: ag b4 p.cells 75 :: L) w := hz;clear hz;obtain ⟨PT, ym⟩ : ∃ PT, PT = (ptI (.slice (some ⟨ZM, Zn, none⟩) n ac) (.slice (some ⟨ZL, Zm, none⟩) (rl.length - n) bc) p q ⟨p.kind, p.level, (rl.take n).map bT.it, p.data, p.next⟩ ⟨q.kind, q.level, (rl.drop n).map bT.it, q.data, q.next⟩) := ⟨_, rfl⟩;refine Up [0, 1, 2, 3, 4, 5, 6, 7, 8, 9] [10, 11] (fun D e w => ∃ val, Wd [(0, 25), (1, 26), (2, 27), (3, 28), (4, 29), (5, 30), (6, 31), (7, 32), (8, 14), (9, 15)] [(3, iQ n), (4, pQ b4), (5, pQ b5), (8, pQ b8), (9, pQ b9), (12, .slice (some ⟨ZM, Zn, none⟩) n ac), (13, .slice (some ⟨ZL, Zm, none⟩) (rl.length - n) bc)] D val e /\ ar G ([0, 1, 2, 3, 4, 5, 6, 7, 8, 9].map (fun j => mU (j ∈ D) (PT j (val j))) ++ (ag b9 [iQ 0, iQ 0, nQ, nQ, iQ 0] 75 :: ag b8 [iQ 0, iQ 0, nQ, nQ, iQ 0] 75 :: ag b5 q.cells 75 :: ag b4 p.cells 75 :: L)) w) bK kR ?_ ?_ ?_
 ·refine ⟨fun _ => .bool false, ⟨sB, fun k t _ h => by cases h⟩, ?_⟩;simp only [cG, j3, j4, jG]
  iterate 10 refine Sn sM ?_
  exact hw.drawn _
 ·clear hw;intro D i e w Ub hiD L3 ⟨val, oX, hw⟩;simp only [cG, j3, j4, jG] at hw;simp only [bB, cW, or_false] at Ub
  rcases Ub with rfl | rfl | rfl | rfl | rfl | rfl | rfl | rfl | rfl | rfl
  ·refine bt rfl (oX.base.get 4 _ rfl) (aj.cw (l := p.cells) ad hw pK rfl) ?_;refine aH ?_;have hz := (hw.b [mU (0 ∈ D) _]).tail;refine ⟨_, oX.step 0 25 rfl rfl rfl, i' [] [1, 2, 3, 4, 5, 6, 7, 8, 9] dM dM ?_⟩;rw [ym];rw [ym] at hz;exact nC rfl hz
  ·refine Un rfl (oX.base.get 12 _ rfl) ?_;refine aH ?_;have hz := (hw.b [mU (1 ∈ D) _]).tail;refine ⟨_, oX.step 1 26 rfl rfl rfl, i' [0] [2, 3, 4, 5, 6, 7, 8, 9] dM dM ?_⟩;rw [ym];rw [ym] at hz;exact nC rfl hz
  ·have hd := L3 1 kR;have hu := nu hd (hw.b [mU (1 ∈ D) _])
   try rw [ym] at hu
   obtain ⟨h1, -⟩ := ar.dx hu;refine hY (cs := [.slice (some ⟨ZM, Zn, none⟩) n ac]) rfl eF gw qw dM ((oX.slot 1 26 sM hd).trans (congrArg some h1)) rfl rfl hw rfl fun w b hw => ?_;refine aH ?_;have hz := (hw.b [mU (2 ∈ D) _, ag b _ _]).tail;refine ⟨_, oX.step 2 27 rfl rfl rfl, i' [0, 1] [3, 4, 5, 6, 7, 8, 9] dM dM ?_⟩;rw [ym];rw [ym] at hz;exact ar.jq b (ar.iR rfl hz)
  ·have ID := L3 0 kR;have Bc := L3 2 kR;have hu := nu ID (hw.b [mU (0 ∈ D) _])
   try rw [ym] at hu
   obtain ⟨h1, -⟩ := ar.dx hu;have hu := nu Bc (hw.b [mU (2 ∈ D) _])
   try rw [ym] at hu
   obtain ⟨bs, hu⟩ := ar.iv (F := fun b => dH (val 2 = .slice (some ⟨b, 0, none⟩) 1 1) (ag b [.slice (some ⟨ZM, Zn, none⟩) n ac] 73)) hu;obtain ⟨h2, hw⟩ := hu.dx;have g1 := (oX.slot 0 25 sM ID).trans (congrArg some h1);have g2 := (oX.slot 2 27 sM Bc).trans (congrArg some h2);refine an (args := [gQ p.cells, .slice (some ⟨bs, 0, none⟩) 1 1]) rfl jj (by simp [Pe, ev, g1, g2]) (j9 (p := p) (pcs := [(.slice (some ⟨ZM, Zn, none⟩) n ac, rl.take n)]) hw (hp.of sF) (((tL (cs := [.slice (some ⟨ZM, Zn, none⟩) n ac])).head _).of sF) (by
    intro y hy;simp only [bB, cW, or_false] at hy;subst hy; exact CN.of sF) sM (by
    intro y hy;simp only [bB, cW, or_false] at hy;subst hy; simp only [fK, iC]; omega)) rfl (fun w v hv => ?_)
   obtain ⟨p1, rfl, Q3, q9, hw⟩ := hv;refine aH ?_;have hz := hw.b [ag bs _ _];have hz := Nm (c := 2 ∈ D) (A := PT 2 (val 2)) (by rw [ym]; exact ar.jq bs (ar.iR h2 hz));have hz := (hz.b [mU (3 ∈ D) _, aR p1, mU (0 ∈ D) _, mU (1 ∈ D) _, mU (2 ∈ D) _, mU (4 ∈ D) _, mU (5 ∈ D) _, mU (6 ∈ D) _, mU (7 ∈ D) _, mU (8 ∈ D) _, mU (9 ∈ D) _]).tail;refine ⟨_, oX.step 3 28 rfl rfl rfl, i' [0, 1, 2] [4, 5, 6, 7, 8, 9] dM dM ?_⟩;rw [ym];rw [ym] at hz;exact ar.jq p1 (ar.iR ⟨rfl, by rw [Q3]; simp, q9⟩ hz)
  ·refine bt rfl (oX.base.get 5 _ rfl) (aj.cw (l := q.cells) ad hw pK rfl) ?_;refine aH ?_;have hz := (hw.b [mU (4 ∈ D) _]).tail;refine ⟨_, oX.step 4 29 rfl rfl rfl, i' [0, 1, 2, 3] [5, 6, 7, 8, 9] dM dM ?_⟩;rw [ym];rw [ym] at hz;exact nC rfl hz
  ·refine Un rfl (oX.base.get 13 _ rfl) ?_;refine aH ?_;have hz := (hw.b [mU (5 ∈ D) _]).tail;refine ⟨_, oX.step 5 30 rfl rfl rfl, i' [0, 1, 2, 3, 4] [6, 7, 8, 9] dM dM ?_⟩;rw [ym];rw [ym] at hz;exact nC rfl hz
  ·have hd := L3 5 kR;have hu := nu hd (hw.b [mU (5 ∈ D) _])
   try rw [ym] at hu
   obtain ⟨h1, -⟩ := ar.dx hu;refine hY (cs := [.slice (some ⟨ZL, Zm, none⟩) (rl.length - n) bc]) rfl eF gw qw dM ((oX.slot 5 30 sM hd).trans (congrArg some h1)) rfl rfl hw rfl fun w b hw => ?_;refine aH ?_;have hz := (hw.b [mU (6 ∈ D) _, ag b _ _]).tail;refine ⟨_, oX.step 6 31 rfl rfl rfl, i' [0, 1, 2, 3, 4, 5] [7, 8, 9] dM dM ?_⟩;rw [ym];rw [ym] at hz;exact ar.jq b (ar.iR rfl hz)
  ·have ID := L3 4 kR;have Bc := L3 6 kR;have hu := nu ID (hw.b [mU (4 ∈ D) _])
   try rw [ym] at hu
   obtain ⟨h1, -⟩ := ar.dx hu;have hu := nu Bc (hw.b [mU (6 ∈ D) _])
   try rw [ym] at hu
   obtain ⟨bs, hu⟩ := ar.iv (F := fun b => dH (val 6 = .slice (some ⟨b, 0, none⟩) 1 1) (ag b [.slice (some ⟨ZL, Zm, none⟩) (rl.length - n) bc] 73)) hu;obtain ⟨h2, hw⟩ := hu.dx;have g1 := (oX.slot 4 29 sM ID).trans (congrArg some h1);have g2 := (oX.slot 6 31 sM Bc).trans (congrArg some h2);refine an (args := [gQ q.cells, .slice (some ⟨bs, 0, none⟩) 1 1]) rfl jj (by simp [Pe, ev, g1, g2]) (j9 (p := q) (pcs := [(.slice (some ⟨ZL, Zm, none⟩) (rl.length - n) bc, rl.drop n)]) hw (hq.of sF) (((tL (cs := [.slice (some ⟨ZL, Zm, none⟩) (rl.length - n) bc])).head _).of sF) (by
    intro y hy;simp only [bB, cW, or_false] at hy;subst hy; exact G8.of sF) sM (by
    intro y hy;simp only [bB, cW, or_false] at hy;subst hy; simp only [fK, iC]; omega)) rfl (fun w v hv => ?_)
   obtain ⟨p1, rfl, Q3, q9, hw⟩ := hv;refine aH ?_;have hz := hw.b [ag bs _ _];have hz := Nm (c := 6 ∈ D) (A := PT 6 (val 6)) (by rw [ym]; exact ar.jq bs (ar.iR h2 hz));have hz := (hz.b [mU (7 ∈ D) _, aR p1, mU (0 ∈ D) _, mU (1 ∈ D) _, mU (2 ∈ D) _, mU (3 ∈ D) _, mU (4 ∈ D) _, mU (5 ∈ D) _, mU (6 ∈ D) _, mU (8 ∈ D) _, mU (9 ∈ D) _]).tail;refine ⟨_, oX.step 7 32 rfl rfl rfl, i' [0, 1, 2, 3, 4, 5, 6] [8, 9] dM dM ?_⟩;rw [ym];rw [ym] at hz;exact ar.jq p1 (ar.iR ⟨rfl, by rw [Q3]; simp, q9⟩ hz)
  ·refine aN rfl bf hw rfl fun w b hw => ?_;refine aH ?_;have hz := (hw.b [mU (8 ∈ D) _, ag b _ _]).tail;refine ⟨_, oX.step 8 14 rfl rfl rfl, i' [0, 1, 2, 3, 4, 5, 6, 7] [9] dM dM ?_⟩;rw [ym];rw [ym] at hz;exact ar.jq b (ar.iR rfl hz)
  refine aN rfl bf hw rfl fun w b hw => ?_;refine aH ?_;have hz := (hw.b [mU (9 ∈ D) _, ag b _ _]).tail;refine ⟨_, oX.step 9 15 rfl rfl rfl, i' [0, 1, 2, 3, 4, 5, 6, 7, 8] [] dM dM ?_⟩;rw [ym];rw [ym] at hz;exact ar.jq b (ar.iR rfl hz)
 clear hw;intro D e w jv ⟨val, oX, hw⟩;simp only [cG, j3, j4, jG] at hw;have hd3 := jv 3 sM;have hu := nu hd3 (hw.b [mU (3 ∈ D) _])
 try rw [ym] at hu
 obtain ⟨p1, hu⟩ := ar.iv (F := fun p1 : bm => dH (val 3 = gQ p1.cells /\ p1.pg = ⟨p.kind, p.level, (rl.take n).map bT.it, p.data, p.next⟩ /\ p1.Sm) (aR p1)) hu;obtain ⟨⟨hv3, Q3, q9⟩, hw⟩ := hu.dx;have hd7 := jv 7 sM;have hu := nu hd7 (hw.b [mU (7 ∈ D) _])
 try rw [ym] at hu
 obtain ⟨p2, hu⟩ := ar.iv (F := fun p1 : bm => dH (val 7 = gQ p1.cells /\ p1.pg = ⟨q.kind, q.level, (rl.drop n).map bT.it, q.data, q.next⟩ /\ p1.Sm) (aR p1)) hu;obtain ⟨⟨hv7, T6, vw⟩, hw⟩ := hu.dx;have hd8 := jv 8 sM;have hu := nu hd8 (hw.b [mU (8 ∈ D) _])
 try rw [ym] at hu
 obtain ⟨QS, hu⟩ := ar.iv (F := fun b => dH (val 8 = pQ b) (ag b bI.cells 75)) hu;obtain ⟨hv8, hw⟩ := hu.dx;have hd9 := jv 9 sM;have hu := nu hd9 (hw.b [mU (9 ∈ D) _])
 try rw [ym] at hu
 obtain ⟨Y7, hu⟩ := ar.iv (F := fun b => dH (val 9 = pQ b) (ag b bI.cells 75)) hu;obtain ⟨hv9, hw⟩ := hu.dx;refine ee (kK.cons ((oX.slot 8 14 sM hd8).trans (congrArg some hv8)) (kK.cons ((oX.slot 9 15 sM hd9).trans (congrArg some hv9)) (kK.cons ((oX.slot 3 28 sM hd3).trans (congrArg some hv3)) (kK.cons ((oX.slot 7 32 sM hd7).trans (congrArg some hv7)) oX.base)))) ?_;have hz := hw.b [aR p1, aR p2, ag QS _ _, ag Y7 _ _, ag b9 _ _, ag b8 _ _, ag b5 _ _, ag b4 _ _];have hz := hz.b [mU (0 ∈ D) _, mU (1 ∈ D) _, mU (2 ∈ D) _, mU (4 ∈ D) _, mU (5 ∈ D) _, mU (6 ∈ D) _];have hw := hz.tail.tail.tail.tail.tail.tail;refine aL (cs := p1.cells) (l' := p1.cells) rfl tV rfl rfl ad rfl (cF (aB q9 pK) hw) hw pK (by simp [bm.cells]) rfl rfl fun w hw => ?_;refine aL (cs := p2.cells) (l' := p2.cells) rfl tV rfl rfl ad rfl (cF (aB vw pK) hw) hw pK (by simp [bm.cells]) rfl rfl fun w hw => ?_;refine z5 ?_;refine lD (v := iQ p.kind) ai hw ?_;refine z2 ?_;refine aS rfl (fun h1 => ?_) fun h1 => ?_
 ·
  have iX : p.kind = 2 := h1;have Kq : p2.l.map bT.it = (rl.drop n).map bT.it := by have h := congrArg Pg.items T6; simpa [bm.pg] using h
  have aaL : p2.l.length = rl.length - n := by have h := congrArg List.length Kq; rw [bA, bA, iC] at h; exact h
  rcases p2 with ⟨kd, lv, l2, jY, d2, YW, nx⟩;simp only at Kq aaL;obtain ⟨x0, r0, rfl⟩ : ∃ x0 r0, l2 = x0 :: r0 := by
   cases l2 with
   | nil => simp at aaL; omega
   | cons x0 r0 => exact ⟨x0, r0, rfl⟩
  have Qj : x0.it = xb.it := by
   rw [dG XP, cG, cG] at Kq;exact (List.cons.inj Kq).1
  have hz := ar.cD (M := fi _) (hw.b [aR ⟨kd, lv, x0 :: r0, jY, d2, YW, nx⟩]);simp only [fi, ku, bn, j4, jG, jO] at hz;obtain ⟨sa, sc, rfl⟩ := aM (hz.pick (A := row 114 4 jY (r0.length + 1) _) .here);have YD : d2.oneCell' = true := by obtain ⟨da, dc, hd⟩ := aM (hz.pick (A := row 5 1 d2 _ _) pK); rw [hd]; rfl
  clear hw;have hw := hz;obtain ⟨ud, sb, cur, rfl, BQ, yl, gJ, hw⟩ := ij hw oM;refine z3 ?_;refine lD (v := .slice (some ⟨sb, 0, none⟩) (r0.length + 1) sc) ao hw ?_;refine dD rfl aG aY rfl rfl ⟨oM, oM⟩ ?_;refine cy rfl cE rfl ?_;refine lD (v := x0.kv) ay hw ?_;refine z5 ?_;refine lD (v := .slice (some ⟨sb, 0, none⟩) (r0.length + 1) sc) ao hw ?_;refine dD rfl aG aY rfl rfl ⟨oM, oM⟩ ?_;refine cy rfl cE rfl ?_;refine bS (l' := (((⟨{ x0.it with key := [] }, nQ, x0.vv⟩ :: r0 : List bT)).map bT.cells).flatten ++ cur) rfl tV rfl rfl ay rfl hw pK (by simp [bT.cells]) rfl rfl fun w hw => ?_;refine z2 ?_;refine bu [0, 1, 2, 3, 4, 5, 6] bK kR ?_;replace hw := hw.drawn (w.drawn + 1);refine lA (l := p1.cells) ad hw ?_;refine lA (l := bm.cells ⟨kd, lv, x0 :: r0, .slice (some ⟨sb, 0, none⟩) (r0.length + 1) sc, d2, YW, nx⟩) ad hw ?_;refine z1 ?_;refine vz (cs := p1.cells) (l' := p1.cells) rfl tV rfl rfl ad rfl (cF (aB q9 pK) hw) hw pK (by simp [bm.cells]) rfl (fun w hw q' hq => ?_) fun w hw => ?_
  ·
   have hq := a9 (l := [1]) kR hq;simp only [bB, cW, or_false] at hq;subst hq;exact aV rfl rfl rfl (aj.cw (l := bm.cells ⟨kd, lv, x0 :: r0, .slice (some ⟨sb, 0, none⟩) (r0.length + 1) sc, d2, YW, nx⟩) ad hw pK rfl)
  refine aL (cs := bm.cells ⟨kd, lv, x0 :: r0, .slice (some ⟨sb, 0, none⟩) (r0.length + 1) sc, d2, YW, nx⟩) (l' := bm.cells ⟨kd, lv, x0 :: r0, .slice (some ⟨sb, 0, none⟩) (r0.length + 1) sc, d2, YW, nx⟩) rfl tV rfl rfl ad rfl (by intro u hu; simp [bm.cells] at hu; rcases hu with rfl | rfl | rfl | rfl | rfl <;> first | rfl | exact YD) hw pK (by simp [bm.cells]) rfl kR (fun w hw => ?_);refine z4 ?_;obtain ⟨p3, hp3⟩ : ∃ p3 : bm, p3 = ⟨kd, lv, ⟨{ x0.it with key := [] }, nQ, x0.vv⟩ :: r0, .slice (some ⟨sb, 0, none⟩) (r0.length + 1) sc, d2, YW, nx⟩ := ⟨_, rfl⟩;refine zk rfl rfl ⟨_, rfl, (aj.cw (l := p1.cells) ad hw pK rfl)⟩ ⟨_, rfl, (aj.cw (l := bm.cells ⟨kd, lv, x0 :: r0, .slice (some ⟨sb, 0, none⟩) (r0.length + 1) sc, d2, YW, nx⟩) ad hw pK rfl)⟩ rfl rfl (.inr ⟨p1, p3, xb.it.key, x0.kv, ?_, by rw [hp3]; rfl, q9, ?_, ?_⟩)
  ·unfold jz;rw [show p.pg.kind = p.kind from rfl, ah iX, ny XP, Q3];have e2 := T6;simp only [bm.pg] at e2 ⊢;rw [hp3];simp only [Pg.mk.injEq] at e2
   obtain ⟨e3, e4, e5, e6, e7⟩ := e2;simp only [cG] at e5 ⊢;simp only [<-K5, <-K4, Option.some.injEq, Prod.mk.injEq, Pg.mk.injEq];rw [dG XP] at e5 ⊢
   simp only [cG, yX, List.cons.injEq] at e5 ⊢;have e8 : xb.it.key = x0.it.key := by rw [Qj]
   first | exact ⟨trivial, ⟨e3.symm, e4.symm, ⟨by rw [<-Qj], e5.2.symm⟩, e6.symm, e7.symm⟩, trivial⟩ | simp_all
  ·rw [hp3];exact ⟨vw.len, fun y hy => by
    rcases bB.1 hy with rfl | hy
    ·exact ⟨by unfold bz; simp, (vw.it x0 (fp ..)).2⟩
    ·exact vw.it y (gF _ hy), vw.sd⟩
  have hz := hw.b [aT (row 5 1 x0.kv x0.it.key.length (dV x0.it.key) :: row 5 1 x0.vv x0.it.value.length (dV x0.it.value) :: r0.flatMap bn)];have hz := hz.C1;have hz := (cf hz 5 1).b [row 5 1 (nQ) 0 [], aT (row 5 1 x0.vv x0.it.value.length (dV x0.it.value) :: r0.flatMap bn)];have hz := QR hz;have hz := hz.b [ag sb _ _];have hz := np (m := r0.length + 1) (z := 4) hz (by rw [dk (kX _)]; simp) BQ yl (by rw [<-gJ, ga, ga]; simp);have hz := hz.b [row 114 4 _ _ _, aT (row 5 1 (nQ) 0 [] :: _), row 5 1 d2 _ _];have hz := ar.bH (M := fi p3) (by rw [hp3]; exact hz);have hz := hz.b [ag b4 _ _, ag b5 _ _, ag b8 _ _, ag b9 _ _, ag QS _ _, ag Y7 _ _, aR p1, aT (fi p3), row 5 1 x0.kv _ _];have hz := hz.tail.tail.tail.tail.tail.tail;rw [Qj] at hz;exact hz
 have iX : ¬ p.kind = 2 := h1;have abB : ((rl.take n).map bT.cells)[n - 1]? = some xa.cells := by rw [dB, List.getElem?_take_of_lt oM, Vi]; rfl
 have abA : ((rl.drop n).map bT.cells)[0]? = some xb.cells := by rw [dB, K7, PJ, XP]; rfl
 have aap := hr.it xa (ed Vi);have aao := hr.it xb (ed XP);refine z2 ?_;refine bu [0, 1, 2, 3, 4, 5, 6, 7, 8, 9, 10, 11, 12, 13, 14, 15] bK kR ?_;replace hw := hw.drawn (w.drawn + 1);refine z3 ?_;refine dD rfl aG aY rfl rfl ⟨oM, oM⟩ ?_;refine cy rfl cE rfl ?_;refine bt rfl rfl (aj.one (v := xa.kv) ay (by have h := ((CN.of sF).sl.at hw).cell (k := n - 1) (j := 0) abB rfl; rw [fQ] at h; rw [show ((n : Int) - 1).toNat = n - 1 by omega]; exact h)) ?_;refine z1 ?_;refine dD rfl aG aY rfl rfl ⟨oM, oM⟩ ?_;refine cy rfl cE rfl ?_;refine bt rfl rfl (aj.one (v := xb.kv) ay (((G8.of sF).sl.at hw).cell (k := 0) (j := 0) abA rfl)) ?_;refine an rfl B7 rfl (DD hw (aap.k.of sF) (aao.k.of sF) aap.sk aao.sk) kR fun w v59 hv => ?_;have Iy : ∃ (sv : Value) (bb : Bool), v59 = .tuple #[sv, .bool bb] := by
  rcases hv with ⟨_, h, _⟩ | ⟨_, _, _, h, _⟩
  ·exact ⟨_, _, h⟩
  exact ⟨_, _, h⟩
 obtain ⟨sv, bo, rfl⟩ := Iy;refine yb ?_;refine nY rfl rfl ?_;refine aH ?_;refine fm rfl (fun h2 => ?_) fun h2 => ?_
 ·
  have hv := hv.resolve_right (fun h => by obtain ⟨_, _, _, h, _⟩ := h; cases h; simp at h2);obtain ⟨hbn, -, hw⟩ := hv;refine z2 ?_;refine aQ (v := gQ bI.cells) rfl rfl (fun w => kR) ?_;refine aQ (v := gQ bI.cells) rfl rfl (fun w => kR) ?_;refine aL (cs := bI.cells) (l' := bI.cells) rfl tV rfl rfl ad rfl bF hw pK (by simp [bI, bm.cells]) rfl rfl fun w hw => ?_;refine aL (cs := bI.cells) (l' := bI.cells) rfl tV rfl rfl ad rfl bF hw pK (by simp [bI, bm.cells]) rfl rfl fun w hw => ?_;refine z4 ?_;refine zk rfl rfl ⟨_, rfl, (aj.cw (l := bI.cells) ad hw pK rfl)⟩ ⟨_, rfl, (aj.cw (l := bI.cells) ad hw pK rfl)⟩ rfl rfl (.inl ⟨?_, rfl, ?_⟩)
  ·unfold jz;rw [show p.pg.kind = p.kind from rfl, ae iX, ny Vi, ny XP, hbn]
  exact (hw.b [ag b4 _ _, ag b5 _ _, ag b8 _ _, ag b9 _ _, ag QS _ _, ag Y7 _ _, aR p1, aR p2]).tail.tail.tail.tail.tail.tail.tail.tail
 have hv := hv.resolve_left (fun h => by have h := h.2.1; cases h; simp at h2);obtain ⟨s, v, hbs, he, hw⟩ := hv;obtain ⟨rfl, rfl⟩ : sv = v /\ bo = true := by cases he; exact ⟨rfl, rfl⟩
 refine z2 ?_;refine bu [0, 1, 2, 3, 4, 5, 6] bK kR ?_;replace hw := hw.drawn (w.drawn + 1);refine lA (l := p1.cells) ad hw ?_;refine lA (l := p2.cells) ad hw ?_;refine z1 ?_;refine vz (cs := p1.cells) (l' := p1.cells) rfl tV rfl rfl ad rfl (cF (aB q9 pK) hw) hw pK (by simp [bm.cells]) rfl (fun w hw q' hq => ?_) fun w hw => ?_
 ·
  have hq := a9 (l := [1]) kR hq;simp only [bB, cW, or_false] at hq;subst hq;exact aV rfl rfl rfl (aj.cw (l := p2.cells) ad hw pK rfl)
 refine aL (cs := p2.cells) (l' := p2.cells) rfl tV rfl rfl ad rfl (cF (aB vw pK) hw) hw pK (by simp [bm.cells]) rfl kR fun w hw => ?_;refine z4 ?_;refine zk rfl rfl ⟨_, rfl, (aj.cw (l := p1.cells) ad hw pK rfl)⟩ ⟨_, rfl, (aj.cw (l := p2.cells) ad hw pK rfl)⟩ rfl rfl (.inr ⟨p1, p2, s, sv, ?_, rfl, q9, vw, ?_⟩)
 ·unfold jz;rw [show p.pg.kind = p.kind from rfl, ae iX, ny Vi, ny XP, hbs, Q3, T6];simp [bm.pg]
 exact (hw.b [ag b4 _ _, ag b5 _ _, ag b8 _ _, ag b9 _ _, ag QS _ _, ag Y7 _ _, aR p1, aR p2]).tail.tail.tail.tail.tail.tail
theorem HC {p : bm} (hw : ar G L w) (hp : p.Ok L) : Calls prog 175 #[gQ p.cells] w (dv fun r w' =>
  (nk p.pg = none /\ r = .tuple #[gQ bI.cells, gQ bI.cells, nQ, .bool false] /\ ar G L w') ∨
  (∃ (pl pr : bm) (s : bN) (sv : Value), nk p.pg = some (pl.pg, pr.pg, s) /\ r = .tuple #[gQ pl.cells, gQ pr.cells, sv, .bool true] /\ pl.Sm /\ pr.Sm /\ ar G (aR pl :: aR pr :: row 5 1 sv s.length (dV s) :: L) w')) := by
 obtain ⟨a1, c1, a2, c2, hs, hd, gJ⟩ := hp.form hw;have T9 := hp.its.len;have iE := hp.its;rw [hs] at iE;refine al (args := [_]) func175 rfl ntmps175 rfl rfl ?_;refine z2 ?_;refine bE rfl rfl rfl hw rfl fun w b1 hw => ?_;refine aN rfl bf hw rfl fun w b2 hw => ?_;refine aN rfl bf hw rfl fun w b3 hw => ?_;refine z6 ?_;refine lA (l := p.cells) ad hw ?_;refine an rfl wV rfl (yv (p := p) hw) rfl fun w v7 hv => ?_;obtain ⟨rfl, hw⟩ := hv;refine jX rfl rfl ?_;refine z1 ?_;refine bY (l1 := [4, 5, 6, 7, 8]) (l2 := []) rfl (d := 14) (¬ (p.kind = 1 \/ p.kind = 2) \/ ¬ p.l.length = 8) rfl ?_ ?_
 ·
  refine aE (d := 9) rfl (fun h1 => ?_) fun h1 => ?_
  ·
   refine z6 ?_;refine cQ ?_
   first | exact (decide_eq_true (.inl (by simpa using h1))).symm | exact cZ.2 ⟨fun h => .inr oM, fun h => by have h3 := h.resolve_left (fun h' => h1 (by simpa using h')); omega⟩
  refine z1 ?_;refine bt rfl rfl (aj.bx (v := .slice a1 p.l.length c1) ao hw pK (by rw [gJ]; rfl)) ?_;refine dQ rfl kR aG rfl ?_;refine z3 ?_;refine cQ ?_
  first | exact (decide_eq_true (.inl (by simpa using h1))).symm | exact cZ.2 ⟨fun h => .inr oM, fun h => by have h3 := h.resolve_left (fun h' => h1 (by simpa using h')); omega⟩
 refine aH ?_;refine aS rfl (fun h2 => ?_) fun h2 => ?_
 ·
  refine z2 ?_;refine aQ (v := gQ bI.cells) rfl rfl (fun w => kR) ?_;refine aQ (v := gQ bI.cells) rfl rfl (fun w => kR) ?_;refine aL (cs := bI.cells) (l' := bI.cells) rfl tV rfl rfl ad rfl bF hw pK (by simp [bI, bm.cells]) rfl rfl fun w hw => ?_;refine aL (cs := bI.cells) (l' := bI.cells) rfl tV rfl rfl ad rfl bF hw pK (by simp [bI, bm.cells]) rfl rfl fun w hw => ?_;refine z4 ?_;exact zk rfl rfl ⟨_, rfl, (aj.cw (l := bI.cells) ad hw pK rfl)⟩ ⟨_, rfl, (aj.cw (l := bI.cells) ad hw pK rfl)⟩ rfl rfl (.inl ⟨by unfold nk; rw [ah]; simpa [bm.pg] using h2, rfl, by
   have hz := (hw.b [ag b3 _ _, ag b2 _ _, ag b1 _ _]).tail.tail.tail;exact hz⟩)
 have h2 : (p.kind = 1 \/ p.kind = 2) /\ p.l.length = 8 := oM;have tC : nk p.pg = jz p.pg p.pg (p.l.map bT.it) 4 := by unfold nk; rw [ae]; rfl; simp [bm.pg]; omega
 refine z3 ?_;refine lA (l := p.cells) ad hw ?_;refine lA (l := p.cells) ad hw ?_;refine z1 ?_;refine bt rfl rfl (aj.bx (v := .slice a1 p.l.length c1) ao hw pK (by rw [gJ]; rfl)) ?_;refine an rfl pG rfl (qP (p := p) (q := p) (rl := p.l) (n := 4) hw (hp.of sF) (hp.of sF) (iE.of sF) oM oM) rfl fun w Wj hv => ?_;have Iy : ∃ (pl pr : bm) (sv : Value) (bo : Bool) (L' : List az), Wj = .tuple #[gQ pl.cells, gQ pr.cells, sv, .bool bo] /\ jN pl.cells /\ jN pr.cells /\ ar G (ag b3 [iQ 0, iQ 0, nQ, nQ, iQ 0] 75 :: ag b2 [iQ 0, iQ 0, nQ, nQ, iQ 0] 75 :: ag b1 p.cells 75 :: L') w ∧
   ((nk p.pg = none /\ pl = bI /\ pr = bI /\ sv = nQ /\ bo = false /\ L' = L) \/ (∃ s, nk p.pg = some (pl.pg, pr.pg, s) /\ bo = true /\ pl.Sm /\ pr.Sm /\ L' = aR pl :: aR pr :: row 5 1 sv s.length (dV s) :: L)) := by
  rcases hv with ⟨h3, h4, h5⟩ | ⟨pl, pr, s, sv, h3, h4, h5, h6, h7⟩
  ·exact ⟨bI, bI, nQ, false, L, h4, bF, bF, h5.b [ag b3 _ _, ag b2 _ _, ag b1 _ _], .inl ⟨tC.trans h3, rfl, rfl, rfl, rfl, rfl⟩⟩
  exact ⟨pl, pr, sv, true, _, h4, cF (aB h5 pK) h7, cF (aB h6 pK) h7, h7.b [ag b3 _ _, ag b2 _ _, ag b1 _ _], .inr ⟨s, tC.trans h3, rfl, h5, h6, rfl⟩⟩
 obtain ⟨pl, pr, sv, bo, L', rfl, MT, JP, hw, iu⟩ := Iy;refine z4 ?_;refine aL (cs := pl.cells) (l' := pl.cells) rfl tV rfl rfl ad rfl MT hw pK (by simp [bm.cells]) rfl rfl fun w hw => ?_;refine aL (cs := pr.cells) (l' := pr.cells) rfl tV rfl rfl ad rfl JP hw pK (by simp [bm.cells]) rfl rfl fun w hw => ?_;refine z4 ?_;refine zk rfl rfl ⟨_, rfl, (aj.cw (l := pl.cells) ad hw pK rfl)⟩ ⟨_, rfl, (aj.cw (l := pr.cells) ad hw pK rfl)⟩ rfl rfl ?_;have hz := (hw.b [ag b3 _ _, ag b2 _ _, ag b1 _ _]).tail.tail.tail;rcases iu with ⟨h3, rfl, rfl, rfl, rfl, rfl⟩ | ⟨s, h3, rfl, h5, h6, rfl⟩
 ·exact .inl ⟨h3, rfl, hz⟩
 exact .inr ⟨pl, pr, s, sv, h3, rfl, h5, h6, hz⟩
end
def Va.rd (V : Va) (n : Int) : Option Pg := if V.bw n = 0 then none else some (V.pg n)
def vV (rd : Int -> Option Pg) (size : Int) : Nat -> Int -> bN -> Int × bN
 | 0, _, out => (0, out)
 | f + 1, n, out => if size <= (out.length : Int) then (0, out) else match rd n with
  | none => (15, [])
  | some p => if p.kind ≠ 3 then (15, []) else if ¬ ((p.data.length : Int) = min (size - out.length) 480 /\ (p.next = 0 ↔ size - out.length <= 480)) then (5, []) else vV rd size f p.next (out ++ p.data)
def fa (rd : Int -> Option Pg) (x : It) : Int × bN :=
 if (x.size < 0 \/ 3840 < x.size) \/ (x.size <= 32 /\ ¬ (x.value.length : Int) = x.size) then (8, []) else if x.size <= 32 then (0, x.value) else vV rd x.size x.size.toNat x.child []
theorem Nq (rd : Int -> Option Pg) (size : Int) (f : Nat) (n : Int) (out : bN) (h : size <= (out.length : Int)) : vV rd size f n out = (0, out) := by
 cases f with
 | zero => rfl
 | succ f => rw [vV, ah h]
section
variable {G : Gh} {L R : List az} {w : World}
theorem fO {vq : Nat} {V : Va} {n : Int} (hw : ar G (aZ vq V :: L) w) (aJ : V.Ok) : Calls prog 28 #[pQ vq, iQ n] w (dv fun r w' => ∃ (p' : bm) (er : Int) (A : az),
  r = .tuple #[gQ p'.cells, iQ er] /\ jN p'.cells /\ ((V.rd n = none /\ er = 15 /\ p' = bI /\ A = aT []) \/ (V.rd n = some p'.pg /\ er = 0 /\ A = aR p' /\ p'.Sm)) /\ ar G (A :: aZ vq V :: L) w') := by
 obtain ⟨m, hf, hw⟩ := lg hw;obtain ⟨pm, MS, hw⟩ := jH (hw.b [gZ m.q V.po]);have hz := hw.b [ag vq _ _, cX _ _, pI _, ag m.q _ _, row 3 1 pm.cv V.po.c.length (bG V.po.c), row 4 1 pm.lv V.po.l.length (zG V.po.l)];refine ik (xS (vq := vq) (pq := m.q) (om := m.om) (av := m.av) (floor := V.vf) (n := n) (p := H9 V.po pm (HW V.po.c V.po.l)) (on := m.on) (S := m.S) hz aJ.po.len (fun hc => ?_)) fun r w' hr => ?_
 ·have h1 := aJ.th n hc;have h2 := hf.on n;cases ho : xK m.on n with
  | none => rw [ho] at h2; exact absurd h2.symm h1
  | some pg => exact ⟨pg, rfl, hf.Ih n pg ho, hf.sm pg (hf.Ih n pg ho)⟩
 have back : ∀ {w' : World} {M : List az}, ar G (M ++ (vtP vq m.q m.om m.av V.vf (H9 V.po pm (HW V.po.c V.po.l)) m.on m.S (row 170 2 m.av m.fu.length (m.fu.map Ci).flatten :: aT (m.fu.map kM) :: L))) w' -> True := fun _ => trivial
 rcases hr with ⟨hc, rfl, oE⟩ | ⟨hc, pg, p', re, rfl, D3, ft, oE⟩
 ·refine ⟨bI, 15, aT [], rfl, bF, .inl ⟨ah hc, rfl, rfl, rfl⟩, ar.bH (M := []) ?_⟩;have hz := oE.b [ag m.q _ _, row 3 1 pm.cv V.po.c.length (bG V.po.c), row 4 1 pm.lv V.po.l.length (zG V.po.l), ag pm.fq _ _, row 232 _ _ _ _, row 227 _ _ _ _, Ia m.q pm.fu];have hz := fT MS hz;have hz := hz.b [ag vq _ _, cX _ _, pI _, row 170 _ _ _ _, aT (m.fu.map kM), gZ _ _];exact ie hf hz
 have O1 := hf.on n;rw [re] at O1;refine ⟨p', 0, aR p', rfl, cF (aB ft pK) oE, .inr ⟨?_, rfl, rfl, ft⟩, ?_⟩
 ·unfold Va.rd Va.bw Va.pg;have hc : ¬ V.po.bw n = 0 := hc;rw [ae hc, <-O1, D3]; rfl
 have hz := oE.b [ag m.q _ _, row 3 1 pm.cv V.po.c.length (bG V.po.c), row 4 1 pm.lv V.po.l.length (zG V.po.l), ag pm.fq _ _, row 232 _ _ _ _, row 227 _ _ _ _, Ia m.q pm.fu];have hz := fT MS hz;have hz := hz.b [ag vq _ _, cX _ _, pI _, row 170 _ _ _ _, aT (m.fu.map kM), gZ _ _];have hz := ie hf hz;exact hz.b [aR p', aZ vq V]
theorem AS {vq : Nat} {V : Va} {x : bT} (hw : ar G (aZ vq V :: L) w) (aJ : V.Ok) (hx : x.Ok L) : Calls prog 78 #[pQ vq, gQ x.cells] w (dv fun r w' => ∃ v, r = .tuple #[v, iQ (fa V.rd x.it).1] /\ ar G (row 5 1 v (fa V.rd x.it).2.length (dV (fa V.rd x.it).2) :: aZ vq V :: L) w') := by
 obtain ⟨a1, c1, a2, c2, hk, SR, gJ⟩ := hx.form hw.tail;have Qm := hx.sv;unfold bz at Qm;refine al (args := [_, _]) func78 rfl ntmps78 rfl rfl ?_;refine z2 ?_;refine bE rfl rfl rfl hw rfl fun w b3 hw => ?_;refine z7 ?_;refine lD (v := iQ x.it.size) ai hw ?_;refine z2 ?_;refine bY (l1 := [4, 5, 6, 7]) (l2 := [8, 9, 10, 11, 12, 13, 14, 15, 16, 17, 18, 19, 20]) rfl (d := 18) (x.it.size < 0 \/ 3840 < x.it.size) rfl ?_ ?_
 ·
  refine aE (d := 14) rfl (fun h1 => ?_) fun h1 => ?_
  ·
   refine z5 ?_;refine cQ ?_;exact dC
  refine z1 ?_;refine lD (v := iQ x.it.size) ai hw ?_;refine z3 ?_;refine cQ ?_;exact dC
 refine z1 ?_;refine bY (l1 := [9, 10, 11, 12, 13, 14, 15, 16, 17, 18, 19, 20]) (l2 := []) rfl (d := 31) ((x.it.size < 0 \/ 3840 < x.it.size) \/ (x.it.size <= 32 /\ ¬ (x.it.value.length : Int) = x.it.size)) rfl ?_ ?_
 ·
  refine aE (d := 19) rfl (fun h2 => ?_) fun h2 => ?_
  ·
   refine Zc ?_;refine cQ ?_
   first | exact (decide_eq_true (Or.inl (by assumption))).symm | exact cZ.2 ⟨fun h => .inr h, fun h => h.resolve_left (by assumption)⟩
  refine z1 ?_;refine lD (v := iQ x.it.size) ai hw ?_;refine z2 ?_;refine bY (l1 := [13, 14, 15, 16, 17, 18, 19]) (l2 := [20]) rfl (d := 30) (x.it.size <= 32 /\ ¬ (x.it.value.length : Int) = x.it.size) rfl ?_ ?_
  ·
   refine aE (d := 23) rfl (fun h3 => ?_) fun h3 => ?_
   ·
    refine z1 ?_;refine bt rfl rfl (aj.bx (v := .slice a2 x.it.value.length c2) ay hw pK (by rw [<-SR]; rfl)) ?_;refine z2 ?_;refine lD (v := iQ x.it.size) ai hw ?_;refine z1 ?_;refine zM rfl rfl rfl rfl ?_;refine aH ?_;refine cQ ?_
    first | exact cZ.2 ⟨fun h => ⟨by assumption, h⟩, fun h => h.2⟩ | exact (decide_eq_false (fun h => by omega)).symm
   refine z6 ?_;refine zN rfl rfl rfl rfl ?_;refine aH ?_;refine cQ ?_
   first | exact cZ.2 ⟨fun h => ⟨by assumption, h⟩, fun h => h.2⟩ | exact (decide_eq_false (fun h => by omega)).symm
  refine z2 ?_;refine cQ ?_
  first | exact (decide_eq_true (Or.inl (by assumption))).symm | exact cZ.2 ⟨fun h => .inr h, fun h => h.resolve_left (by assumption)⟩
 refine aH ?_;refine aS rfl (fun h4 => ?_) fun h4 => ?_
 ·
  refine z6 ?_;exact eK rfl rfl rfl rfl (by
 have e : fa V.rd x.it = (8, []) := by unfold fa; rw [ah h4]
 rw [e];exact ⟨_, rfl, cf (hw.b [ag b3 _ _]).tail _ _⟩)
 refine z5 ?_;refine lD (v := iQ x.it.size) ai hw ?_;refine z2 ?_;refine aS rfl (fun h5 => ?_) fun h5 => ?_
 ·
  refine z3 ?_;refine lD (v := x.vv) ay hw ?_;refine an rfl gH rfl (iw hw (hx.v.of sF) hx.sv) rfl fun w Zh hv => ?_;have hw : ar G (row 5 1 Zh x.it.value.length (dV x.it.value) :: _) _ := hv;refine z4 ?_;exact eK rfl rfl rfl rfl (by
 have e : fa V.rd x.it = (0, x.it.value) := by unfold fa; rw [ae h4, ah h5]
 rw [e];exact ⟨_, rfl, (hw.b [ag b3 _ _]).tail⟩)
 refine z4 ?_;refine lD (v := iQ x.it.size) ai hw ?_;refine KC rfl bL dX pk zJ rfl rfl ⟨oM, oM⟩ oM oM hw rfl fun w b40 hw => ?_;refine z6 ?_;refine lD (v := iQ x.it.child) ai hw ?_;refine z3 ?_;have Hf : fa V.rd x.it = vV V.rd x.it.size x.it.size.toNat x.it.child [] := by unfold fa; rw [ae h4, ae h5]
 have hw := np (xs := []) (m := 0) (cap := x.it.size.toNat) (z := 1) (by rw [jG]; exact hw) rfl (fo _) mL (by simp [yO]);refine cO (fun m e w => ∃ (f : Nat) (n : Int) (out : bN) (u : Value), m = f + 1 /\ e = [(0, pQ vq), (3, pQ b3), (6, u), (7, iQ n)] /\ (fa V.rd x.it = vV V.rd x.it.size f n out /\ x.it.size <= out.length + f /\ (out.length : Int) <= 3840) /\ ar G (row 5 1 u out.length (dV out) :: ag b3 x.cells 114 :: aZ vq V :: L) w)
  (m := x.it.size.toNat + 1) sB
  ⟨x.it.size.toNat, x.it.child, [], _, rfl, rfl, ⟨Hf, by simp; omega, by simp⟩, hw⟩ ?_
 rintro m e w ⟨f, n, out, u, rfl, rfl, ⟨MW, Vv, MX⟩, hw⟩;obtain ⟨ua, uc, rfl⟩ := aM hw;refine z6 ?_;refine lD (v := iQ x.it.size) ai hw ?_;refine z2 ?_;refine aS rfl (fun h6 => ?_) fun h6 => ?_
 ·
  obtain ⟨f, rfl⟩ : ∃ g, f = g + 1 := ⟨f - 1, oM⟩;rw [vV, ae oM] at MW;refine z6 ?_;refine an rfl cu rfl (fO (n := n) (hw.b [aZ vq V]) aJ) rfl fun w Zf hv => ?_;obtain ⟨p', er, A, rfl, kP, iu, hw⟩ := hv;refine z3 ?_;refine aN rfl bf hw rfl fun w b8 hw => ?_;refine aL (cs := p'.cells) (l' := p'.cells) rfl tV rfl rfl ad rfl kP hw pK (by simp [bm.cells]) rfl rfl fun w hw => ?_;refine z8 ?_;refine bY (l1 := [3, 4, 5, 6]) (l2 := []) rfl (d := 60) (er ≠ 0 \/ ¬ p'.kind = 3) rfl ?_ ?_
  ·
   refine aE (d := 56) rfl (fun h7 => ?_) fun h7 => ?_
   ·
    refine z5 ?_;refine cQ ?_;exact dC
   refine z1 ?_;refine lD (v := iQ p'.kind) ai hw ?_;refine z3 ?_;refine cQ ?_;exact dC
  refine aH ?_;refine aS rfl (fun h8 => ?_) fun h8 => ?_
  ·
   refine z6 ?_;exact eK rfl rfl rfl rfl (by
 rcases iu with ⟨hr, rfl, rfl, rfl⟩ | ⟨hr, rfl, rfl, ft⟩
 ·rw [hr] at MW;rw [MW];exact ⟨_, rfl, cf (hw.b [ag b8 _ _, aT _, row _ _ _ _ _, ag b3 _ _]).tail.tail.tail.tail _ _⟩
 ·rw [hr] at MW;simp only at MW
  rw [ah (by show ¬ p'.kind = 3; omega)] at MW;rw [MW];exact ⟨_, rfl, cf (hw.b [ag b8 _ _, aR p', row _ _ _ _ _, ag b3 _ _]).tail.tail.tail.tail _ _⟩)
  obtain ⟨hr, rfl, rfl, ft⟩ := iu.resolve_left (fun h => by have := h.2.1; omega);rw [hr] at MW;simp only at MW
  rw [ae (by show ¬ ¬ p'.kind = 3; omega)] at MW;have xp : p'.Ok [aR p'] := aB ft .here;obtain ⟨da, dc, hd⟩ : ∃ da dc, p'.d = .slice da p'.data.length dc := by
   obtain ⟨a, c, h⟩ := (xp.data.at (hw.pick (A := aR p') pK).head).form;exact ⟨a, c, h⟩
  refine z4 ?_;refine lD (v := iQ x.it.size) ai hw ?_;refine z9 ?_;refine bt rfl rfl (aj.bx (v := .slice da p'.data.length dc) ay hw pK (by rw [<-hd]; rfl)) ?_;refine z2 ?_;refine yH rfl rfl rfl ?_;refine z2 ?_;refine bY (l1 := [7, 8, 9, 10, 11, 12, 13]) (l2 := []) rfl (d := 79) (¬ ((p'.data.length : Int) = min (x.it.size - out.length) 480 /\ (p'.next = 0 ↔ x.it.size - out.length <= 480))) rfl ?_ ?_
  ·
   refine aE (d := 72) rfl (fun h9 => ?_) fun h9 => ?_
   ·
    refine z8 ?_;refine cQ ?_
    first | (symm; rw [decide_eq_true_eq]; intro h; exact absurd h.1 h9) | (refine cZ.2 ?_; have hq := cJ.1 h9; by_cases ha : p'.next = 0 <;> by_cases hb : x.it.size - out.length <= 480 <;> simp [ha, hb, hq])
   refine z1 ?_;refine lD (v := iQ p'.next) ai hw ?_;refine z3 ?_;refine Rt rfl kR N' rfl rfl ?_;refine z2 ?_;refine cQ ?_
   first | (symm; rw [decide_eq_true_eq]; intro h; exact absurd h.1 h9) | (refine cZ.2 ?_; have hq := cJ.1 h9; by_cases ha : p'.next = 0 <;> by_cases hb : x.it.size - out.length <= 480 <;> simp [ha, hb, hq])
  refine aH ?_;refine aS rfl (fun oG => ?_) fun oG => ?_
  ·
   refine z6 ?_;exact eK rfl rfl rfl rfl (by
 rw [ah (show ¬ ((p'.pg.data.length : Int) = min (x.it.size - out.length) 480 /\ (p'.pg.next = 0 ↔ x.it.size - out.length <= 480)) from oG)] at MW;rw [MW];exact ⟨_, rfl, cf (hw.b [ag b8 _ _, aR p', row _ _ _ _ _, ag b3 _ _]).tail.tail.tail.tail _ _⟩)
  rw [ae (show ¬ ¬ ((p'.pg.data.length : Int) = min (x.it.size - out.length) 480 /\ (p'.pg.next = 0 ↔ x.it.size - out.length <= 480)) from oG)] at MW;obtain ⟨NP, Zz⟩ := cJ.1 oG;refine z5 ?_;refine bt rfl rfl (aj.bx (v := .slice da p'.data.length dc) ay hw pK (by rw [<-hd]; rfl)) ?_;have T5 : kL (.slice da p'.data.length dc) p'.data w := by rw [<-hd]; exact xp.data.at (hw.pick (A := aR p') pK).head
  obtain ⟨db, od, dc', MY, -⟩ := T5.arm oM;cases MY;have py : Rd w ⟨db, od, none⟩ (dV p'.data) := by
   rcases T5 with ⟨_, h⟩ | ⟨_, _, _, h1, _, h3⟩
   ·rw [h] at NP; simp only [vM] at NP; omega
   cases h1; exact h3
  refine gP (m := out.length) (k := p'.data.length) (news := dV p'.data) rfl bL dX pk k8 rfl rfl hw pK py (by rw [ox]; omega) (sS _) mL oM rfl (fun w v83 hw => ?_);refine z4 ?_;refine lD (v := iQ p'.next) ai hw ?_;refine z2 ?_;have hz := (hw.b [ag b8 _ _, aR p', row _ _ _ _ _, ag b3 _ _, aZ vq V]).tail.tail;refine ⟨f + 1, oM, [(0, _), (3, _), (6, v83), (7, iQ p'.next)], sB, f, p'.next, out ++ p'.data, v83, rfl, rfl, ⟨MW, by rw [cj]; omega, by rw [cj]; omega⟩, ?_⟩;rw [cj, uG]; exact hz
 refine z8 ?_;exact eK rfl rfl rfl rfl (by
 rw [Nq _ _ _ _ _ oM] at MW;rw [MW];exact ⟨_, rfl, (hw.b [ag b3 _ _]).tail⟩)
end
def bh (l : List It) (k : Nat) : Int := (l[k]?.map It.child).getD 0
def CC (rd : Int -> Option Pg) (key : bN) : Nat -> Int -> List Int -> Int × List Int
 | 0, _, out => (0, out)
 | f + 1, n, out => if f = 0 then (0, out ++ [n]) else match rd n with
  | none => (15, [])
  | some p => if ¬ p.kind = 2 then (15, []) else CC rd key f (bh p.items (de key p.items)) (out ++ [n])
def uK (rd : Int -> Option Pg) (t : Tr) (key : bN) : Int × List Int := CC rd key t.aK.toNat t.root []
def nV (rd : Int -> Option Pg) (t : Tr) (key : bN) : bN × Bool × Int :=
 if ¬ (1 <= key.length /\ key.length <= 24) then ([], false, 7) else if (uK rd t key).1 ≠ 0 \/ (uK rd t key).2 = [] then ([], false, (uK rd t key).1) else
 match rd ((uK rd t key).2.getLastD 0) with
 | none => ([], false, 15)
 | some p => if (dw key p.items 0).2 = false then ([], false, 0) else match p.items[(dw key p.items 0).1]? with
  | none => ([], false, 0)
  | some x => ((fa rd x).2, decide ((fa rd x).1 = 0), (fa rd x).1)
theorem Bv (key : bN) : ∀ (l : List It) (a : Nat), 1 <= a -> jd key l a < a + l.length
 | [], a, h => by simp only [jd, vM]; omega
 | x :: l, a, h => by
  have := Bv key l (a + 1) oM;rw [jd];split
  ·simp only [jO]; omega
  simp only [jO]; omega
theorem H2 {key : bN} {l : List It} (h : 0 < l.length) : de key l < l.length := by
 have := Bv key (l.drop 1) 1 (eW _);rw [iC] at this;unfold de; omega
theorem tM (key : bN) : ∀ (l : List It) (a : Nat), (dw key l a).2 = true -> a <= (dw key l a).1 /\ (dw key l a).1 < a + l.length
 | [], a, h => by simp [dw] at h
 | x :: l, a, h => by
  rw [dw] at h ⊢;split
  ·simp only [jO]; omega
  rename_i h1;rw [ae h1] at h;have := tM key l (a + 1) h;simp only [jO]; omega
theorem fP {p : Pg} (h : bD p = 0) : p.items.length <= 8 /\ (p.kind = 2 -> 2 <= p.items.length) /\ (p.kind = 1 -> 1 <= p.items.length) /\ (1 <= p.kind /\ p.kind <= 3) := by
 unfold bD at h;simp only [bZ] at h
 have h1 := (gz dM).1 h.1.1;have h2 := (gz dM).1 h.1.2;unfold lk at h2;refine ⟨?_, fun hk => ?_, fun hk => ?_, h1⟩
 ·rcases Decidable.em (p.kind = 1) with e | e
  ·have := h2.1 e; omega
  rcases Decidable.em (p.kind = 2) with e2 | e2
  ·have := h2.2.1 e2; omega
  have := h2.2.2 e e2; omega
 ·have := h2.2.1 hk; omega
 have := h2.1 hk; omega
theorem Va.vL {V : Va} (aJ : V.Ok) {n : Int} {p : Pg} (h : V.rd n = some p) : bD p = 0 := by
 unfold Va.rd at h;split at h
 ·cases h
 rename_i hc;cases h;unfold Va.pg;cases ho : V.on n with
 | none => exact absurd ho (aJ.th n hc)
 | some q => exact aJ.on n q ho
theorem Sf (rd : Int -> Option Pg) (t : Tr) (key : bN) (hh : t.aK <= 1000000) : (uK rd t key).2.length <= 1000000 := by
 have h : ∀ (f : Nat) (n : Int) (out : List Int), (CC rd key f n out).2.length <= out.length + f := by
  intro f
  induction f with
  | zero => intro n out; simp [CC]
  | succ f ih =>
   intro n out;rw [CC];split
   ·simp
   split
   ·simp
   split
   ·simp
   have := ih (bh (‹Pg›).items (de key (‹Pg›).items)) (out ++ [n]);rw [cj, jt] at this;omega
 have := h t.aK.toNat t.root [];unfold uK;simp only [vM] at this;omega
section
variable {G : Gh} {L R : List az} {w : World}
theorem JZ {vq : Nat} {V : Va} {t : Tr} {kv : Value} {key : bN} (hw : ar G (aZ vq V :: L) w) (aJ : V.Ok) (kk : aX L (kL kv key)) (hh : t.aK <= 1000000) : Calls prog 79 #[pQ vq, gQ (aC t), kv] w (dv fun r w' => ∃ v, r = .tuple #[v, iQ (uK V.rd t key).1] /\ ar G (row 3 1 v (uK V.rd t key).2.length (bG (uK V.rd t key).2) :: aZ vq V :: L) w') := by
 refine al (args := [_, _, _]) func79 rfl ntmps79 rfl rfl ?_;refine z2 ?_;refine bE rfl rfl rfl hw rfl fun w b4 hw => ?_;refine yb ?_;refine lD (v := iQ t.root) ai hw ?_;refine z6 ?_;refine lD (v := iQ t.aK) ai hw ?_;refine z3 ?_;have hw := cf hw 3 1;refine cO (fun m e w => ∃ (f : Nat) (h n : Int) (out : List Int) (u : Value), m = f + 1 /\ e = [(0, pQ vq), (2, kv), (4, pQ b4), (8, u), (9, iQ n), (10, iQ h)] /\ (uK V.rd t key = CC V.rd key f n out /\ f = h.toNat /\ h <= 1000000 /\ (out.length : Int) + h.toNat <= 1000000) /\ ar G (row 3 1 u out.length (bG out) :: ag b4 (aC t) 62 :: aZ vq V :: L) w)
  (m := t.aK.toNat + 1) sB
  ⟨t.aK.toNat, t.aK, t.root, [], _, rfl, rfl, ⟨rfl, rfl, hh, by simp; omega⟩, hw⟩ ?_
 rintro m e w ⟨f, h, n, out, u, rfl, rfl, ⟨re, hfh, hh1, Qq⟩, hw⟩;refine z6 ?_;refine aS rfl (fun h1 => ?_) fun h1 => ?_
 ·
  obtain ⟨f, rfl⟩ : ∃ g, f = g + 1 := ⟨f - 1, oM⟩;rw [CC] at re;refine z7 ?_;refine hY rfl bP cT k9 dM rfl rfl rfl hw rfl fun w b23 hw => ?_;refine gP (m := out.length) (k := 1) (news := [iQ n]) rfl bP cT qR k9 rfl rfl hw pK (Rd.nP hw pK) rfl (by intro u hu; simp at hu; subst hu; rfl) mL oM rfl (fun w MN hw => ?_);have hz := (hw.b [ag b23 _ _]).tail;have e1 : bG out ++ [iQ n] = bG (out ++ [n]) := by simp [bG]
  have e2 : out.length + 1 = (out ++ [n]).length := by simp
  rw [e1, e2] at hz;clear hw;have hw := hz;clear hz;refine z8 ?_;refine aS rfl (fun h2 => ?_) fun h2 => ?_
  ·
   refine z8 ?_;exact eK rfl rfl rfl rfl (by
 rw [ah oM] at re;rw [re];exact ⟨_, rfl, (hw.b [ag b4 _ _]).tail⟩)
  rw [ae oM] at re;refine z5 ?_;refine an rfl cu rfl (fO (n := n) (hw.b [aZ vq V]) aJ) rfl fun w v30 hv => ?_;obtain ⟨p', er, A, rfl, kP, iu, hw⟩ := hv;refine z3 ?_;refine aN rfl bf hw rfl fun w mT hw => ?_;refine aL (cs := p'.cells) (l' := p'.cells) rfl tV rfl rfl ad rfl kP hw pK (by simp [bm.cells]) rfl rfl fun w hw => ?_;refine z8 ?_;refine aS rfl (fun h3 => ?_) fun h3 => ?_
  ·
   refine z7 ?_;exact eK rfl rfl rfl rfl (by
 obtain ⟨hr, rfl, rfl, rfl⟩ := iu.resolve_right (fun h => h3 h.2.1);rw [hr] at re;rw [re];exact ⟨_, rfl, cf (hw.b [ag mT _ _, aT _, row _ _ _ _ _, ag b4 _ _]).tail.tail.tail.tail _ _⟩)
  obtain ⟨hr, rfl, rfl, ft⟩ := iu.resolve_left (fun h => by have := h.2.1; omega);have tD := Va.vL aJ hr;rw [hr] at re;simp only at re
  refine z5 ?_;refine lD (v := iQ p'.kind) ai hw ?_;refine z2 ?_;refine aS rfl (fun h4 => ?_) fun h4 => ?_
  ·
   refine z6 ?_;exact eK rfl rfl rfl rfl (by
 rw [ah (show ¬ p'.pg.kind = 2 from h4)] at re;rw [re];exact ⟨_, rfl, cf (hw.b [ag mT _ _, aR p', row _ _ _ _ _, ag b4 _ _]).tail.tail.tail.tail _ _⟩)
  have h4 : p'.kind = 2 := cJ.1 h4;rw [ae (show ¬ ¬ p'.pg.kind = 2 from fun hx => hx h4)] at re;have qu := (fP tD).2.1 h4;have CR : p'.pg.items.length = p'.l.length := by simp [bm.pg]
  have hi8 := (fP tD).1;have NI : de key p'.pg.items < p'.l.length := by rw [<-CR]; exact H2 oM
  have xp : p'.Ok [aR p'] := aB ft .here;obtain ⟨ia, ic, hs⟩ : ∃ ia ic, p'.s = .slice ia p'.l.length ic := by
   obtain ⟨a, c, h, _⟩ := (xp.its.sl.at (hw.pick (A := aR p') pK).head).form;rw [bA] at h;exact ⟨a, c, h⟩
  have kO : gC 4 (.slice ia p'.l.length ic) (p'.l.map bT.cells) w := by rw [<-hs]; exact xp.its.sl.at (hw.pick (A := aR p') pK).head
  obtain ⟨ib, io, Fo⟩ := kO.nn (by rw [bA]; omega);obtain ⟨x, hx⟩ : ∃ x, p'.l[de key p'.pg.items]? = some x := ⟨_, cV NI⟩;have vu : (p'.l.map bT.cells)[de key p'.pg.items]? = some x.cells := by rw [dB, hx]; rfl
  have qU : bh p'.pg.items (de key p'.pg.items) = x.it.child := by unfold bh; show (((p'.l.map bT.it)[de key p'.pg.items]?).map It.child).getD 0 = _; rw [dB, hx]; rfl
  rw [qU] at re;refine eH ?_;refine bu [0, 1, 2, 3, 4, 5, 6, 7, 8] bK kR ?_;replace hw := hw.drawn (w.drawn + 1);refine z1 ?_;refine bt rfl rfl (aj.bx (v := .slice (some ⟨ib, io, none⟩) p'.l.length ic) ao hw pK (by rw [<-Fo, <-hs]; rfl)) ?_;refine lA (l := p'.cells) ad hw ?_;refine z1 ?_;refine dL rfl nO rfl (oK (p := p') hw (aB ft pK) (kk.of sF)) (fun w v43 hv q' hq => ?_) fun w v43 hv => ?_
  ·
   obtain ⟨rfl, hw⟩ := hv;have hq := a9 (l := [1]) kR hq;simp only [bB, cW, or_false] at hq;subst hq;exact aV rfl rfl rfl (aj.bx (v := .slice (some ⟨ib, io, none⟩) p'.l.length ic) ao hw pK (by rw [<-Fo, <-hs]; rfl))
  obtain ⟨rfl, hw⟩ := hv;refine dD rfl aG aY rfl rfl ⟨oM, oM⟩ ?_;refine cy rfl gm rfl ?_;refine bt rfl rfl (aj.one (v := iQ x.it.child) ai (by
 have kO : gC 4 (.slice (some ⟨ib, io, none⟩) p'.l.length ic) (p'.l.map bT.cells) w := by rw [<-Fo, <-hs]; exact xp.its.sl.at (hw.pick (A := aR p') pK).head
 exact kO.cell (j := 2) vu rfl)) ?_
  refine z7 ?_;have hz := (hw.b [ag mT _ _, aR p', row 3 _ _ _ _, ag b4 _ _]).tail.tail;refine ⟨f + 1, oM, [(0, _), (2, _), (4, _), (8, MN), (9, iQ x.it.child), (10, iQ (h - 1))], sB, f, h - 1, x.it.child, out ++ [n], MN, rfl, rfl, ⟨re, oM, oM, by rw [cj, jt]; omega⟩, hz⟩
 refine z8 ?_;exact eK rfl rfl rfl rfl (by
 have hf0 : f = 0 := oM;subst hf0;rw [CC] at re;rw [re];exact ⟨_, rfl, (hw.b [ag b4 _ _]).tail⟩)
theorem CY {vq : Nat} {V : Va} {t : Tr} {kv : Value} {key : bN} (hw : ar G (aZ vq V :: L) w) (aJ : V.Ok) (kk : aX L (kL kv key)) (hh : t.aK <= 1000000) : Calls prog 41 #[pQ vq, gQ (aC t), kv] w (dv fun r w' => ∃ v, r = .tuple #[v, .bool (nV V.rd t key).2.1, iQ (nV V.rd t key).2.2] /\ ar G (row 5 1 v (nV V.rd t key).1.length (dV (nV V.rd t key).1) :: aZ vq V :: L) w') := by
 obtain ⟨ka, kc, rfl⟩ := (kk.at hw.tail).form;refine al (args := [_, _, _]) func41 rfl ntmps41 rfl rfl ?_;refine z2 ?_;refine bE rfl rfl rfl hw rfl fun w b4 hw => ?_;refine Oc ?_;refine bY (l1 := [4, 5, 6, 7]) (l2 := []) rfl (d := 22) (¬ (1 <= key.length /\ key.length <= 24)) rfl ?_ ?_
 ·
  refine aE (d := 18) rfl (fun h1 => ?_) fun h1 => ?_
  ·
   refine z5 ?_;refine cQ ?_
   first | (symm; rw [decide_eq_true_eq]; omega) | (refine cZ.2 ?_; omega)
  refine z5 ?_;refine cQ ?_
  first | (symm; rw [decide_eq_true_eq]; omega) | (refine cZ.2 ?_; omega)
 refine aH ?_;refine aS rfl (fun h2 => ?_) fun h2 => ?_
 ·
  refine z7 ?_;exact xQ rfl rfl rfl rfl rfl (by
 have e : nV V.rd t key = ([], false, 7) := by unfold nV; rw [ah h2]
 rw [e];exact ⟨_, rfl, cf (hw.b [ag b4 _ _]).tail _ _⟩)
 refine z4 ?_;refine lA (l := aC t) aF hw ?_;refine z1 ?_;refine an rfl HH rfl (JZ (t := t) (hw.b [aZ vq V]) aJ (kk.of sF) hh) rfl fun w Xj hv => ?_;obtain ⟨v, rfl, hw⟩ := hv;obtain ⟨er, O7⟩ : ∃ er, er = (uK V.rd t key).1 := ⟨_, rfl⟩;obtain ⟨ML, XT⟩ : ∃ ML, ML = (uK V.rd t key).2 := ⟨_, rfl⟩
 (try unfold sQ at hw); rw [<-XT] at hw
 rw [<-O7];obtain ⟨wa, wc, rfl⟩ := aM hw;have sY : nV V.rd t key = if er ≠ 0 \/ ML = [] then ([], false, er) else
  match V.rd (ML.getLastD 0) with
  | none => ([], false, 15)
  | some p => if (dw key p.items 0).2 = false then ([], false, 0) else match p.items[(dw key p.items 0).1]? with
   | none => ([], false, 0)
   | some x => ((fa V.rd x).2, decide ((fa V.rd x).1 = 0), (fa V.rd x).1) := by unfold nV; rw [ae h2, <-O7, <-XT]
 refine KA ?_;refine bY (l1 := [3, 4, 5, 6]) (l2 := []) rfl (d := 36) (er ≠ 0 \/ ML.length = 0) rfl ?_ ?_
 ·
  refine aE (d := 32) rfl (fun h3 => ?_) fun h3 => ?_
  ·
   refine z5 ?_;refine cQ ?_;exact dC
  refine z1 ?_;refine dQ rfl kR bP rfl ?_;refine z3 ?_;refine cQ ?_;exact dC
 refine aH ?_;refine aS rfl (fun h4 => ?_) fun h4 => ?_
 ·
  refine z8 ?_;exact xQ rfl rfl rfl rfl rfl (by
 rw [ah (by rcases h4 with h | h; exact .inl h; exact .inr (yS h))] at sY;rw [sY];exact ⟨_, rfl, cf (hw.b [row 3 _ _ _ _, ag b4 _ _]).tail.tail _ _⟩)
 rw [ae (fun h => h4 (by rcases h with h | h; exact .inl h; exact .inr (by rw [h]; rfl)))] at sY;have LM : 0 < ML.length := oM;obtain ⟨n, hn⟩ : ∃ n, ML[ML.length - 1]? = some n := ⟨_, cV oM⟩;have O2 : ML.getLastD 0 = n := by
  rw [List.getLastD_eq_getLast?, List.getLast?_eq_getElem?, hn]; rfl
 rw [O2] at sY;have ma : tF (.slice wa ML.length wc) (bG ML) w := (Wm (T := 3) (n := ML.length) (v := .slice wa ML.length wc) (by rw [cC]) pK).at hw
 have hwb : ML.length <= 1000000000000 := by
  have kA := Sf V.rd t key hh
  (try unfold sQ at kA); rw [<-XT] at kA; omega
 obtain ⟨wb, wo, rfl⟩ := ma.nn (by rw [cC]; omega);refine z8 ?_;refine fk rfl bP cT rfl rfl ⟨oM, oM⟩ ?_;refine bt rfl rfl (aj.one (v := iQ n) ai (ma.at (by rw [show ((ML.length : Int) - 1).toNat = ML.length - 1 by omega]; simp only [bG, dB, hn]; rfl))) ?_;refine an rfl cu rfl (fO (n := n) (hw.b [aZ vq V]) aJ) rfl fun w v46 hv => ?_;obtain ⟨p', er', A, rfl, kP, iu, hw⟩ := hv;refine z3 ?_;refine aN rfl bf hw rfl fun w mT hw => ?_;refine aL (cs := p'.cells) (l' := p'.cells) rfl tV rfl rfl ad rfl kP hw pK (by simp [bm.cells]) rfl rfl fun w hw => ?_;refine z8 ?_;refine aS rfl (fun h5 => ?_) fun h5 => ?_
 ·
  refine z8 ?_;exact xQ rfl rfl rfl rfl rfl (by
 obtain ⟨hr, rfl, rfl, rfl⟩ := iu.resolve_right (fun h => h5 h.2.1);rw [hr] at sY;rw [sY];exact ⟨_, rfl, cf (hw.b [ag mT _ _, aT _, row 3 _ _ _ _, ag b4 _ _]).tail.tail.tail.tail _ _⟩)
 obtain ⟨hr, rfl, rfl, ft⟩ := iu.resolve_left (fun h => by have := h.2.1; omega);have xp : p'.Ok [aR p'] := aB ft .here;rw [hr] at sY;simp only at sY
 refine z3 ?_;refine lA (l := p'.cells) ad hw ?_;refine z1 ?_;refine an rfl mo rfl (nG (p := p') hw (aB ft pK) (kk.of sF)) rfl fun w v55 hv => ?_;obtain ⟨rfl, hw⟩ := hv;refine yb ?_;refine nY rfl rfl ?_;refine aH ?_;refine fm rfl (fun h6 => ?_) fun h6 => ?_
 ·
  refine z7 ?_;exact xQ rfl rfl rfl rfl rfl (by
 have h7 : (dw key p'.pg.items 0).2 = false := by simpa using h6
 rw [ah h7] at sY;rw [sY];exact ⟨_, rfl, cf (hw.b [ag mT _ _, aR p', row 3 _ _ _ _, ag b4 _ _]).tail.tail.tail.tail _ _⟩)
 have h7 : (dw key p'.pg.items 0).2 = true := by simpa using h6
 have kO := tM key p'.pg.items 0 h7;have CR : p'.pg.items.length = p'.l.length := by simp [bm.pg]
 obtain ⟨x, hx⟩ : ∃ x, p'.l[(dw key p'.pg.items 0).1]? = some x := ⟨_, cV oM⟩;have vu : (p'.l.map bT.cells)[(dw key p'.pg.items 0).1]? = some x.cells := by rw [dB, hx]; rfl
 have CM : p'.pg.items[(dw key p'.pg.items 0).1]? = some x.it := by show (p'.l.map bT.it)[_]? = _; rw [dB, hx]; rfl
 rw [ae (by rw [h7]; decide), CM] at sY;simp only at sY
 have T9 := xp.its.len;obtain ⟨ia, ic, hs⟩ : ∃ ia ic, p'.s = .slice ia p'.l.length ic := by
  obtain ⟨a, c, h, _⟩ := (xp.its.sl.at (hw.pick (A := aR p') pK).head).form;rw [bA] at h;exact ⟨a, c, h⟩
 have X7 : gC 4 (.slice ia p'.l.length ic) (p'.l.map bT.cells) w := by rw [<-hs]; exact xp.its.sl.at (hw.pick (A := aR p') pK).head
 obtain ⟨ib, io, Fo⟩ := X7.nn (by rw [bA]; omega);have ot : x.Ok [aR p'] := xp.its.it x (ed hx);refine z5 ?_;refine bt rfl rfl (aj.bx (v := .slice (some ⟨ib, io, none⟩) p'.l.length ic) ao hw pK (by rw [<-Fo, <-hs]; rfl)) ?_;refine z1 ?_;refine dD rfl aG aY rfl rfl ⟨oM, oM⟩ ?_;refine bt rfl rfl (aj.many (cs := x.cells) aI rfl (by
 have kO : gC 4 (.slice (some ⟨ib, io, none⟩) p'.l.length ic) (p'.l.map bT.cells) w := by rw [<-Fo, <-hs]; exact xp.its.sl.at (hw.pick (A := aR p') pK).head
 rw [fQ]; exact kO.at vu)) ?_
 refine an rfl yC rfl (AS (x := x) (hw.b [aZ vq V, aR p']) aJ ⟨(ot.k.head _), (ot.v.head _), ot.sk, ot.sv⟩) rfl fun w v67 hv => ?_;obtain ⟨lv, rfl, hw⟩ := hv;refine z17 ?_;exact xQ rfl rfl rfl rfl rfl (by
 rw [sY];exact ⟨_, rfl, (hw.b [ag mT _ _, aR p', row 3 _ _ _ _, ag b4 _ _]).tail.tail.tail.tail⟩)
end
def A0 (P : Program) (n : Nat) (fn : Func) (R : Value -> World -> Prop) : mK := fun e w =>
 marks e = [] /\ ∀ a, dT n e a -> ∃ v, (results fn a.tmps).run P w = .ok v w /\ R v w
theorem IH {P : Program} {f : FuncId} {fn : Func} {c : Code} {args : List Value} {w : World} {R : Value -> World -> Prop} {n : Nat}
  (hf : P.funcs[f]? = some fn) (hb : fn.body = some c) (hn : fn.ntmps = n) (hle : Nat.ble args.length n = true) (hs : Nat.ble n 1000000 = true)
  (h : X P n none c (A0 P n fn R) [] (A0 P n fn R) (zB 0 args) w) : We P f args.toArray w R := by
 refine CallsDIn.mono (callsDIn_of_wp (R := dv R) (F := Fw none) hf hb trivial ?_) fun e u' w' ⟨h1, h2⟩ => ⟨h1, h2⟩
 refine wpIn_mono (h _ (by rw [hn]; exact GA hle hs)) fun ex a w hq => ?_
 cases ex <;> simp only [rE, uQ, A0] at hq <;> simp only [bodyPost]
 case normal =>
  obtain ⟨e, ha, hm, h1⟩ := hq;obtain ⟨v, hv, hR⟩ := h1 a ha;exact ⟨by rw [ha.defers, hm]; rfl, v, hv, v, rfl, hR⟩
 case ret =>
  obtain ⟨e, ha, hm, h1⟩ := hq;obtain ⟨v, hv, hR⟩ := h1 a ha;exact ⟨by rw [ha.defers, hm]; rfl, v, hv, v, rfl, hR⟩
 case exit => obtain ⟨K, hk, _⟩ := hq; cases hk
section
variable {P : Program} {n : Nat} {fn : Func} {R : Value -> World -> Prop} {e : gj} {w : World}
theorem Pf (hr : fn.results = #[]) (hm : marks e = []) (h : R (.tuple #[]) w) : A0 P n fn R e w := ⟨hm, fun a _ => ⟨.tuple #[], by simp [results, hr], h⟩⟩
end
def zF : It := ⟨[], [], 0, 0⟩
def iH (value : bN) (k : Nat) : bN := (value.drop (k * 480)).take 480
def fB (value : bN) : Nat -> Va -> Int -> Int × Int × Va
 | 0, V, child => (0, child, V)
 | k + 1, V, child => if (V.make ⟨3, 0, [], iH value k, child⟩).2.1 ≠ 0 then ((V.make ⟨3, 0, [], iH value k, child⟩).2.1, 0, V) else fB value k (V.make ⟨3, 0, [], iH value k, child⟩).2.2 (V.make ⟨3, 0, [], iH value k, child⟩).1
def cN (V : Va) (key value : bN) : Int × It × Va :=
 if ¬ (1 <= key.length /\ key.length <= 24) then (7, zF, V) else if 3840 < value.length then (8, zF, V) else
 if value.length <= 32 then (0, ⟨key, value, 0, value.length⟩, V) else
 if (fB value ((value.length - 1) / 480 + 1) V 0).1 ≠ 0 then ((fB value ((value.length - 1) / 480 + 1) V 0).1, zF, V) else
 (0, ⟨key, [], (fB value ((value.length - 1) / 480 + 1) V 0).2.1, value.length⟩, (fB value ((value.length - 1) / 480 + 1) V 0).2.2)
theorem Sr {V : Va} {p : Pg} (aJ : V.Ok) (h : (V.make p).2.1 = 0) : (V.make p).2.2.pop = V /\ (V.make p).2.2.va.length = V.va.length + 1 /\ (V.make p).2.2.vf = V.vf := by
 unfold Va.make at h ⊢
 by_cases hc : bD p = 0
 ·rw [ae (fun h => h hc)] at h ⊢;cases hl : V.po.low with
  | none => rw [hl] at h; cases h
  | some n =>
   have hg := (vR (p := p) aJ hl).g
   dsimp only
   refine ⟨Va.F2 hg, ?_, hg.vf⟩
   show ((V.se p n).v.va ++ [_]).length = _
   rw [cj, hg.va]; rfl
 rw [ah hc] at h; exact absurd h hc
theorem Ss {V : Va} {p : Pg} (h : (V.make p).2.1 ≠ 0) : (V.make p).2.2 = V := by
 unfold Va.make at h ⊢
 by_cases hc : bD p = 0
 ·rw [ae (fun h => h hc)] at h ⊢;cases hl : V.po.low with
  | none => rfl
  | some n => rw [hl] at h; simp at h
 rw [ah hc]
theorem kL.abo {L : List az} {b : bN} {bb ob c : Nat} (h : aX L (kL (.slice (some ⟨bb, ob, none⟩) b.length c) b)) {lo hi : Nat} (h1 : lo < hi) (h2 : hi <= b.length) : aX L (kL (.slice (some ⟨bb, ob + lo, none⟩) (hi - lo) (c - lo)) ((b.drop lo).take (hi - lo))) := fun g w hw => by
 rcases h.at hw with ⟨_, h3⟩ | ⟨b', o', c', h3, h4, h5⟩
 ·subst h3; simp at h2; omega
 cases h3;refine .inr ⟨bb, ob + lo, c - lo, by rw [fK, iC]; congr 1; omega, by rw [fK, iC]; omega, ?_⟩;rw [Mu, TI]; exact (h5.drop lo).take _
section
variable {G : Gh} {L R : List az} {w : World}
theorem uS {vq b7 b3 b8 b6 : Nat} {Y : Va} {er mk : Int} {ic : List Value} (hw : ar G (aZ vq Y :: ag b7 [iQ er] 41 :: ag b3 [pQ vq] 28 :: ag b8 [iQ mk] 3 :: ag b6 ic 114 :: L) w) (aJ : Y.Ok) (dm : Y.sz <= 1000000000000000) (GR : Y.vf <= mk /\ mk <= Y.mark) (hic : ic.length = 4) :
  We prog 83 #[pQ b7, pQ b3, pQ b8, pQ b6] w (fun r w' =>
   (er ≠ 0 /\ ar G (aZ vq (Y.popN (Y.mark - mk).toNat) :: ag b7 [iQ er] 41 :: ag b3 [pQ vq] 28 :: ag b8 [iQ mk] 3 :: ag b6 [nQ, nQ, iQ 0, iQ 0] 114 :: L) w') ∨
   (er = 0 /\ ar G (aZ vq Y :: ag b7 [iQ er] 41 :: ag b3 [pQ vq] 28 :: ag b8 [iQ mk] 3 :: ag b6 ic 114 :: L) w')) := by
 refine IH (args := [_, _, _, _]) func83 rfl ntmps83 rfl rfl ?_;refine z2 ?_;refine lD aD hw ?_;refine z2 ?_;refine aS rfl (fun h1 => ?_) fun h1 => ?_
 ·
  refine z2 ?_;refine lD au hw ?_;refine lD ai hw ?_;refine an rfl ln rfl (lY hw aJ dm) rfl fun w v8 hv => ?_;obtain ⟨-, -, rfl, hw⟩ := hv.resolve_left (fun h => h.1 GR);refine z2 ?_;refine aQ (v := .agg #[nQ, nQ, iQ 0, iQ 0]) rfl rfl (fun w => kR) ?_;refine aL (cs := [nQ, nQ, iQ 0, iQ 0]) (l' := [nQ, nQ, iQ 0, iQ 0]) rfl tV rfl rfl aI rfl (by intro u hu; simp at hu; rcases hu with rfl | rfl | rfl | rfl <;> rfl) hw pK (by simp [hic]) (by rw [show ic.drop (0 + 4) = [] from u0 (by simp [hic])]; rfl) rfl (fun w hw => ?_);refine aH ?_;exact Pf rfl rfl (.inl ⟨h1, hw.b [aZ vq _, ag b7 _ _, ag b3 _ _, ag b8 _ _]⟩)
 refine eH ?_;exact Pf rfl rfl (.inr ⟨cJ.1 h1, hw⟩)
theorem HE {vq : Nat} {V : Va} {kv vv : Value} {key value : bN} (hw : ar G (aZ vq V :: L) w) (aJ : V.Ok) (dm : V.sz <= 999999999000) (kk : aX L (kL kv key)) (kl : aX L (kL vv value)) (X8 : bz key) (Qm : bz value) :
  Calls prog 45 #[pQ vq, kv, vv] w (dv fun r w' => ∃ x' : bT, r = .tuple #[gQ x'.cells, iQ (cN V key value).1] /\ x'.it = (cN V key value).2.1 /\ ar G (aT (bn x') :: aZ vq (cN V key value).2.2 :: L) w') := by
 obtain ⟨ka, kc, rfl⟩ := (kk.at hw.tail).form;obtain ⟨la, lc, rfl⟩ := (kl.at hw.tail).form;unfold bz at Qm X8;have XM : ∀ {w : World} {R : List az}, ar G R w -> ar G (aT (bn ⟨zF, nQ, nQ⟩) :: R) w := fun h => ar.bH (M := bn _) (cf (cf h 5 1) 5 1)
 refine al (args := [_, _, _]) func45 rfl ntmps45 rfl rfl ?_;refine z2 ?_;refine bE rfl rfl rfl hw rfl fun w b3 hw => ?_;refine aN rfl fV hw rfl fun w b6 hw => ?_;refine aN rfl rk hw rfl fun w b7 hw => ?_;refine z9 ?_;refine bY (l1 := [4, 5, 6, 7]) (l2 := [8]) rfl (d := 19) (¬ (1 <= key.length /\ key.length <= 24)) rfl ?_ ?_
 ·
  refine aE (d := 15) rfl (fun h1 => ?_) fun h1 => ?_
  ·
   refine z5 ?_;refine cQ ?_
   first | (symm; rw [decide_eq_true_eq]; omega) | (refine cZ.2 ?_; omega)
  refine z5 ?_;refine cQ ?_
  first | (symm; rw [decide_eq_true_eq]; omega) | (refine cZ.2 ?_; omega)
 refine z2 ?_;refine aS rfl (fun h2 => ?_) fun h2 => ?_
 ·
  refine z2 ?_;refine aQ (v := .agg #[nQ, nQ, iQ 0, iQ 0]) rfl rfl (fun w => kR) ?_;refine aL (cs := [nQ, nQ, iQ 0, iQ 0]) (l' := [nQ, nQ, iQ 0, iQ 0]) rfl tV rfl rfl aI rfl (by intro u hu; simp at hu; rcases hu with rfl | rfl | rfl | rfl <;> rfl) hw pK sM rfl rfl (fun w hw => ?_);refine bS (l' := [iQ 7]) rfl tV rfl rfl aD rfl hw pK rfl rfl rfl fun w hw => ?_;refine z2 ?_;have e : cN V key value = (7, zF, V) := by unfold cN; rw [ah h2]
  refine eK rfl rfl ⟨_, rfl, (aj.cw (l := [nQ, nQ, iQ 0, iQ 0]) aI hw pK rfl)⟩ ⟨_, rfl, (aj.bx aD hw pK rfl)⟩ ⟨⟨zF, nQ, nQ⟩, by rw [e]; rfl, by rw [e], ?_⟩;rw [e]; exact XM (hw.b [ag b7 _ _, ag b6 _ _, ag b3 _ _]).tail.tail.tail
 refine z7 ?_;refine aS rfl (fun h3 => ?_) fun h3 => ?_
 ·
  refine z2 ?_;refine aQ (v := .agg #[nQ, nQ, iQ 0, iQ 0]) rfl rfl (fun w => kR) ?_;refine aL (cs := [nQ, nQ, iQ 0, iQ 0]) (l' := [nQ, nQ, iQ 0, iQ 0]) rfl tV rfl rfl aI rfl (by intro u hu; simp at hu; rcases hu with rfl | rfl | rfl | rfl <;> rfl) hw pK sM rfl rfl (fun w hw => ?_);refine bS (l' := [iQ 8]) rfl tV rfl rfl aD rfl hw pK rfl rfl rfl fun w hw => ?_;refine z2 ?_;have e : cN V key value = (8, zF, V) := by unfold cN; rw [ae h2, ah oM]
  refine eK rfl rfl ⟨_, rfl, (aj.cw (l := [nQ, nQ, iQ 0, iQ 0]) aI hw pK rfl)⟩ ⟨_, rfl, (aj.bx aD hw pK rfl)⟩ ⟨⟨zF, nQ, nQ⟩, by rw [e]; rfl, by rw [e], ?_⟩;rw [e]; exact XM (hw.b [ag b7 _ _, ag b6 _ _, ag b3 _ _]).tail.tail.tail
 refine z4 ?_;refine an rfl gH rfl (iw hw (kk.of sF) X8) rfl fun w Xj hv => ?_;have hw : ar G (row 5 1 Xj key.length (dV key) :: _) _ := hv;obtain ⟨GC, Kv, rfl⟩ := aM hw;refine z2 ?_;refine aQ (v := .agg #[.slice GC key.length Kv, nQ, iQ 0, iQ value.length]) rfl rfl (fun w => kR) ?_;refine aL (cs := [.slice GC key.length Kv, nQ, iQ 0, iQ value.length]) (l' := [.slice GC key.length Kv, nQ, iQ 0, iQ value.length]) rfl tV rfl rfl aI rfl (by intro u hu; simp at hu; rcases hu with rfl | rfl | rfl | rfl <;> rfl) hw pK sM rfl rfl (fun w hw => ?_);refine z8 ?_;refine aS rfl (fun h4 => ?_) fun h4 => ?_
 ·
  refine z3 ?_;refine an rfl gH rfl (iw hw (kl.of sF) Qm) rfl fun w Wi hv => ?_;have hw : ar G (row 5 1 Wi value.length (dV value) :: _) _ := hv;obtain ⟨ZR, c35, rfl⟩ := aM hw;refine z1 ?_;refine bS (l' := [_, _, _, _]) rfl tV rfl rfl ay rfl hw pK rfl rfl rfl fun w hw => ?_;refine z3 ?_;refine lA (l := [.slice GC key.length Kv, .slice ZR value.length c35, iQ 0, iQ value.length]) aI hw ?_;refine aL (cs := [.slice GC key.length Kv, .slice ZR value.length c35, iQ 0, iQ value.length]) (l' := [.slice GC key.length Kv, .slice ZR value.length c35, iQ 0, iQ value.length]) rfl tV rfl rfl aI rfl (by intro u hu; simp at hu; rcases hu with rfl | rfl | rfl | rfl <;> rfl) hw pK sM rfl rfl (fun w hw => ?_);refine bS (l' := [iQ 0]) rfl tV rfl rfl aD rfl hw pK rfl rfl rfl fun w hw => ?_;refine z2 ?_;have e : cN V key value = (0, ⟨key, value, 0, value.length⟩, V) := by unfold cN; rw [ae h2, ae oM, ah oM]
  refine eK rfl rfl ⟨_, rfl, (aj.cw (l := [.slice GC key.length Kv, .slice ZR value.length c35, iQ 0, iQ value.length]) aI hw pK rfl)⟩ ⟨_, rfl, (aj.bx aD hw pK rfl)⟩ ⟨⟨⟨key, value, 0, value.length⟩, .slice GC key.length Kv, .slice ZR value.length c35⟩, by rw [e]; rfl, by rw [e], ?_⟩;rw [e];have hz := (hw.b [ag b7 _ _, ag b6 _ _, ag b3 _ _, row 5 1 (.slice GC _ _) _ _, row 5 1 (.slice ZR _ _) _ _]).tail.tail.tail;exact ar.bH (M := bn _) hz
 have gD : cN V key value = if (fB value ((value.length - 1) / 480 + 1) V 0).1 ≠ 0 then ((fB value ((value.length - 1) / 480 + 1) V 0).1, zF, V) else (0, ⟨key, [], (fB value ((value.length - 1) / 480 + 1) V 0).2.1, value.length⟩, (fB value ((value.length - 1) / 480 + 1) V 0).2.2) := by unfold cN; rw [ae h2, ae oM, ae oM]
 have Vk := aJ.vf;have MS := aJ.pf;refine z3 ?_;refine lD au hw ?_;refine an rfl fg rfl (fH (hw.b [aZ vq V]) ⟨Vk, by unfold Va.sz at dm; omega⟩) rfl (fun w RC hv => ?_);obtain ⟨rfl, hw⟩ := hv;refine aN rfl HS hw rfl fun w b8 hw => ?_;refine bS (l' := [iQ V.mark]) rfl tV rfl rfl ai rfl hw pK rfl rfl rfl fun w hw => ?_;refine z2 ?_;refine Of (fs := 0) (fn := .func 83) (first := #[]) (captured := #[pQ b7, pQ b3, pQ b8, pQ b6]) (hm := rfl) rfl ?_;refine mO (v1 := #[]) (v2 := #[pQ b7, pQ b3, pQ b8, pQ b6]) rfl (by intro z hz; simp at hz; rcases hz with rfl | rfl | rfl | rfl <;> exact ⟨_, rfl⟩) sM (by simp only [oS, cG, j3]; rfl) ?_;refine aH ?_;refine ⟨rfl, ?_⟩;refine z8 ?_;have T5 := (kl.of sF).at hw;obtain ⟨vb, vo, vc, XU, YI⟩ := T5.arm oM;cases XU;have abK : (value.length - 1) / 480 + 1 <= 8 := oM;obtain ⟨tot, XW⟩ : ∃ tot, tot = (value.length - 1) / 480 + 1 := ⟨_, rfl⟩;rw [<-XW] at gD abK
 have Qr : ((value.length : Nat) : Int) = ((min value.length (tot * 480) : Nat) : Int) := oM;rw [Qr];have hz := hw.b [ag b8 _ _, row 5 1 _ _ _, ag b7 _ _, ag b6 _ _, ag b3 _ _, aZ vq V];clear hw;have hw := hz;refine cO (fun m e w => ∃ (k j : Nat) (Y : Va) (child : Int), m = k + 1 /\ e = [(1000000000, .func (.func 83) #[] #[pQ b7, pQ b3, pQ b8, pQ b6]), (2, .slice (some ⟨vb, vo, none⟩) value.length lc), (3, pQ b3), (6, pQ b6), (7, pQ b7), (8, pQ b8), (9, iQ ((min value.length (k * 480) : Nat) : Int))] /\ (Y.Ok /\ Y.popN j = V /\ Y.va.length = V.va.length + j /\ Y.vf = V.vf /\ Y.sz <= V.sz + 2 * j /\ j + k = tot /\ fB value tot V 0 = fB value k Y child) /\ ar G (ag b8 [iQ V.mark] 3 :: row 5 1 (.slice GC key.length Kv) key.length (dV key) :: ag b7 [iQ 0] 41 :: ag b6 [.slice GC key.length Kv, nQ, iQ child, iQ value.length] 114 :: ag b3 [pQ vq] 28 :: aZ vq Y :: L) w)
  (m := tot + 1) sB
  ⟨tot, 0, V, 0, rfl, rfl, ⟨aJ, rfl, rfl, rfl, oM, oM, rfl⟩, hw⟩ ?_
 rintro m e w ⟨k, j, Y, child, rfl, rfl, ⟨SK, hyp, hyl, hyf, hys, LZ, X9⟩, hw⟩;have Ww : Y.mark = V.mark + j := by unfold Va.mark; omega
 refine z6 ?_;refine aS rfl (fun h5 => ?_) fun h5 => ?_
 ·
  obtain ⟨k, rfl⟩ : ∃ g, k = g + 1 := ⟨k - 1, oM⟩;have adq : k * 480 < value.length := oM;refine z6 ?_;refine Xa rfl rfl rfl oM oM ?_;refine Xc rfl rfl rfl oM ?_;have hbg : (((min value.length ((k + 1) * 480) : Nat) : Int) - 1) / 480 * 480 = ((k * 480 : Nat) : Int) := oM;rw [hbg];refine z3 ?_;refine bu [0, 1, 2, 3, 4, 5, 6, 7, 8, 9, 10, 11, 12, 13, 14] bK kR ?_;replace hw := hw.drawn (w.drawn + 1);refine lD au hw ?_;refine z3 ?_;refine aaa rfl bL dX rfl rfl rfl ⟨oM, oM, oM⟩ oM ?_;have hpc : (value.drop (k * 480)).take (min value.length ((k + 1) * 480) - k * 480) = iH value k := by
   unfold iH;rw [List.take_eq_take_iff, iC]; omega
  have SZ : aX L (kL (.slice (some ⟨vb, vo + k * 480, none⟩) (min value.length ((k + 1) * 480) - k * 480) (lc - k * 480)) (iH value k)) := by
   rw [<-hpc]; exact kL.abo kl oM oM
  have kA : (iH value k).length = min value.length ((k + 1) * 480) - k * 480 := by rw [<-hpc, fK, iC]; omega
  obtain ⟨pg, re⟩ : ∃ pg : bm, pg = ⟨3, 0, [], nQ, .slice (some ⟨vb, vo + k * 480, none⟩) (min value.length ((k + 1) * 480) - k * 480) (lc - k * 480), iH value k, child⟩ := ⟨_, rfl⟩;have xp : pg.Ok L := by
   rw [re];exact ⟨⟨fun g w _ => .inl ⟨none, rfl, (fun x h => by cases h), rfl⟩, (fun x hx => by cases hx), by simp⟩, SZ, by unfold bz; simp only; omega⟩
  have Q2 : pg.pg = ⟨3, 0, [], iH value k, child⟩ := by rw [re]; rfl
  refine z1 ?_;refine lD (v := iQ child) ai hw ?_;refine aQ (v := gQ pg.cells) rfl rfl (fun w => by rw [re]; simp only [fQ, KZ]; kernel_rfl) ?_;refine an rfl iT rfl (jA (p := pg) (hw.b [aZ vq Y]) (xp.of sF) SK oM) kR fun w v58 hv => ?_;rw [Q2] at hv;obtain ⟨mk, GR⟩ : ∃ mk, mk = Y.make ⟨3, 0, [], iH value k, child⟩ := ⟨_, rfl⟩
  (try unfold sQ at hv); rw [<-GR] at hv
  rw [fB, <-GR] at X9;have hmo : mk.2.2.Ok := by rw [GR]; exact Va.U6 SK
  have T7 : mk.2.2.sz <= Y.sz + 2 := by rw [GR]; exact Va.U5
  obtain ⟨rfl, hw⟩ := hv;refine z4 ?_;refine bS (l' := [_, _, _, _]) rfl tV rfl rfl ai rfl hw pK rfl rfl kR fun w hw => ?_;refine bS (l' := [iQ mk.2.1]) rfl tV rfl rfl aD rfl hw pK rfl rfl kR fun w hw => ?_;refine z4 ?_;refine lD (v := iQ mk.2.1) aD hw ?_;refine z2 ?_;refine aS rfl (fun h6 => ?_) fun h6 => ?_
  ·
   rw [ah h6] at X9;have hme : mk.2.2 = Y := by rw [GR] at h6 ⊢; exact Ss h6
   rw [hme] at hw;refine zL ?_;refine bu [0, 1, 2, 3] bK kR ?_;replace hw := hw.drawn (w.drawn + 1);refine lA (l := [.slice GC key.length Kv, nQ, iQ mk.1, iQ value.length]) aI hw ?_;refine lD (v := iQ mk.2.1) aD hw ?_;refine vz (cs := [.slice GC key.length Kv, nQ, iQ mk.1, iQ value.length]) (l' := [.slice GC key.length Kv, nQ, iQ mk.1, iQ value.length]) rfl tV rfl rfl aI rfl (by intro u hu; simp at hu; rcases hu with rfl | rfl | rfl | rfl <;> rfl) hw pK sM rfl (fun w hw q' hq => ?_) (fun w hw => ?_)
   ·
    have hq := a9 (l := [1]) kR hq;simp only [bB, cW, or_false] at hq;subst hq;exact aV rfl rfl rfl (aj.bx (v := iQ mk.2.1) aD hw pK rfl)
   refine bS (l' := [iQ mk.2.1]) rfl tV rfl rfl aD rfl hw pK rfl rfl kR fun w hw => ?_;refine z2 ?_;have hz := hw.b [aZ vq Y, ag b7 _ _, ag b3 _ _, ag b8 _ _, ag b6 _ _];refine bX rfl ?_;refine tY tu (uS hz SK oM (by unfold Va.mark at *; omega) rfl) (fun v w hv => ?_);obtain ⟨-, hw⟩ := hv.resolve_right (fun h => h6 h.1);rw [show (Y.mark - V.mark).toNat = j by omega, hyp] at hw;have e : cN V key value = (mk.2.1, zF, V) := by rw [gD, X9]; exact ah h6
   refine y6 rfl ⟨_, rfl, (aj.cw (l := [nQ, nQ, iQ 0, iQ 0]) aI hw pK rfl)⟩ ⟨_, rfl, (aj.bx (v := iQ mk.2.1) aD hw pK rfl)⟩ ⟨⟨zF, nQ, nQ⟩, by rw [e]; rfl, by rw [e], ?_⟩;rw [e]; exact XM (hw.b [ag b7 _ _, ag b6 _ _, ag b3 _ _, ag b8 _ _, row 5 1 (.slice GC _ _) _ _]).tail.tail.tail.tail.tail
  have h6 : mk.2.1 = 0 := cJ.1 h6;rw [ae oM] at X9;rw [h6] at hw
  obtain ⟨Dk, nA, hm3⟩ := Sr (V := Y) (p := ⟨3, 0, [], iH value k, child⟩) SK (by rw [<-GR]; exact h6);rw [<-GR] at Dk nA hm3;refine z5 ?_;have Hc : ((k * 480 : Nat) : Int) = ((min value.length (k * 480) : Nat) : Int) := oM;rw [Hc];have hz := hw.b [ag b8 _ _, row 5 1 (.slice GC _ _) _ _, ag b7 _ _, ag b6 _ _, ag b3 _ _, aZ vq _];exact ⟨k + 1, oM, [(1000000000, _), (2, _), (3, _), (6, _), (7, _), (8, _), (9, iQ ((min value.length (k * 480) : Nat) : Int))], sB, k, j + 1, mk.2.2, mk.1, rfl, rfl, ⟨hmo, by show mk.2.2.pop.popN j = V; rw [Dk]; exact hyp, oM, by rw [hm3]; exact hyf, oM, oM, X9⟩, hz⟩
 have Yu : k = 0 := oM;subst Yu;rw [fB] at X9;refine z3 ?_;refine lA (l := [.slice GC key.length Kv, nQ, iQ child, iQ value.length]) aI hw ?_;refine aL (cs := [.slice GC key.length Kv, nQ, iQ child, iQ value.length]) (l' := [.slice GC key.length Kv, nQ, iQ child, iQ value.length]) rfl tV rfl rfl aI rfl (by intro u hu; simp at hu; rcases hu with rfl | rfl | rfl | rfl <;> rfl) hw pK sM rfl rfl (fun w hw => ?_);refine bS (l' := [iQ 0]) rfl tV rfl rfl aD rfl hw pK rfl rfl rfl fun w hw => ?_;refine z2 ?_;have hz := hw.b [aZ vq Y, ag b7 _ _, ag b3 _ _, ag b8 _ _, ag b6 _ _];refine bX rfl ?_;refine tY tu (uS hz SK oM (by unfold Va.mark at *; omega) rfl) (fun v w hv => ?_);obtain ⟨-, hw⟩ := hv.resolve_left (fun h => h.1 rfl);have e : cN V key value = (0, ⟨key, [], child, value.length⟩, Y) := by rw [gD, X9]; rfl
 refine y6 rfl ⟨_, rfl, (aj.cw (l := [.slice GC key.length Kv, nQ, iQ child, iQ value.length]) aI hw pK rfl)⟩ ⟨_, rfl, (aj.bx (v := iQ 0) aD hw pK rfl)⟩ ⟨⟨⟨key, [], child, value.length⟩, .slice GC key.length Kv, nQ⟩, by rw [e]; rfl, by rw [e], ?_⟩;rw [e];have hz := (hw.b [ag b7 _ _, ag b6 _ _, ag b3 _ _, ag b8 _ _, row 5 1 (.slice GC _ _) _ _]).tail.tail.tail.tail;have hz := (cf hz 5 1).b [row 5 1 (.slice GC _ _) _ _, row 5 1 (nQ) 0 []];exact ar.bH (M := bn _) hz
end
structure Lt (V : Va) (k : Nat) (Y : Va) : Prop where
 ok : Y.Ok
 sz : Y.sz <= V.sz + k
 vf : Y.vf = V.vf
 pop : ∃ j, Y.va.length = V.va.length + j /\ Y.popN j = V
theorem Lt.refl {V : Va} (h : V.Ok) : Lt V 0 V := ⟨h, by simp, rfl, 0, rfl, rfl⟩
theorem Lt.mono {V Y : Va} {k j : Nat} (h : Lt V k Y) (hj : k <= j) : Lt V j Y := ⟨h.ok, by have := h.sz; omega, h.vf, h.pop⟩
theorem Lj : ∀ (i j : Nat) (V : Va), V.popN (i + j) = (V.popN i).popN j
 | 0, j, V => by simp [Va.popN]
 | i + 1, j, V => by
  rw [show i + 1 + j = (i + j) + 1 by omega]
  show V.pop.popN (i + j) = (V.pop.popN i).popN j
  exact Lj i j V.pop
theorem Lt.trans {V Y Z : Va} {k j : Nat} (h : Lt V k Y) (h' : Lt Y j Z) : Lt V (k + j) Z := by
 obtain ⟨a, h1, h2⟩ := h.pop;obtain ⟨b, h3, h4⟩ := h'.pop;exact ⟨h'.ok, by have := h.sz; have := h'.sz; omega, h'.vf.trans h.vf, b + a, oM, by rw [Lj, h4, h2]⟩
theorem Lt.done {V : Va} {k : Nat} {x : Vw} (aJ : V.Ok) (h : Wk V k x) (ht : Wt x) (hk : k <= 1000000000000) : Lt V (k + 1) (V.done x) :=
 ⟨h.D5 aJ ht hk, by have := h.sz; omega, h.g.vf, 1, by show (x.v.va ++ [_]).length = _; rw [cj, h.g.va]; rfl, Va.F2 h.g⟩
theorem Lt.GX {V Y : Va} {k : Nat} (h : Lt V k Y) : Y.popN (Y.mark - V.mark).toNat = V /\ Y.vf <= V.mark /\ V.mark <= Y.mark := by
 obtain ⟨j, h1, h2⟩ := h.pop;have h3 := h.vf;have : Y.mark = V.mark + j := by unfold Va.mark; omega
 refine ⟨by rw [show (Y.mark - V.mark).toNat = j by omega]; exact h2, by unfold Va.mark; omega, oM⟩
theorem Lt.make {V : Va} (aJ : V.Ok) (p : Pg) : Lt V 3 (V.make p).2.2 := by
 unfold Va.make
 by_cases hc : bD p = 0
 ·rw [ae (fun h => h hc)];cases hl : V.po.low with
  | none => exact (Lt.refl aJ).mono oM
  | some n => exact Lt.done aJ (vR aJ hl) (Nn aJ hl hc) dM
 rw [ah hc]; exact (Lt.refl aJ).mono oM
theorem Lt.write {V : Va} (aJ : V.Ok) (n : Int) (p : Pg) : Lt V 2 (V.write n p).2 := by
 unfold Va.write;split
 ·exact (Lt.refl aJ).mono oM
 by_cases hc : bD p = 0
 ·rw [ae (fun h => h hc)];exact Lt.done aJ (Xh aJ) ((Wt.refl aJ.toKm).abq n hc) dM
 rw [ah hc]; exact (Lt.refl aJ).mono oM
theorem Lt.aO {V : Va} (aJ : V.Ok) (n : Int) : Lt V 13 (V.aO n).2.2 := by
 unfold Va.aO;split
 ·exact (Lt.refl aJ).mono oM
 rename_i h0;split
 ·exact (Lt.refl aJ).mono oM
 cases hl : V.po.low with
 | none => exact (Lt.refl aJ).mono oM
 | some m =>
  simp only;split
  ·exact (Lt.refl aJ).mono oM
  exact Lt.done aJ (Va.H0 aJ hl) ((Nn aJ hl (EF aJ.toKm h0)).leave (vR aJ hl).ok n) dM
def cY (V : Va) (n : Int) : Va × Int × bN × Int :=
 match V.rd n with
 | none => (V, 0, [], 15)
 | some p => if p.items.length < 8 then (V, 0, [], 0) else match nk p with
  | none => (V, 0, [], 5)
  | some (l, r, sep) => if (V.make r).2.1 ≠ 0 then ((V.make r).2.2, 0, [], (V.make r).2.1) else (((V.make r).2.2.write n l).2, (V.make r).1, sep, ((V.make r).2.2.write n l).1)
def fS (V : Va) (T : Tr) : Va × Tr × Int × Int :=
 if (V.aO T.root).2.1 ≠ 0 then ((V.aO T.root).2.2, T, 0, (V.aO T.root).2.1) else
 let n := (V.aO T.root).1
 let h := cY (V.aO T.root).2.2 n
 if h.2.2.2 ≠ 0 \/ h.2.1 = 0 then (h.1, ⟨n, T.aK, T.items⟩, n, h.2.2.2) else
 let m := h.1.make ⟨2, T.aK, [⟨[], [], n, 0⟩, ⟨h.2.2.1, [], h.2.1, 0⟩], [], 0⟩
 (m.2.2, ⟨m.1, T.aK + 1, T.items⟩, m.1, m.2.1)
def aP (l : List It) (k : Nat) (c : Int) : List It := l.modify k (fun x => { x with child := c })
def kC (V : Va) (n : Int) (p : Pg) (key : bN) : Va × Int × Int :=
 let at_ := de key p.items
 if p.items.length <= at_ then (V, 0, 5) else
 let s := V.aO (bh p.items at_)
 if s.2.1 ≠ 0 then (s.2.2, 0, s.2.1) else
 let p1 : Pg := { p with items := aP p.items at_ s.1 }
 let h := cY s.2.2 s.1
 if h.2.2.2 ≠ 0 then (h.1, 0, h.2.2.2) else
 if h.2.1 ≠ 0 /\ ¬ (at_ + 1 <= p1.items.length /\ p1.items.length < 8) then (h.1, 0, 5) else
 let p2 : Pg := if h.2.1 ≠ 0 then { p1 with items := p1.items.take (at_ + 1) ++ [⟨h.2.2.1, [], h.2.1, 0⟩] ++ p1.items.drop (at_ + 1) } else p1
 let w := h.1.write n p2
 (w.2, if w.1 ≠ 0 then 0 else bh p2.items (de key p2.items), w.1)
def Ch (new : It) (V : Va) (T : Tr) (n : Int) (p : Pg) : Va × Tr × Int :=
 let at_ := (dw new.key p.items 0).1
 if ¬ (at_ <= p.items.length /\ p.items.length < 8) then (V, T, 5) else
 let w := V.write n { p with items := p.items.take at_ ++ [new] ++ p.items.drop at_ }
 (w.2, ⟨T.root, T.aK, T.items + 1⟩, w.1)
def Ae (key : bN) (leaf : Va -> Tr -> Int -> Pg -> Va × Tr × Int) : Nat -> Va -> Tr -> Int -> Option (Va × Tr × Int)
 | 0, _, _, _ => none
 | f + 1, V, T, n => match V.rd n with
  | none => some (V, T, 15)
  | some p => if ¬ p.kind = 2 then some (leaf V T n p) else
   if (kC V n p key).2.2 ≠ 0 then some ((kC V n p key).1, T, (kC V n p key).2.2) else Ae key leaf f (kC V n p key).1 T (kC V n p key).2.1
def Bz (new : It) (leaf : Va -> Tr -> Int -> Pg -> Va × Tr × Int) (f : Nat) (V : Va) (T : Tr) : Option (Va × Tr × Int) :=
 if T.root = 0 then some ((V.make ⟨1, 0, [new], [], 0⟩).2.2, ⟨(V.make ⟨1, 0, [new], [], 0⟩).1, 1, 1⟩, (V.make ⟨1, 0, [new], [], 0⟩).2.1) else
 if (fS V T).2.2.2 ≠ 0 then some ((fS V T).1, (fS V T).2.1, (fS V T).2.2.2) else Ae new.key leaf f (fS V T).1 (fS V T).2.1 (fS V T).2.2.1
theorem Lt.half {V : Va} (aJ : V.Ok) (n : Int) : Lt V 5 (cY V n).1 := by
 unfold cY;split
 ·exact (Lt.refl aJ).mono oM
 split
 ·exact (Lt.refl aJ).mono oM
 split
 ·exact (Lt.refl aJ).mono oM
 rename_i l r sep _;have hm := Lt.make aJ r;split
 ·exact hm.mono oM
 exact hm.trans (Lt.write hm.ok n l)
theorem Lt.root {V : Va} (aJ : V.Ok) (T : Tr) : Lt V 21 (fS V T).1 := by
 unfold fS;have hs := Lt.aO aJ T.root;split
 ·exact hs.mono oM
 have hh := hs.trans (Lt.half hs.ok (V.aO T.root).1);simp only;split
 ·exact hh.mono oM
 exact hh.trans (Lt.make hh.ok _)
theorem Lt.down {V : Va} (aJ : V.Ok) (n : Int) (p : Pg) (key : bN) : Lt V 20 (kC V n p key).1 := by
 unfold kC;simp only;split
 ·exact (Lt.refl aJ).mono oM
 have hs := Lt.aO aJ (bh p.items (de key p.items));split
 ·exact hs.mono oM
 have hh := hs.trans (Lt.half hs.ok (V.aO (bh p.items (de key p.items))).1);split
 ·exact hh.mono oM
 split
 ·exact hh.mono oM
 exact hh.trans (Lt.write hh.ok n _)
theorem Lt.add {V : Va} (aJ : V.Ok) (new : It) (T : Tr) (n : Int) (p : Pg) : Lt V 2 (Ch new V T n p).1 := by
 unfold Ch;simp only;split
 ·exact (Lt.refl aJ).mono oM
 exact Lt.write aJ n _
theorem Er {V : Va} (aJ : V.Ok) (key value : bN) : Lt V 24 (cN V key value).2.2 := by
 have hg : ∀ (k : Nat) (Y : Va) (child : Int), Y.Ok -> Lt Y (3 * k) (fB value k Y child).2.2 := by
  intro k
  induction k with
  | zero => intro Y child hy; exact Lt.refl hy
  | succ k ih =>
   intro Y child hy;rw [fB];split
   ·exact (Lt.refl hy).mono oM
   have hm := Lt.make hy ⟨3, 0, [], iH value k, child⟩;exact (hm.trans (ih _ _ hm.ok)).mono oM
 unfold cN;split
 ·exact (Lt.refl aJ).mono oM
 split
 ·exact (Lt.refl aJ).mono oM
 split
 ·exact (Lt.refl aJ).mono oM
 split
 ·exact (Lt.refl aJ).mono oM
 exact (hg _ _ _ aJ).mono oM
def yU (vq : Nat) (T : Tr) (x : bT) (was : Bool) : List Value := [pQ vq, iQ T.root, iQ T.aK, iQ T.items, x.kv, x.vv, iQ x.it.child, iQ x.it.size, .bool was]
theorem bm.Sm.form {p : bm} (h : p.Sm) {G : Gh} {L R : List az} {w : World} (hw : ar G L w) (hp : dg (aR p) L R) : ∃ ia ic, p.s = .slice ia p.l.length ic := by
 obtain ⟨a, c, h1, _⟩ := ((aB h (L := [aR p]) .here).its.sl.at (hw.pick hp).head).form;rw [bA] at h1;exact ⟨a, c, h1⟩
theorem Db {L : List az} : aX L (kL (nQ) []) := fun _ _ _ => .inl ⟨⟨none, rfl⟩, rfl⟩
theorem KP {z b T : Nat} {rs : List (List Value)} (hr : ∀ r ∈ rs, r.length = z) : aX [ag b rs.flatten T] (gC z (sQ b rs.length rs.length) rs) := fun g w hw =>
 .inr ⟨b, 0, rs.length, rfl, eW _, hr, by have := Rd.gN (o := 0) hw .here; simpa using this⟩
theorem zb {p : Pg} (h : bD p = 0) : ∀ x ∈ p.items, x.key.length <= 24 := by
 have key : ∀ (l : List It) (i : Nat) (dp : bN), ir p.kind i dp l = 0 -> ∀ x ∈ l, x.key.length <= 24 := by
  intro l
  induction l with
  | nil => intro i dp _ x hx; cases hx
  | cons y l ih =>
   intro i dp he x hx;simp only [ir, bZ] at he;rcases bB.1 hx with rfl | hx
   ·have h1 := he.1;unfold uM at h1;simp only [bZ] at h1
    have h2 := h1.1;unfold ub at h2;split at h2
    ·have := (gz dM).1 h2; omega
    have := (gz dM).1 h2; omega
   exact ih _ _ he.2 x hx
 unfold bD at h;simp only [bZ] at h
 exact key p.items 0 [] h.2.1
theorem CI {l : List It} (h : ∀ x ∈ l, x.key.length <= 24) (k : Nat) : bz (jU l k) := by
 unfold jU bz;cases hx : l[k]? with
 | none => simp
 | some x => have := h x (ed hx); simp; omega
theorem yD {a b s : bN} (h : kF a b = some s) (hb : bz b) : bz s := by
 unfold kF at h;unfold bz at hb ⊢
 have := zt a b;split at h
 ·cases h
 split at h
 ·cases h
 split at h <;> (cases h; simp only [cj, fK, jt]; omega)
theorem kZ.front {M : List az} {s : Value} {l : List bT} (h : kZ M s l) (R : List az) : kZ (M ++ R) s l := by
 have k : ∀ {p : World -> Prop}, aX M p -> aX (M ++ R) p := fun k g w hw => k g w (by
  have h1 : ar g (aT M :: R) w := ar.bH hw;have h2 := h1.head.cD
  rwa [my] at h2)
 exact ⟨k h.sl, fun x hx => ⟨k (h.it x hx).k, k (h.it x hx).v, (h.it x hx).sk, (h.it x hx).sv⟩, h.len⟩
theorem bm.Ok.front {M : List az} {p : bm} (h : p.Ok M) (R : List az) : p.Ok (M ++ R) :=
 ⟨h.its.front R, fun g w hw => h.data g w (by
  have h1 : ar g (aT M :: R) w := ar.bH hw;have h2 := h1.head.cD
  rwa [my] at h2), h.sd⟩
theorem L6 {V : Va} (aJ : V.Ok) (n : Int) : bz (cY V n).2.2.1 := by
 unfold cY;split
 ·unfold bz; simp
 split
 ·unfold bz; simp
 split
 ·unfold bz; simp
 rename_i p hr _ _ l r sep tC;split
 ·unfold bz; simp
 have tD := Va.vL aJ hr;have hk := zb tD;unfold nk at tC;split at tC
 ·cases tC
 unfold jz at tC;split at tC
 ·simp only [Option.some.injEq, Prod.mk.injEq] at tC;rw [<-tC.2.2];exact CI hk _
 split at tC
 ·cases tC
 rename_i s hb;simp only [Option.some.injEq, Prod.mk.injEq] at tC;rw [<-tC.2.2];exact yD hb (CI hk _)
section
variable {G : Gh} {L R : List az} {w : World}
theorem qL {vq xq : Nat} {V : Va} {T : Tr} {x : bT} {was : Bool} {n : Int} (hw : ar G (aZ vq V :: ag xq (yU vq T x was) 116 :: L) w) (aJ : V.Ok) (dm : V.sz <= 999999999990) :
  Calls prog 149 #[pQ xq, iQ n] w (dv fun r w' => ∃ sv, r = .tuple #[iQ (cY V n).2.1, sv, iQ (cY V n).2.2.2] /\ ar G (row 5 1 sv (cY V n).2.2.1.length (dV (cY V n).2.2.1) :: aZ vq (cY V n).1 :: ag xq (yU vq T x was) 116 :: L) w') := by
 refine al (args := [_, _]) func149 rfl ntmps149 rfl rfl ?_;refine Oc ?_;refine lD (v := pQ vq) au hw ?_;refine z1 ?_;refine an rfl cu rfl (fO (n := n) hw aJ) rfl fun w v20 hv => ?_;obtain ⟨p', er, A, rfl, kP, iu, hw⟩ := hv;have hsf : ∃ ia ic, p'.s = .slice ia p'.l.length ic /\ p'.l.length <= 1000000000000000 := by
  rcases iu with ⟨_, _, rfl, _⟩ | ⟨_, _, rfl, ft⟩
  ·exact ⟨none, 0, rfl, by decide⟩
  obtain ⟨a, c, h⟩ := ft.form hw .here;exact ⟨a, c, h, by have := ft.len; omega⟩
 obtain ⟨ia, ic, hs, oW⟩ := hsf;have kA : p'.pg.items.length = p'.l.length := by simp [bm.pg]
 refine z3 ?_;refine aN rfl bf hw rfl fun w b7 hw => ?_;refine aL (cs := p'.cells) (l' := p'.cells) rfl tV rfl rfl ad rfl kP hw pK (by simp [bm.cells]) rfl rfl fun w hw => ?_;refine z8 ?_;refine bY (l1 := [3, 4, 5, 6, 7]) (l2 := []) rfl (d := 30) (er ≠ 0 \/ (p'.l.length : Int) < 8) rfl ?_ ?_
 ·
  refine aE (d := 25) rfl (fun h1 => ?_) fun h1 => ?_
  ·
   refine z6 ?_;refine cQ ?_;exact dC
  refine z1 ?_;refine bt rfl rfl (aj.bx (v := .slice ia p'.l.length ic) ao hw pK (by rw [<-hs]; rfl)) ?_;refine dQ rfl kR aG rfl ?_;refine z3 ?_;refine cQ ?_;exact dC
 refine aH ?_;refine aS rfl (fun h2 => ?_) fun h2 => ?_
 ·
  refine z8 ?_;exact xQ rfl rfl rfl rfl rfl (by
 rcases iu with ⟨hr, rfl, rfl, rfl⟩ | ⟨hr, rfl, rfl, ft⟩
 ·have e : cY V n = (V, 0, [], 15) := by unfold cY; rw [hr]
  rw [e];exact ⟨_, rfl, cf (hw.b [ag b7 _ _, aT _]).tail.tail _ _⟩
 ·have e : cY V n = (V, 0, [], 0) := by
   unfold cY; rw [hr]; simp only; rw [ah oM]
  rw [e];exact ⟨_, rfl, cf (hw.b [ag b7 _ _, aR p']).tail.tail _ _⟩)
 obtain ⟨hr, rfl, rfl, ft⟩ := iu.resolve_left (fun h => by have := h.2.1; omega);have hl8 : ¬ p'.pg.items.length < 8 := oM;refine z3 ?_;refine lA (l := p'.cells) ad hw ?_;refine an rfl Gr rfl (HC (p := p') hw (aB ft pK)) rfl fun w Zi hv => ?_;have Iy : ∃ (pl pr : bm) (sv : Value) (bo : Bool) (s : bN) (A : az), Zi = .tuple #[gQ pl.cells, gQ pr.cells, sv, .bool bo] /\ jN pl.cells /\ jN pr.cells ∧
   ((nk p'.pg = none /\ bo = false /\ A = aT []) \/ (nk p'.pg = some (pl.pg, pr.pg, s) /\ bo = true /\ pl.Sm /\ pr.Sm /\ A = aT [aR pl, aR pr, row 5 1 sv s.length (dV s)])) ∧
   ar G (A :: ag b7 p'.cells 75 :: aR p' :: aZ vq V :: ag xq (yU vq T x was) 116 :: L) w := by
  rcases hv with ⟨h3, h4, h5⟩ | ⟨pl, pr, s, sv, h3, h4, h5, h6, h7⟩
  ·exact ⟨bI, bI, nQ, false, [], aT [], h4, bF, bF, .inl ⟨h3, rfl, rfl⟩, ar.bH (M := []) h5⟩
  exact ⟨pl, pr, sv, true, s, _, h4, cF (aB h5 pK) h7, cF (aB h6 pK) h7, .inr ⟨h3, rfl, h5, h6, rfl⟩, ar.bH (M := [aR pl, aR pr, row 5 1 sv s.length (dV s)]) h7⟩
 obtain ⟨pl, pr, sv, bo, s, A, rfl, MT, JP, iu, hw⟩ := Iy;refine z5 ?_;refine aN rfl bf hw rfl fun w b9 hw => ?_;refine aN rfl bf hw rfl fun w qk hw => ?_;refine aL (cs := pl.cells) (l' := pl.cells) rfl tV rfl rfl ad rfl MT hw pK (by simp [bm.cells]) rfl rfl fun w hw => ?_;refine aL (cs := pr.cells) (l' := pr.cells) rfl tV rfl rfl ad rfl JP hw pK (by simp [bm.cells]) rfl rfl fun w hw => ?_;refine z7 ?_;refine nY rfl rfl ?_;refine aH ?_;refine fm rfl (fun h3 => ?_) fun h3 => ?_
 ·
  refine z7 ?_;exact xQ rfl rfl rfl rfl rfl (by
 obtain ⟨tC, rfl, rfl⟩ := iu.resolve_right (fun h => by rw [h.2.1] at h3; simp at h3);have e : cY V n = (V, 0, [], 5) := by unfold cY; rw [hr]; simp only; rw [ae hl8, tC]
 rw [e];exact ⟨_, rfl, cf (hw.b [ag qk _ _, ag b9 _ _, aT _, ag b7 _ _, aR p']).tail.tail.tail.tail.tail _ _⟩)
 obtain ⟨tC, rfl, kO, hsr, rfl⟩ := iu.resolve_left (fun h => by rw [h.2.1] at h3; simp at h3);have hz := (hw.b [aT [aR pl, aR pr, row 5 1 sv s.length (dV s)]]).cD;simp only [j4, jG] at hz;clear hw;have hw := hz;clear hz;have e : cY V n = if (V.make pr.pg).2.1 ≠ 0 then ((V.make pr.pg).2.2, 0, [], (V.make pr.pg).2.1) else (((V.make pr.pg).2.2.write n pl.pg).2, (V.make pr.pg).1, s, ((V.make pr.pg).2.2.write n pl.pg).1) := by unfold cY; rw [hr]; simp only; rw [ae hl8, tC]
 refine z2 ?_;refine bu [0, 1, 2, 3, 4, 5, 6, 7, 8, 9, 10] bK kR ?_;replace hw := hw.drawn (w.drawn + 1);refine z3 ?_;refine lD (v := pQ vq) au hw ?_;refine lA (l := pr.cells) ad hw ?_;refine an rfl iT rfl (jA (p := pr) (hw.b [aZ vq V, aR pl, aR pr]) (aB hsr pK) aJ oM) kR fun w v47 hv => ?_;obtain ⟨rfl, hw⟩ := hv;refine KA ?_;refine aS rfl (fun h4 => ?_) fun h4 => ?_
 ·
  refine z8 ?_;exact xQ rfl rfl rfl rfl rfl (by
 rw [ah h4] at e;rw [e];exact ⟨_, rfl, cf (hw.b [aR pl, aR pr, row 5 1 sv _ _, ag qk _ _, ag b9 _ _, ag b7 _ _, aR p']).tail.tail.tail.tail.tail.tail.tail _ _⟩)
 have hm := Lt.make aJ pr.pg;have T7 := hm.sz;have hmo := hm.ok;rw [ae h4] at e;refine z2 ?_;refine bu [0, 1, 2, 3, 4, 5, 6, 7, 8, 9, 10, 11] bK kR ?_;replace hw := hw.drawn (w.drawn + 1);refine z5 ?_;refine lD (v := pQ vq) au hw ?_;refine z1 ?_;refine lA (l := pl.cells) ad hw ?_;refine an rfl fU rfl (gA (p := pl) (n := n) (hw.b [aZ vq _, aR pl]) (aB kO pK) hmo oM) kR fun w v61 hv => ?_;obtain ⟨rfl, hw⟩ := hv;refine z5 ?_;exact xQ rfl rfl rfl rfl rfl (by
 rw [e];exact ⟨_, rfl, (hw.b [aR pl, aR pr, ag qk _ _, ag b9 _ _, ag b7 _ _, aR p', row 5 1 sv _ _]).tail.tail.tail.tail.tail.tail⟩)
theorem zl {vq xq : Nat} {V : Va} {T : Tr} {x : bT} {was : Bool} (hw : ar G (aZ vq V :: ag xq (yU vq T x was) 116 :: L) w) (aJ : V.Ok) (dm : V.sz <= 999999999900) (hh : 0 <= T.aK /\ T.aK <= 1000000) :
  Calls prog 89 #[pQ xq] w (dv fun r w' => r = .tuple #[iQ (fS V T).2.2.1, iQ (fS V T).2.2.2] /\ ar G (aZ vq (fS V T).1 :: ag xq (yU vq (fS V T).2.1 x was) 116 :: L) w') := by
 refine al (args := [_]) func89 rfl ntmps89 rfl rfl ?_;refine z6 ?_;refine bu [0, 1, 2, 3, 4, 5, 6, 7, 8, 9, 10, 11, 12, 13, 14] bK kR ?_;replace hw := hw.drawn (w.drawn + 1);refine z3 ?_;refine lD (v := pQ vq) au hw ?_;refine z3 ?_;refine cy rfl jg rfl ?_;refine lD (v := iQ T.root) ai hw ?_;refine an rfl ke rfl (kQ (n := T.root) hw aJ oM) kR fun w RD hv => ?_;obtain ⟨rfl, hw⟩ := hv;have hs := Lt.aO aJ T.root;have T0 := hs.sz;have q8 := hs.ok;refine KA ?_;refine aS rfl (fun h1 => ?_) fun h1 => ?_
 ·
  refine z7 ?_;exact eK rfl rfl rfl rfl (by
 have e : fS V T = ((V.aO T.root).2.2, T, 0, (V.aO T.root).2.1) := by unfold fS; rw [ah h1]
 rw [e];exact ⟨rfl, hw⟩)
 obtain ⟨n, hn⟩ : ∃ n, n = (V.aO T.root).1 := ⟨_, rfl⟩;obtain ⟨V1, Dl⟩ : ∃ V1, V1 = (V.aO T.root).2.2 := ⟨_, rfl⟩;rw [<-hn];rw [<-Dl] at hw T0 q8;have e : fS V T = if (cY V1 n).2.2.2 ≠ 0 \/ (cY V1 n).2.1 = 0 then ((cY V1 n).1, ⟨n, T.aK, T.items⟩, n, (cY V1 n).2.2.2) else
   (((cY V1 n).1.make ⟨2, T.aK, [⟨[], [], n, 0⟩, ⟨(cY V1 n).2.2.1, [], (cY V1 n).2.1, 0⟩], [], 0⟩).2.2, ⟨((cY V1 n).1.make ⟨2, T.aK, [⟨[], [], n, 0⟩, ⟨(cY V1 n).2.2.1, [], (cY V1 n).2.1, 0⟩], [], 0⟩).1, T.aK + 1, T.items⟩, ((cY V1 n).1.make ⟨2, T.aK, [⟨[], [], n, 0⟩, ⟨(cY V1 n).2.2.1, [], (cY V1 n).2.1, 0⟩], [], 0⟩).1, ((cY V1 n).1.make ⟨2, T.aK, [⟨[], [], n, 0⟩, ⟨(cY V1 n).2.2.1, [], (cY V1 n).2.1, 0⟩], [], 0⟩).2.1) := by
  unfold fS; rw [ae h1, <-hn, <-Dl]
 refine z7 ?_;refine cy rfl jg rfl ?_;refine bS (l' := yU vq ⟨n, T.aK, T.items⟩ x was) rfl tV rfl rfl ai rfl hw pK rfl rfl rfl fun w hw => ?_;refine z5 ?_;refine an rfl pW rfl (qL (V := V1) (T := ⟨n, T.aK, T.items⟩) (x := x) (was := was) (n := n) (hw.b [aZ vq V1, ag xq _ _]) q8 oM) rfl fun w v33 hv => ?_;obtain ⟨sv, rfl, hw⟩ := hv;have Qv := Lt.half q8 n;have hhs := Qv.sz;have hho := Qv.ok;obtain ⟨h, Kt⟩ : ∃ h, h = cY V1 n := ⟨_, rfl⟩;have Fg := L6 q8 n;rw [<-Kt] at hw hhs hho e Fg;rw [<-Kt];refine W9 ?_;refine bY (l1 := [3, 4, 5]) (l2 := []) rfl (d := 42) (h.2.2.2 ≠ 0 \/ h.2.1 = 0) rfl ?_ ?_
 ·
  refine aE (d := 39) rfl (fun h2 => ?_) fun h2 => ?_
  ·
   refine z4 ?_;refine cQ ?_;exact dC
  refine z4 ?_;refine cQ ?_;exact dC
 refine aH ?_;refine aS rfl (fun h3 => ?_) fun h3 => ?_
 ·
  refine z8 ?_;exact eK rfl rfl rfl rfl (by
 rw [ah h3] at e;rw [e];exact ⟨rfl, (hw.b [row 5 1 sv _ _]).tail⟩)
 rw [ae h3] at e;obtain ⟨sa, sc, rfl⟩ := aM hw;refine z6 ?_;refine cy rfl oI rfl ?_;refine lD (v := iQ T.aK) ai hw ?_;refine z1 ?_;refine aQ (v := .agg #[nQ, nQ, iQ n, iQ 0]) rfl rfl (fun w => kR) ?_;refine z2 ?_;refine aQ (v := .agg #[.slice sa h.2.2.1.length sc, nQ, iQ h.2.1, iQ 0]) rfl rfl (fun w => kR) ?_;refine Ee (cs := [[nQ, nQ, iQ n, iQ 0], [.slice sa h.2.2.1.length sc, nQ, iQ h.2.1, iQ 0]].flatten) rfl aG aY fV dM rfl kR hw rfl fun w b55 hw => ?_;obtain ⟨tp, Wz⟩ : ∃ tp : bm, tp = ⟨2, T.aK, [⟨⟨[], [], n, 0⟩, nQ, nQ⟩, ⟨⟨h.2.2.1, [], h.2.1, 0⟩, .slice sa h.2.2.1.length sc, nQ⟩], .slice (some ⟨b55, 0, none⟩) 2 2, nQ, [], 0⟩ := ⟨_, rfl⟩;have XX : tp.pg = ⟨2, T.aK, [⟨[], [], n, 0⟩, ⟨h.2.2.1, [], h.2.1, 0⟩], [], 0⟩ := by rw [Wz]; rfl
 have Zu : tp.Ok [ag b55 [[nQ, nQ, iQ n, iQ 0], [.slice sa h.2.2.1.length sc, nQ, iQ h.2.1, iQ 0]].flatten 114, row 5 1 (.slice sa h.2.2.1.length sc) h.2.2.1.length (dV h.2.2.1)] := by
  rw [Wz];refine ⟨⟨?_, fun y hy => ?_, by simp⟩, Db, by unfold bz; simp⟩
  ·exact (KP (rs := [[nQ, nQ, iQ n, iQ 0], [.slice sa h.2.2.1.length sc, nQ, iQ h.2.1, iQ 0]]) (z := 4) (by intro r hr; simp at hr; rcases hr with rfl | rfl <;> rfl)).head _
  simp only [bB, cW, or_false] at hy;rcases hy with rfl | rfl
  ·exact ⟨Db, Db, by unfold bz; simp, by unfold bz; simp⟩
  exact ⟨vH rfl (.there .here), Db, Fg, by unfold bz; simp⟩
 refine aQ (v := gQ tp.cells) rfl rfl (fun w => by rw [Wz]; kernel_rfl) ?_;refine aN rfl bf hw rfl fun w b8 hw => ?_;refine aL (cs := tp.cells) (l' := tp.cells) rfl tV rfl rfl ad rfl (by rw [Wz]; intro u hu; simp [bm.cells] at hu; rcases hu with rfl | rfl | rfl | rfl | rfl <;> rfl) hw pK (by simp [bm.cells]) rfl rfl (fun w hw => ?_);refine z2 ?_;refine bu [0, 1, 2, 3, 4, 5, 6, 7, 8, 9, 10, 11, 12, 13, 14] bK kR ?_;replace hw := hw.drawn (w.drawn + 1);refine z4 ?_;refine lD (v := pQ vq) au hw ?_;refine lA (l := tp.cells) ad hw ?_;refine an rfl iT rfl (jA (p := tp) (hw.b [aZ vq h.1, ag b55 _ _, row 5 1 (.slice sa _ _) _ _]) (Zu.front _) hho oM) kR fun w v64 hv => ?_;rw [XX] at hv;obtain ⟨rfl, hw⟩ := hv;obtain ⟨mk, GR⟩ : ∃ mk, mk = h.1.make ⟨2, T.aK, [⟨[], [], n, 0⟩, ⟨h.2.2.1, [], h.2.1, 0⟩], [], 0⟩ := ⟨_, rfl⟩;rw [<-GR] at hw e
 rw [<-GR];refine z5 ?_;refine cy rfl jg rfl ?_;refine bS (l' := yU vq ⟨mk.1, T.aK, T.items⟩ x was) rfl tV rfl rfl ai rfl hw pK rfl rfl kR fun w hw => ?_;refine z7 ?_;refine cy rfl oI rfl ?_;refine lD (v := iQ T.aK) ai hw ?_;refine z3 ?_;refine cy rfl oI rfl ?_;refine bS (l' := yU vq ⟨mk.1, T.aK + 1, T.items⟩ x was) rfl tV rfl rfl ai rfl hw pK rfl rfl rfl fun w hw => ?_;refine z6 ?_;refine cy rfl jg rfl ?_;refine lD (v := iQ mk.1) ai hw ?_;refine z5 ?_;exact eK rfl rfl rfl rfl (by
 rw [e];exact ⟨rfl, (hw.b [ag b8 _ _, ag b55 _ _, row 5 1 (.slice sa _ _) _ _, aZ vq _, ag xq _ _]).tail.tail.tail⟩)
end
theorem gS : ∀ {l : List It} {k : Nat} {x : It} (c : Int), l[k]? = some x -> aP l k c = l.set k { x with child := c }
 | [], k, x, c, h => by simp at h
 | y :: l, 0, x, c, h => by simp at h; subst h; rfl
 | y :: l, k + 1, x, c, h => by
  have ih := gS (l := l) (k := k) (x := x) c (by simpa using h);unfold aP at ih ⊢;simp only [UJ, PR, ih]
theorem Bo : ∀ {l : List bT} {k : Nat} {x x' : bT}, l[k]? = some x -> bn x' = bn x -> (l.set k x').flatMap bn = l.flatMap bn
 | [], k, x, x', h, _ => by simp at h
 | y :: l, 0, x, x', h, he => by simp at h; subst h; simp [he]
 | y :: l, k + 1, x, x', h, he => by simp only [PR, ku]; rw [Bo (by simpa using h) he]
theorem lB {l : List bT} {k : Nat} {x : bT} (h : l[k]? = some x) : bh (l.map bT.it) k = x.it.child := by unfold bh; rw [dB, h]; rfl
section
variable {G : Gh} {L R : List az} {w : World}
theorem zm {vq xq : Nat} {V : Va} {T : Tr} {x : bT} {was : Bool} {n : Int} {p : bm} (hw : ar G (aZ vq V :: ag xq (yU vq T x was) 116 :: aR p :: L) w) (aJ : V.Ok) (dm : V.sz <= 999999999900) (hx : x.Ok L) (ft : p.Sm) (Yi : p.l.length <= 8) :
  Calls prog 90 #[pQ xq, iQ n, gQ p.cells] w (dv fun r w' => r = .tuple #[iQ (kC V n p.pg x.it.key).2.1, iQ (kC V n p.pg x.it.key).2.2] /\ ar G (aZ vq (kC V n p.pg x.it.key).1 :: ag xq (yU vq T x was) 116 :: L) w') := by
 have kA : p.pg.items.length = p.l.length := by simp [bm.pg]
 obtain ⟨ia, ic, hs⟩ := ft.form hw pK;refine al (args := [_, _, _]) func90 rfl ntmps90 rfl rfl ?_;refine z2 ?_;refine bE rfl rfl rfl hw rfl fun w b5 hw => ?_;refine z4 ?_;refine bu [0, 1, 2, 3, 4, 5, 6, 7] bK kR ?_;replace hw := hw.drawn (w.drawn + 1);refine lA (l := p.cells) ad hw ?_;refine z3 ?_;refine cy rfl cE rfl ?_;refine lD (v := x.kv) ay hw ?_;refine an rfl nO rfl (oK (p := p) hw (aB ft pK) (hx.k.of sF)) kR fun w v20 hv => ?_;obtain ⟨rfl, hw⟩ := hv;obtain ⟨at_, oY⟩ : ∃ a, a = de x.it.key p.pg.items := ⟨_, rfl⟩;rw [<-oY];refine z7 ?_;refine bt rfl rfl (aj.bx (v := .slice ia p.l.length ic) ao hw pK (by rw [<-hs]; rfl)) ?_;refine z3 ?_;refine aS rfl (fun h1 => ?_) fun h1 => ?_
 ·
  refine z6 ?_;exact eK rfl rfl rfl rfl (by
 have e : kC V n p.pg x.it.key = (V, 0, 5) := by unfold kC; simp only; rw [<-oY, ah oM]
 rw [e];exact ⟨rfl, (hw.b [ag b5 _ _, aR p]).tail.tail⟩)
 have YN : at_ < p.l.length := oM;obtain ⟨y, hy⟩ : ∃ y, p.l[at_]? = some y := ⟨_, cV YN⟩;have NB : (p.l.map bT.cells)[at_]? = some y.cells := by rw [dB, hy]; rfl
 have Wx : p.pg.items[at_]? = some y.it := by show (p.l.map bT.it)[_]? = _; rw [dB, hy]; rfl
 have qU : bh p.pg.items at_ = y.it.child := lB hy;have xp : p.Ok [aR p] := aB ft .here;have kO : gC 4 (.slice ia p.l.length ic) (p.l.map bT.cells) w := by rw [<-hs]; exact xp.its.sl.at (hw.pick (A := aR p) pK).head
 obtain ⟨ib, io, Fo⟩ := kO.nn (by rw [bA]; omega);refine z2 ?_;refine bu [0, 1, 2, 3, 4, 5, 6, 7, 8, 9, 10, 11, 12, 13, 14, 15] bK kR ?_;replace hw := hw.drawn (w.drawn + 1);refine z3 ?_;refine lD au hw ?_;refine z1 ?_;refine bt rfl rfl (aj.bx (v := .slice (some ⟨ib, io, none⟩) p.l.length ic) ao hw pK (by rw [<-Fo, <-hs]; rfl)) ?_;refine z1 ?_;refine dD rfl aG aY rfl rfl ⟨oM, oM⟩ ?_;refine cy rfl gm rfl ?_;refine bt rfl rfl (aj.one (v := iQ y.it.child) ai (by
 have kO : gC 4 (.slice (some ⟨ib, io, none⟩) p.l.length ic) (p.l.map bT.cells) w := by rw [<-Fo, <-hs]; exact xp.its.sl.at (hw.pick (A := aR p) pK).head
 exact kO.cell (j := 2) NB rfl)) ?_
 refine an rfl ke rfl (kQ (n := y.it.child) (hw.b [aZ vq V]) aJ oM) kR fun w Zh hv => ?_;obtain ⟨rfl, hw⟩ := hv;have Fh := Lt.aO aJ y.it.child;have T0 := Fh.sz;have q8 := Fh.ok;obtain ⟨s, Ya⟩ : ∃ s, s = V.aO y.it.child := ⟨_, rfl⟩;rw [<-Ya] at hw T0 q8;rw [<-Ya];refine KA ?_;refine aS rfl (fun h2 => ?_) fun h2 => ?_
 ·
  refine z7 ?_;exact eK rfl rfl rfl rfl (by
 have e : kC V n p.pg x.it.key = (s.2.2, 0, s.2.1) := by unfold kC; simp only; rw [<-oY, ae oM, qU, <-Ya, ah h2]
 rw [e];exact ⟨rfl, (hw.b [ag b5 _ _, aR p]).tail.tail⟩)
 rcases p with ⟨kd, lv, pl, psv, pd, XC, XB⟩;simp only at hs kA YN Yi hy;have hz := ar.cD (M := fi _) (hw.b [aR ⟨kd, lv, pl, psv, pd, XC, XB⟩]);simp only [fi, j4, jG] at hz
 clear hw;have hw := hz;clear hz kO;subst hs;obtain ⟨ud, sb, cur, aaT, BQ, yl, gJ, hw⟩ := ij hw oM;obtain ⟨y', hy'⟩ : ∃ y' : bT, y' = ⟨⟨y.it.key, y.it.value, s.1, y.it.size⟩, y.kv, y.vv⟩ := ⟨_, rfl⟩;obtain ⟨p1, Q3⟩ : ∃ p1 : bm, p1 = ⟨kd, lv, pl.set at_ y', .slice ia pl.length ic, pd, XC, XB⟩ := ⟨_, rfl⟩;refine z4 ?_;refine bt rfl rfl (aj.bx (v := .slice (some ⟨sb, 0, none⟩) pl.length ic) ao hw pK (by rw [<-aaT]; rfl)) ?_;refine z2 ?_;refine dD rfl aG aY rfl rfl ⟨oM, oM⟩ ?_;refine cy rfl gm rfl ?_;refine bS (l' := ((pl.set at_ y').map bT.cells).flatten ++ cur) rfl tV rfl rfl ai rfl hw pK (by rw [ga]; exact BM YN oM _) (by rw [hy']; exact E8 hy _) rfl (fun w hw => ?_);have hw := np (m := pl.length) (z := 4) hw (by rw [dk (kX _), bA, qC]) BQ yl (by rw [<-gJ, ga, ga, qC])
 (try unfold sQ at hw); rw [<-aaT] at hw
 have hz := hw.b [row 114 4 _ _ _, aT (pl.flatMap bn), row 5 1 pd _ _];have hz := ar.bH (M := fi p1) (by
    rw [Q3];simp only [fi, qC];rw [Bo hy (x' := y') (by rw [hy']; rfl)];exact hz)
 have aaz : p1.Sm := by
  rw [Q3];exact ⟨by show (pl.set at_ y').length <= _; rw [qC]; omega, fun z hz => by
     rcases Sa hz with hz | hz
     ·exact ft.it z hz
     ·rw [hz, hy']; exact ft.it y (ed hy), ft.sd⟩
 have JS : bm.cells ⟨kd, lv, pl, .slice ia pl.length ic, pd, XC, XB⟩ = p1.cells := by rw [Q3]; rfl
 rw [JS] at hz;have abS : p1.pg = { kind := kd, level := lv, items := aP (pl.map bT.it) at_ s.1, data := XC, next := XB } := by
  rw [Q3, gS s.1 (x := y.it) (by rw [dB, hy]; rfl)];simp only [bm.pg, tS, hy']
 have O3 : p1.l.length = pl.length := by rw [Q3]; simp
 clear hw;have hw : ar G (aR p1 :: _) w := hz;clear hz;refine z5 ?_;refine an rfl pW rfl (qL (V := s.2.2) (T := T) (x := x) (was := was) (n := s.1) (hw.b [aZ vq s.2.2, ag xq _ _]) q8 oM) rfl fun w v52 hv => ?_;obtain ⟨sv, rfl, hw⟩ := hv;have Qv := Lt.half q8 s.1;have hhs := Qv.sz;have hho := Qv.ok;have Fg := L6 q8 s.1;obtain ⟨h, Kt⟩ : ∃ h, h = cY s.2.2 s.1 := ⟨_, rfl⟩;rw [<-Kt] at hw hhs hho Fg;rw [<-Kt];have rf : kC V n ⟨kd, lv, pl.map bT.it, XC, XB⟩ x.it.key = if h.2.2.2 ≠ 0 then (h.1, 0, h.2.2.2) else
   if h.2.1 ≠ 0 /\ ¬ (at_ + 1 <= p1.pg.items.length /\ p1.pg.items.length < 8) then (h.1, 0, 5) else
   ((h.1.write n (if h.2.1 ≠ 0 then { p1.pg with items := p1.pg.items.take (at_ + 1) ++ [⟨h.2.2.1, [], h.2.1, 0⟩] ++ p1.pg.items.drop (at_ + 1) } else p1.pg)).2,
      if (h.1.write n (if h.2.1 ≠ 0 then { p1.pg with items := p1.pg.items.take (at_ + 1) ++ [⟨h.2.2.1, [], h.2.1, 0⟩] ++ p1.pg.items.drop (at_ + 1) } else p1.pg)).1 ≠ 0 then 0 else bh (if h.2.1 ≠ 0 then { p1.pg with items := p1.pg.items.take (at_ + 1) ++ [⟨h.2.2.1, [], h.2.1, 0⟩] ++ p1.pg.items.drop (at_ + 1) } else p1.pg).items (de x.it.key (if h.2.1 ≠ 0 then { p1.pg with items := p1.pg.items.take (at_ + 1) ++ [⟨h.2.2.1, [], h.2.1, 0⟩] ++ p1.pg.items.drop (at_ + 1) } else p1.pg).items),
      (h.1.write n (if h.2.1 ≠ 0 then { p1.pg with items := p1.pg.items.take (at_ + 1) ++ [⟨h.2.2.1, [], h.2.1, 0⟩] ++ p1.pg.items.drop (at_ + 1) } else p1.pg)).1) := by
  have YO : at_ = de x.it.key (pl.map bT.it) := oY;have YH : bh (pl.map bT.it) at_ = y.it.child := qU;unfold kC;simp only;rw [<-YO, ae (by rw [bA]; omega), YH, <-Ya, ae h2, <-Kt, abS]
 obtain ⟨P2, hP2⟩ : ∃ P2 : Pg, P2 = (if h.2.1 ≠ 0 then { p1.pg with items := p1.pg.items.take (at_ + 1) ++ [⟨h.2.2.1, [], h.2.1, 0⟩] ++ p1.pg.items.drop (at_ + 1) } else p1.pg) := ⟨_, rfl⟩
 (try unfold sQ at rf); rw [<-hP2] at rf
 have Q2 : bm.pg ⟨kd, lv, pl, .slice ia pl.length ic, pd, XC, XB⟩ = ⟨kd, lv, pl.map bT.it, XC, XB⟩ := rfl;rw [Q2];have aaE : p1.pg.items.length = p1.l.length := by simp [bm.pg]
 refine W9 ?_;refine aS rfl (fun h3 => ?_) fun h3 => ?_
 ·
  refine z7 ?_;exact eK rfl rfl rfl rfl (by
 rw [ah h3] at rf;rw [rf];exact ⟨rfl, (hw.b [row 5 1 sv _ _, aR p1, ag b5 _ _, aZ vq _, ag xq _ _]).tail.tail.tail⟩)
 rw [ae h3] at rf;obtain ⟨sa, sc, rfl⟩ := aM hw;refine eH ?_;refine mZ (fun e w => (¬ (h.2.1 ≠ 0 /\ ¬ (at_ + 1 <= p1.pg.items.length /\ p1.pg.items.length < 8))) /\ ∃ p2 : bm, e = [(0, pQ xq), (1, iQ n), (5, pQ b5)] /\ (p2.pg = P2 /\ p2.Sm /\ 0 < p2.l.length) /\ ar G (aZ vq h.1 :: ag xq (yU vq T x was) 116 :: ag b5 p2.cells 75 :: aR p2 :: L) w) ?_ ?_
 ·
  refine z5 ?_;refine aS rfl (fun h4 => ?_) fun h4 => ?_
  ·
   refine z6 ?_;refine lA (l := p1.cells) ad hw ?_;refine z4 ?_;refine aQ (v := gQ (bT.cells ⟨⟨h.2.2.1, [], h.2.1, 0⟩, .slice sa h.2.2.1.length sc, nQ⟩)) rfl rfl (fun w => kR) ?_;have Tn : (at_ : Int) + 1 = ((at_ + 1 : Nat) : Int) := oM;rw [Tn];refine an rfl uW rfl (wJ (p := p1) (x := ⟨⟨h.2.2.1, [], h.2.1, 0⟩, .slice sa h.2.2.1.length sc, nQ⟩) (at_ := at_ + 1) hw (aB aaz pK) (sR (hw.pick (A := aR p1) pK)) ⟨vH rfl pK, Db, Fg, by unfold bz; simp⟩) rfl (fun w v68 hv => ?_);have Iy : ∃ (p2 : bm) (bo : Bool) (A : az), v68 = .tuple #[gQ p2.cells, .bool bo] /\ jN p2.cells /\ ((bo = false /\ ¬ (at_ + 1 <= p1.l.length /\ p1.l.length < 8) /\ A = aT []) \/ (bo = true /\ (at_ + 1 <= p1.l.length /\ p1.l.length < 8) /\ A = aR p2 /\ p2.Sm /\ p2.pg = { p1.pg with items := p1.pg.items.take (at_ + 1) ++ [⟨h.2.2.1, [], h.2.1, 0⟩] ++ p1.pg.items.drop (at_ + 1) })) /\ ar G (A :: row 5 1 (.slice sa h.2.2.1.length sc) h.2.2.1.length (dV h.2.2.1) :: aZ vq h.1 :: ag xq (yU vq T x was) 116 :: aR p1 :: ag b5 p1.cells 75 :: L) w := by
    rcases hv with ⟨h5, h6, h7⟩ | ⟨h5, p2, h6, h7, h8, h9⟩
    ·exact ⟨bI, false, aT [], h6, bF, .inl ⟨rfl, h5, rfl⟩, ar.bH (M := []) (h7.b [row 5 1 (.slice sa _ _) _ _, aZ vq _, ag xq _ _, aR p1, ag b5 _ _])⟩
    exact ⟨p2, true, _, h6, cF (aB h8 pK) h9, .inr ⟨rfl, h5, rfl, h8, h7⟩, h9.b [aR p2, row 5 1 (.slice sa _ _) _ _, aZ vq _, ag xq _ _, aR p1, ag b5 _ _]⟩
   obtain ⟨p2, bo, A, rfl, S5, iu, hw⟩ := Iy;refine z3 ?_;refine aL (cs := p2.cells) (l' := p2.cells) rfl tV rfl rfl ad rfl S5 hw pK (by simp [bm.cells]) rfl rfl fun w hw => ?_;refine z5 ?_;refine nY rfl rfl ?_;refine aH ?_;refine fm rfl (fun h5 => ?_) fun h5 => ?_
   ·
    refine z6 ?_;exact eK rfl rfl rfl rfl (by
 obtain ⟨rfl, MU, rfl⟩ := iu.resolve_right (fun h => by rw [h.1] at h5; simp at h5);rw [ah ⟨h4, by rw [aaE]; exact MU⟩] at rf;rw [rf];exact ⟨rfl, (hw.b [ag b5 _ _, aT _, row 5 1 (.slice sa _ _) _ _, aR p1]).tail.tail.tail.tail⟩)
   refine eH ?_;obtain ⟨rfl, XO, rfl, Dj, Ha⟩ := iu.resolve_left (fun h => by rw [h.1] at h5; simp at h5);have aaD : p2.l.length = p2.pg.items.length := by simp [bm.pg]
   exact ⟨[(0, _), (1, _), (5, _)], sB, fun hx => hx.2 (by rw [aaE]; exact XO), p2, rfl, ⟨by rw [hP2, ah h4]; exact Ha, Dj, by rw [aaD, Ha]; simp; omega⟩, (hw.b [row 5 1 (.slice sa _ _) _ _, aR p1, aZ vq _, ag xq _ _, ag b5 _ _, aR p2]).tail.tail⟩
  refine eH ?_;have h4 : h.2.1 = 0 := cJ.1 h4;exact ⟨[(0, _), (1, _), (5, _)], sB, fun hx => hx.1 h4, p1, rfl, ⟨by rw [hP2, ae oM], aaz, oM⟩, (hw.b [row 5 1 (.slice sa _ _) _ _, aZ vq _, ag xq _ _, ag b5 _ _, aR p1]).tail⟩
 clear hw;rintro e w ⟨MU, p2, rfl, ⟨Ha, Dj, adk⟩, hw⟩;rw [ae MU] at rf;have Kq : p2.pg.items = p2.l.map bT.it := rfl;refine z2 ?_;refine bu [0, 1, 2, 3, 4, 5, 6, 7] bK kR ?_;replace hw := hw.drawn (w.drawn + 1);refine z3 ?_;refine lD (v := pQ vq) au hw ?_;refine z1 ?_;refine lA (l := p2.cells) ad hw ?_;refine an rfl fU rfl (gA (p := p2) (n := n) hw (aB Dj pK) hho oM) kR fun w v79 hv => ?_;rw [Ha] at hv
 obtain ⟨rfl, hw⟩ := hv;obtain ⟨wr, SQ⟩ : ∃ wr, wr = h.1.write n P2 := ⟨_, rfl⟩;rw [<-SQ] at hw rf;rw [<-SQ];refine z7 ?_;refine aS rfl (fun h6 => ?_) fun h6 => ?_
 ·
  refine z7 ?_;exact eK rfl rfl rfl rfl (by
 rw [ah h6] at rf;rw [rf];exact ⟨rfl, (hw.b [ag b5 _ _, aR p2]).tail.tail⟩)
 have h6 : wr.1 = 0 := cJ.1 h6;rw [ae oM, h6] at rf;obtain ⟨ja, jc, vw⟩ := Dj.form hw pK;have NI : de x.it.key P2.items < p2.l.length := by
  have h9 : P2.items.length = p2.l.length := by rw [<-Ha]; simp [bm.pg]
  rw [<-h9]; exact H2 oM
 obtain ⟨z, hz⟩ : ∃ z, p2.l[de x.it.key P2.items]? = some z := ⟨_, cV NI⟩;have hzr : (p2.l.map bT.cells)[de x.it.key P2.items]? = some z.cells := by rw [dB, hz]; rfl
 have xo : bh P2.items (de x.it.key P2.items) = z.it.child := by rw [<-Ha]; exact lB (by rw [Ha]; exact hz)
 rw [xo] at rf;have aaB : p2.Ok [aR p2] := aB Dj .here;have adn := Dj.len;have X7 : gC 4 (.slice ja p2.l.length jc) (p2.l.map bT.cells) w := by rw [<-vw]; exact aaB.its.sl.at (hw.pick (A := aR p2) pK).head
 obtain ⟨jb, jo, Vt⟩ := X7.nn (by rw [bA]; omega);refine z2 ?_;refine bu [0, 1, 2, 3, 4, 5, 6, 7, 8, 9, 10, 11, 12, 13] bK kR ?_;replace hw := hw.drawn (w.drawn + 1);refine z1 ?_;refine bt rfl rfl (aj.bx (v := .slice (some ⟨jb, jo, none⟩) p2.l.length jc) ao hw pK (by rw [<-Vt, <-vw]; rfl)) ?_;refine lA (l := p2.cells) ad hw ?_;refine z3 ?_;refine cy rfl cE rfl ?_;refine lD (v := x.kv) ay hw ?_;refine dL rfl nO rfl (oK (p := p2) hw (aB Dj pK) (hx.k.of sF)) (fun w v91 hv q' hq => ?_) fun w v91 hv => ?_
 ·
  obtain ⟨rfl, hw⟩ := hv;have hq := a9 (l := [1]) kR hq;simp only [bB, cW, or_false] at hq;subst hq;exact aV rfl rfl rfl (aj.bx (v := .slice (some ⟨jb, jo, none⟩) p2.l.length jc) ao hw pK (by rw [<-Vt, <-vw]; rfl))
 obtain ⟨rfl, hw⟩ := hv;rw [Ha];refine dD rfl aG aY rfl rfl ⟨oM, oM⟩ ?_;refine cy rfl gm rfl ?_;refine bt rfl rfl (aj.one (v := iQ z.it.child) ai (by
 have kO : gC 4 (.slice (some ⟨jb, jo, none⟩) p2.l.length jc) (p2.l.map bT.cells) w := by rw [<-Vt, <-vw]; exact aaB.its.sl.at (hw.pick (A := aR p2) pK).head
 exact kO.cell (j := 2) hzr rfl)) ?_
 refine z4 ?_;exact eK rfl rfl rfl rfl (by
 rw [rf];exact ⟨rfl, (hw.b [ag b5 _ _, aR p2]).tail.tail⟩)
end
section
variable {G : Gh} {L R : List az} {w : World}
theorem AL {vq xq : Nat} {V : Va} {T : Tr} {x : bT} {was : Bool} {n : Int} {p : bm} (hw : ar G (aZ vq V :: ag xq (yU vq T x was) 116 :: aR p :: L) w) (aJ : V.Ok) (dm : V.sz <= 999999999900) (hx : x.Ok L) (ft : p.Sm) (hT : 0 <= T.items /\ T.items <= 1000000000000) :
  Calls prog 46 #[pQ xq, iQ n, gQ p.cells] w (dv fun r w' => r = iQ (Ch x.it V T n p.pg).2.2 /\ ar G (aZ vq (Ch x.it V T n p.pg).1 :: ag xq (yU vq (Ch x.it V T n p.pg).2.1 x was) 116 :: L) w') := by
 have kA : p.pg.items.length = p.l.length := by simp [bm.pg]
 refine al (args := [_, _, _]) func46 rfl ntmps46 rfl rfl ?_;refine z2 ?_;refine bE rfl rfl rfl hw rfl fun w b5 hw => ?_;refine z3 ?_;refine bu [0, 1, 2, 3, 4, 5, 6, 7, 8, 9, 10, 11] bK kR ?_;replace hw := hw.drawn (w.drawn + 1);refine lA (l := p.cells) ad hw ?_;refine z3 ?_;refine cy rfl cE rfl ?_;refine lD (v := x.kv) ay hw ?_;refine an rfl mo rfl (nG (p := p) hw (aB ft pK) (hx.k.of sF)) kR fun w Xl hv => ?_;obtain ⟨rfl, hw⟩ := hv;obtain ⟨at_, oY⟩ : ∃ a, a = (dw x.it.key p.pg.items 0).1 := ⟨_, rfl⟩;rw [<-oY];have MY : Ch x.it V T n p.pg = if ¬ (at_ <= p.pg.items.length /\ p.pg.items.length < 8) then (V, T, 5) else
   ((V.write n { p.pg with items := p.pg.items.take at_ ++ [x.it] ++ p.pg.items.drop at_ }).2, ⟨T.root, T.aK, T.items + 1⟩, (V.write n { p.pg with items := p.pg.items.take at_ ++ [x.it] ++ p.pg.items.drop at_ }).1) := by
  unfold Ch; rw [<-oY]
 refine z7 ?_;refine bu [0, 1, 2, 3, 4, 5, 6, 7, 8, 9, 10, 11] bK kR ?_;replace hw := hw.drawn (w.drawn + 1);refine lA (l := p.cells) ad hw ?_;refine z4 ?_;refine bt rfl rfl (aj.Kb (cs := x.cells) aI hw pK (by rfl) rfl) ?_;refine an rfl uW rfl (wJ (p := p) (x := x) (at_ := at_) hw (aB ft pK) (sR (hw.pick (A := aR p) pK)) (hx.of sF)) kR fun w Xj hv => ?_;have Iy : ∃ (p2 : bm) (bo : Bool) (A : az), Xj = .tuple #[gQ p2.cells, .bool bo] /\ jN p2.cells /\ ((bo = false /\ ¬ (at_ <= p.l.length /\ p.l.length < 8) /\ A = aT []) \/ (bo = true /\ (at_ <= p.l.length /\ p.l.length < 8) /\ A = aR p2 /\ p2.Sm /\ p2.pg = { p.pg with items := p.pg.items.take at_ ++ [x.it] ++ p.pg.items.drop at_ })) /\ ar G (A :: ag b5 p.cells 75 :: aZ vq V :: ag xq (yU vq T x was) 116 :: aR p :: L) w := by
  rcases hv with ⟨h5, h6, h7⟩ | ⟨h5, p2, h6, h7, h8, h9⟩
  ·exact ⟨bI, false, aT [], h6, bF, .inl ⟨rfl, h5, rfl⟩, ar.bH (M := []) h7⟩
  exact ⟨p2, true, _, h6, cF (aB h8 pK) h9, .inr ⟨rfl, h5, rfl, h8, h7⟩, h9⟩
 obtain ⟨p2, bo, A, rfl, S5, iu, hw⟩ := Iy;refine z3 ?_;refine aL (cs := p2.cells) (l' := p2.cells) rfl tV rfl rfl ad rfl S5 hw pK (by simp [bm.cells]) rfl kR fun w hw => ?_;refine z6 ?_;refine nY rfl rfl ?_;refine aH ?_;refine fm rfl (fun h1 => ?_) fun h1 => ?_
 ·
  refine z5 ?_;exact br rfl rfl rfl (by
 obtain ⟨rfl, MU, rfl⟩ := iu.resolve_right (fun h => by rw [h.1] at h1; simp at h1);rw [ah (by rw [kA]; exact MU)] at MY;rw [MY];exact ⟨rfl, (hw.b [ag b5 _ _, aT _, aR p]).tail.tail.tail⟩)
 obtain ⟨rfl, XO, rfl, Dj, Ha⟩ := iu.resolve_left (fun h => by rw [h.1] at h1; simp at h1);rw [ae (by rw [kA]; exact not_not_intro XO)] at MY;refine z6 ?_;refine cy rfl oH rfl ?_;refine lD (v := iQ T.items) ai hw ?_;refine z3 ?_;refine cy rfl oH rfl ?_;refine bS (l' := yU vq ⟨T.root, T.aK, T.items + 1⟩ x was) rfl tV rfl rfl ai rfl hw pK rfl rfl rfl fun w hw => ?_;refine z2 ?_;refine bu [0, 1, 2, 3, 4, 5, 6, 7] bK kR ?_;replace hw := hw.drawn (w.drawn + 1);refine z3 ?_;refine lD (v := pQ vq) au hw ?_;refine z1 ?_;refine lA (l := p2.cells) ad hw ?_;refine an rfl fU rfl (gA (p := p2) (n := n) (hw.b [aZ vq V, aR p2]) (aB Dj pK) aJ oM) kR fun w v47 hv => ?_;rw [Ha] at hv
 obtain ⟨rfl, hw⟩ := hv;refine z3 ?_;exact br rfl rfl rfl (by
 rw [MY];exact ⟨rfl, (hw.b [aR p2, ag b5 _ _, aR p]).tail.tail.tail.b [aZ vq _, ag xq _ _]⟩)
theorem KW (V : Va) (T : Tr) : (fS V T).2.1.items = T.items := by
 unfold fS;simp only;split
 ·rfl
 split <;> rfl
theorem AK {vq xq f : Nat} {V : Va} {T : Tr} {x : bT} {was : Bool} {lf : Nat} {leaf : Va -> Tr -> Int -> Pg -> Va × Tr × Int} {res : Va × Tr × Int} (hw : ar G (aZ vq V :: ag xq (yU vq T x was) 116 :: L) w) (aJ : V.Ok) (dm : V.sz + 20 * f <= 999999999800) (hx : x.Ok L) (hh : 0 <= T.aK /\ T.aK <= 1000000) (hT : 0 <= T.items /\ T.items <= 1000000000000)
  (gJ : aw prog lf)
  (Ba : ∀ {L' : List az} {w : World} {V : Va} {T : Tr} {n : Int} {p : bm}, ar G (aZ vq V :: ag xq (yU vq T x was) 116 :: aR p :: L') w -> V.Ok -> V.sz <= 999999999900 -> x.Ok L' -> p.Sm -> (0 <= T.items /\ T.items <= 1000000000000) -> V.rd n = some p.pg →
   Calls prog lf #[pQ xq, iQ n, gQ p.cells] w (dv fun r w' => r = iQ (leaf V T n p.pg).2.2 /\ ar G (aZ vq (leaf V T n p.pg).1 :: ag xq (yU vq (leaf V T n p.pg).2.1 x was) 116 :: L') w'))
  (bQ : Bz x.it leaf f V T = some res) :
  Calls prog 48 #[pQ xq, .func (.func lf) #[pQ xq] #[]] w (dv fun r w' => r = iQ res.2.2 /\ ar G (aZ vq res.1 :: ag xq (yU vq res.2.1 x was) 116 :: L) w') := by
 refine al (args := [_, _]) func48 rfl ntmps48 rfl rfl ?_;refine yb ?_;refine cy rfl jg rfl ?_;refine lD (v := iQ T.root) ai hw ?_;refine z2 ?_;refine aS rfl (fun h1 => ?_) fun h1 => ?_
 ·
  refine zL ?_;refine bu [0, 1, 2, 3, 4, 5, 6, 7, 8, 9, 10, 11, 12, 13, 14, 15] bK kR ?_;replace hw := hw.drawn (w.drawn + 1);refine z3 ?_;refine lD (v := pQ vq) au hw ?_;refine z3 ?_;refine bt rfl rfl (aj.Kb (cs := x.cells) aI hw pK (by rfl) rfl) ?_;refine vA (cs := x.cells) rfl aG aY mM dM rfl rfl rfl hw (fun w Re hw q' hq => ?_) fun w Re hw => ?_
  ·
   have hq := a9 (l := [3]) kR hq;simp only [bB, cW, or_false] at hq;subst hq;exact aV rfl rfl rfl (aj.bx (v := pQ vq) au hw pK rfl)
  obtain ⟨tp, Wz⟩ : ∃ tp : bm, tp = ⟨1, 0, [x], .slice (some ⟨Re, 0, none⟩) 1 1, nQ, [], 0⟩ := ⟨_, rfl⟩;have XX : tp.pg = ⟨1, 0, [x.it], [], 0⟩ := by rw [Wz]; rfl
  have Zu : tp.Ok (ag Re x.cells 114 :: L) := by
   rw [Wz];refine ⟨⟨?_, fun y hy => ?_, by simp⟩, Db, by unfold bz; simp⟩
   ·have h0 := KP (z := 4) (b := Re) (T := 114) (rs := [x.cells]) (by intro r hr; simp at hr; rw [hr]; rfl);have h1 : aX [ag Re x.cells 114] (gC 4 (.slice (some ⟨Re, 0, none⟩) 1 1) [x.cells]) := by
     simpa using h0
    exact h1.head _
   simp only [bB, cW, or_false] at hy;rw [hy]; exact hx.of sF
  refine aQ (v := gQ tp.cells) rfl rfl (fun w => by rw [Wz]; kernel_rfl) ?_;refine an rfl iT rfl (jA (p := tp) (hw.b [aZ vq V, ag xq _ _, ag Re _ _]) (Zu.of sF) aJ oM) kR fun w Xj hv => ?_;rw [XX] at hv;obtain ⟨rfl, hw⟩ := hv;obtain ⟨mk, GR⟩ : ∃ mk, mk = V.make ⟨1, 0, [x.it], [], 0⟩ := ⟨_, rfl⟩;have e : some res = some (mk.2.2, ⟨mk.1, 1, 1⟩, mk.2.1) := by
   rw [<-bQ, GR]; unfold Bz; rw [ah h1]
  cases e
  (try unfold sQ at hw); rw [<-GR] at hw
  rw [<-GR];refine yb ?_;refine aQ (v := .agg #[iQ mk.1, iQ 1, iQ 1]) rfl rfl (fun w => kR) ?_;refine z2 ?_;refine aL (cs := [iQ mk.1, iQ 1, iQ 1]) (l' := yU vq ⟨mk.1, 1, 1⟩ x was) rfl tV rfl rfl aF rfl (by intro u hu; simp at hu; rcases hu with rfl | rfl | rfl <;> rfl) hw pK (by simp [yU, bT.cells]) rfl rfl (fun w hw => ?_);refine z7 ?_;exact br rfl rfl rfl (by
 exact ⟨rfl, (hw.b [ag Re _ _]).tail.b [aZ vq _, ag xq _ _]⟩)
 refine z4 ?_;refine an rfl x4 rfl (zl (V := V) (T := T) (x := x) (was := was) hw aJ oM hh) rfl fun w v38 hv => ?_;obtain ⟨rfl, hw⟩ := hv;have JK := Lt.root aJ T;have GP := JK.sz;have CO := JK.ok;have hri := KW V T;rw [Bz, ae h1] at bQ;obtain ⟨rt, NH⟩ : ∃ rt, rt = fS V T := ⟨_, rfl⟩;rw [<-NH] at hw GP CO hri bQ
 rw [<-NH];refine z8 ?_;refine cO (fun m e w => ∃ (k : Nat) (Y : Va) (T' : Tr) (n er : Int), m = k + 1 /\ e = [(0, pQ xq), (1, .func (.func lf) #[pQ xq] #[]), (7, iQ n), (8, iQ er)] /\ (Y.Ok /\ Y.sz + 20 * k <= 999999999840 /\ (0 <= T'.items /\ T'.items <= 1000000000000) /\ (er = 0 -> Ae x.it.key leaf k Y T' n = some res) /\ (er ≠ 0 -> (Y, T', er) = res)) /\ ar G (aZ vq Y :: ag xq (yU vq T' x was) 116 :: L) w)
  (m := f + 1) sB
  ⟨f, rt.1, rt.2.1, rt.2.2.1, rt.2.2.2, rfl, rfl, ⟨CO, oM, by rw [hri]; exact hT, fun h => by rw [ae (not_not_intro h)] at bQ; exact bQ, fun h => by rw [ah h] at bQ; exact Option.some.inj bQ⟩, hw⟩ ?_
 rintro m e w ⟨k, Y, T', n, er, rfl, rfl, ⟨GM, hys, hyT, hy0, SM⟩, hw⟩;refine z6 ?_;refine aS rfl (fun h2 => ?_) fun h2 => ?_
 ·
  obtain rfl : er = 0 := h2;have kA := hy0 rfl;obtain ⟨k, rfl⟩ : ∃ g, k = g + 1 := by
   cases k with
   | zero => rw [Ae] at kA; cases kA
   | succ g => exact ⟨g, rfl⟩
  rw [Ae] at kA;refine z4 ?_;refine aN rfl bf hw rfl fun w b9 hw => ?_;refine z7 ?_;refine lD (v := pQ vq) au hw ?_;refine z1 ?_;refine an rfl cu rfl (fO (n := n) (hw.b [aZ vq Y]) GM) rfl fun w v49 hv => ?_;obtain ⟨p', er', A, rfl, kP, iu, hw⟩ := hv;refine z3 ?_;refine aL (cs := p'.cells) (l' := p'.cells) rfl tV rfl rfl ad rfl kP hw pK (by simp [bm.cells]) rfl rfl fun w hw => ?_;refine z7 ?_;refine aS rfl (fun h3 => ?_) fun h3 => ?_
  ·
   obtain ⟨py, rfl, rfl, rfl⟩ := iu.resolve_right (fun h => h3 h.2.1);rw [py] at kA;cases kA;refine z6 ?_;exact br rfl rfl rfl ⟨rfl, (hw.b [aT _, ag b9 _ _]).tail.tail.b [aZ vq _, ag xq _ _]⟩
  obtain ⟨py, rfl, rfl, ft⟩ := iu.resolve_left (fun h => h3 (by have := h.2.1; omega));rw [py] at kA;simp only at kA
  have Yi := (fP (Va.vL GM py)).1;have adh : p'.pg.items.length = p'.l.length := by simp [bm.pg]
  refine z5 ?_;refine lD (v := iQ p'.kind) ai hw ?_;refine z2 ?_;refine aS rfl (fun h4 => ?_) fun h4 => ?_
  ·
   refine z4 ?_;refine lA (l := p'.cells) ad hw ?_;refine iN rfl rfl gJ rfl rfl (Ba (T := T') (hw.b [aZ vq Y, ag xq _ _, aR p']) GM oM (hx.of sF) ft hyT py) rfl fun w v61 hv => ?_;obtain ⟨rfl, hw⟩ := hv;refine z3 ?_;exact br rfl rfl rfl (by
 rw [ah (show ¬ p'.pg.kind = 2 from h4)] at kA;cases kA;exact ⟨rfl, (hw.b [ag b9 _ _]).tail.b [aZ vq _, ag xq _ _]⟩)
  rw [ae (show ¬ ¬ p'.pg.kind = 2 from h4)] at kA;refine z4 ?_;refine lA (l := p'.cells) ad hw ?_;refine an rfl x5 rfl (zm (T := T') (n := n) (p := p') (hw.b [aZ vq Y, ag xq _ _, aR p']) GM oM (hx.of sF) ft oM) rfl fun w v66 hv => ?_;obtain ⟨rfl, hw⟩ := hv;have yk := Lt.down GM n p'.pg x.it.key;have hds := yk.sz;have YD := yk.ok;obtain ⟨dn, rf⟩ : ∃ dn, dn = kC Y n p'.pg x.it.key := ⟨_, rfl⟩;rw [<-rf] at hw hds YD kA
  rw [<-rf];refine z6 ?_;exact ⟨k + 1, oM, [(0, _), (1, _), (7, _), (8, _)], sB, k, dn.1, T', dn.2.1, dn.2.2, rfl, rfl, ⟨YD, oM, hyT, fun h => by rw [ae (not_not_intro h)] at kA; exact kA, fun h => by rw [ah h] at kA; exact Option.some.inj kA⟩, (hw.b [ag b9 _ _]).tail.b [aZ vq _, ag xq _ _]⟩
 refine z7 ?_;exact br rfl rfl rfl (by
 have h := SM h2;subst h;exact ⟨rfl, hw⟩)
end
def kp : Tr := ⟨0, 0, 0⟩
def Le (f : Nat) (V : Va) (T : Tr) (key value : bN) : Option (Tr × Bool × Int × Va) :=
 if ¬ (1 <= key.length /\ key.length <= 24) then some (kp, false, 7, V) else if 3840 < value.length then some (kp, false, 8, V) else
 if (nV V.rd T key).2.2 ≠ 0 then some (kp, false, (nV V.rd T key).2.2, V) else
 if (cN V key value).1 ≠ 0 then some (kp, false, (cN V key value).1, V) else
 match Bz (cN V key value).2.1 (Ch (cN V key value).2.1) f (cN V key value).2.2 T with
 | none => none
 | some r => some (if r.2.2 ≠ 0 then (kp, false, r.2.2, V) else (r.2.1, false, 0, r.1))
theorem OH {key : bN} {new : It} {r : Va × Tr × Int} : ∀ {f : Nat} {V : Va} {T : Tr} {n : Int}, V.Ok -> Ae key (Ch new) f V T n = some r -> Lt V (20 * f + 2) r.1
 | 0, V, T, n, _, h => by rw [Ae] at h; cases h
 | f + 1, V, T, n, aJ, h => by
  rw [Ae] at h;split at h
  ·cases h; exact (Lt.refl aJ).mono oM
  split at h
  ·cases h; exact (Lt.add aJ _ _ _ _).mono oM
  have hd := Lt.down aJ n (by assumption) key;split at h
  ·cases h; exact hd.mono oM
  exact (hd.trans (OH hd.ok h)).mono oM
theorem UQ {new : It} {r : Va × Tr × Int} {f : Nat} {V : Va} {T : Tr} (aJ : V.Ok) (h : Bz new (Ch new) f V T = some r) : Lt V (20 * f + 23) r.1 := by
 unfold Bz at h;split at h
 ·cases h; exact (Lt.make aJ _).mono oM
 have hr := Lt.root aJ T;split at h
 ·cases h; exact hr.mono oM
 exact (hr.trans (OH hr.ok h)).mono oM
theorem RM {V : Va} {key value : bN} (h : key.length <= 24) : bz (cN V key value).2.1.key /\ bz (cN V key value).2.1.value := by
 unfold cN bz zF;split
 ·simp
 split
 ·simp
 split
 ·dsimp only; omega
 split
 ·simp
 dsimp only; simp; omega
theorem PA {V : Va} {key value : bN} (h : (cN V key value).1 ≠ 0) : (cN V key value).2.2 = V := by
 by_cases h1 : ¬ (1 <= key.length /\ key.length <= 24)
 ·simp only [cN, ah h1]
 by_cases h2 : 3840 < value.length
 ·simp only [cN, ae h1, ah h2]
 by_cases h3 : value.length <= 32
 ·simp only [cN, ae h1, ae h2, ah h3] at h; exact absurd rfl h
 by_cases h4 : (fB value ((value.length - 1) / 480 + 1) V 0).1 ≠ 0
 ·simp only [cN, ae h1, ae h2, ae h3, ah h4]
 simp only [cN, ae h1, ae h2, ae h3, ae h4] at h; exact absurd rfl h
section
variable {G : Gh} {L R : List az} {w : World}
theorem AM {vq qk b4 mT b8 b9 : Nat} {Y : Va} {er mk : Int} {T : Tr} {wz : Bool} (hw : ar G (aZ vq Y :: ag qk [iQ er] 41 :: ag b4 [pQ vq] 28 :: ag mT [iQ mk] 3 :: ag b8 (aC T) 62 :: ag b9 [.bool wz] 4 :: L) w) (aJ : Y.Ok) (dm : Y.sz <= 1000000000000000) (GR : Y.vf <= mk /\ mk <= Y.mark) :
  We prog 43 #[pQ qk, pQ b4, pQ mT, pQ b8, pQ b9] w (fun r w' =>
   (er ≠ 0 /\ ar G (aZ vq (Y.popN (Y.mark - mk).toNat) :: ag qk [iQ er] 41 :: ag b4 [pQ vq] 28 :: ag mT [iQ mk] 3 :: ag b8 (aC kp) 62 :: ag b9 [.bool false] 4 :: L) w') ∨
   (er = 0 /\ ar G (aZ vq Y :: ag qk [iQ er] 41 :: ag b4 [pQ vq] 28 :: ag mT [iQ mk] 3 :: ag b8 (aC T) 62 :: ag b9 [.bool wz] 4 :: L) w')) := by
 refine IH (args := [_, _, _, _, _]) func43 rfl ntmps43 rfl rfl ?_;refine z2 ?_;refine lD aD hw ?_;refine z2 ?_;refine aS rfl (fun h1 => ?_) fun h1 => ?_
 ·
  refine z2 ?_;refine lD au hw ?_;refine lD ai hw ?_;refine an rfl ln rfl (lY hw aJ dm) rfl fun w v9 hv => ?_;obtain ⟨-, -, rfl, hw⟩ := hv.resolve_left (fun h => h.1 GR);refine z2 ?_;refine aQ (v := .agg #[iQ 0, iQ 0, iQ 0]) rfl rfl (fun w => kR) ?_;refine aL (cs := aC kp) (l' := aC kp) rfl tV rfl rfl aF rfl (by intro u hu; simp [aC] at hu; rcases hu with rfl | rfl | rfl <;> rfl) hw pK (by simp [aC]) rfl rfl (fun w hw => ?_);refine bS (l' := [.bool false]) rfl tV rfl rfl cr rfl hw pK rfl rfl rfl fun w hw => ?_;refine aH ?_;exact Pf rfl rfl (.inl ⟨h1, hw.b [aZ vq _, ag qk _ _, ag b4 _ _, ag mT _ _, ag b8 _ _, ag b9 _ _]⟩)
 refine eH ?_;exact Pf rfl rfl (.inr ⟨cJ.1 h1, hw⟩)
end
def ED (c : List Int) : List Bool := c.map fun x => decide (0 < x)
theorem Lh {c : List Int} : (ED c).length = c.length := by simp [ED]
def Vb (c : List Int) (l : List (Int × Pg)) : Prop := ∀ (i : Nat) (x : Int), c[i]? = some x -> 0 < x -> (i : Int) + 1 ∈ l.map (·.1)
def abw (refs : Int) (c : List Int) (l : List (Int × Pg)) : Prop := Lk refs c = 0 /\ OM c [] l = 0 /\ Vb c l
structure aer (refs : Int) (c : List Int) (l : List (Int × Pg)) (v : RvV) (S : List bm) : Prop where
 er : v.r = refs
 ec : v.c = c
 el : v.l = ED c
 ea : v.av = nQ
 ef : v.floor = 0
 abr : v.p.length = c.length
 ep : ∀ i : Nat, i < c.length -> ∃ pg, v.p[i]? = some pg /\ (match l.find? (fun x => x.1 == (i : Int) + 1) with | none => pg = bI | some x => pg.pg = x.2 /\ pg ∈ S /\ pg.Sm)
theorem ET {α : Type} [BEq α] [LawfulBEq α] : ∀ {l m : List α}, l.Nodup -> (∀ x ∈ l, x ∈ m) -> l.length <= m.length
 | [], m, _, _ => fo _
 | x :: l, m, hn, hs => by
  have hx : x ∈ m := hs x (fp ..);rw [xH] at hn;have ih := ET (l := l) (m := m.erase x) hn.2 (fun y hy => (List.mem_erase_of_ne (fun h => hn.1 (by rw [<-h]; exact hy))).2 (hs y (gF _ hy)));rw [List.length_erase_of_mem hx] at ih
  have : 0 < m.length := List.length_pos_of_mem hx;simp only [jO]; omega
theorem TE {c : List Int} {n : Int} : 0 < iF c n ↔ ∃ (i : Nat) (x : Int), c[i]? = some x /\ 0 < x /\ n = (i : Int) + 1 := by
 unfold iF bg
 constructor
 ·intro h;split at h
  ·rename_i h1;have h2 : (n - 1).toNat < c.length := oM;refine ⟨(n - 1).toNat, c[(n - 1).toNat], cV h2, ?_, oM⟩;rw [qW, cV h2] at h;exact h
  omega
 rintro ⟨i, x, h1, h2, h3⟩;have hi := (nU.1 h1).1;rw [ah oM, show (n - 1).toNat = i by omega, qW, h1];exact h2
theorem CF {c : List Int} : ∀ {l : List (Int × Pg)} {seen : List Int}, OM c seen l = 0 -> (l.map (·.1)).Nodup /\ (∀ x ∈ l, iF c x.1 ≠ 0 /\ x.1 ∉ seen /\ bD x.2 = 0)
 | [], seen, _ => by simp
 | x :: l, seen, h => by
  rw [OM] at h;split at h
  ·cases h
  rename_i h0;split at h
  ·cases h
  rename_i h1;split at h
  ·rename_i h2; exact absurd h h2
  rename_i h2;obtain ⟨h3, h4⟩ := CF h;refine ⟨?_, fun y hy => ?_⟩
  ·rw [cG, xH];refine ⟨fun hm => ?_, h3⟩;obtain ⟨y, hy, hyx⟩ := dd.1 hm;exact (h4 y hy).2.1 (by rw [hyx]; exact fp ..)
  rcases bB.1 hy with rfl | hy
  ·exact ⟨h0, h1, cJ.1 h2⟩
  have := h4 y hy;exact ⟨this.1, fun hs => this.2.1 (gF _ hs), this.2.2⟩
theorem H8 {refs : Int} {c : List Int} (h : Lk refs c = 0) : ∀ x ∈ c, 0 <= x /\ x <= refs := by
 unfold Lk at h;split at h
 ·cases h
 split at h
 ·cases h
 rename_i h1; exact cJ.1 h1
def BD (refs : Int) (c : List Int) : Po := ⟨refs, c, ED c, [], 0⟩
def tX (refs : Int) (c : List Int) (l : List (Int × Pg)) : Va := ⟨BD refs c, fun n => (l.find? fun x => x.1 == n).map (·.2), [], 0⟩
theorem xe {c : List Int} {k : Int} (h1 : k ≠ 1) (h4 : k ≠ 4) : lU c k = 0 := by
 unfold lU;rw [List.filter_eq_nil_iff.2 (fun x _ => by
  simp only [decide_eq_true_eq];unfold Ou;split <;> omega)]
 rfl
theorem UT {refs : Int} {c : List Int} {cv lv fv : Value} {fq : Nat} {rs : List (Int × Int)} : Wq refs c cv lv fq = H9 (BD refs c) ⟨cv, lv, fq, fv, nQ, rs, []⟩ (HW c (ED c)) := by
 have e : ∀ k, ri k c (ED c) = lU c k := fun k => Gb k c
 simp only [H9, BD, HW, Wq, e];have h2 := xe (c := c) (k := 2) dM dM;have h3 := xe (c := c) (k := 3) dM dM;simp [h2, h3, ED]
theorem KN {c : List Int} {n : Int} (h : ∀ x ∈ c, 0 <= x) : rZ c (ED c) n = 1 ↔ bg c n /\ c.getD (n - 1).toNat 0 = 0 := by
 unfold rZ
 by_cases ht : bg c n
 ·rw [ah ht];have hi : (n - 1).toNat < c.length := by unfold bg at ht; omega
  have hx := h c[(n - 1).toNat] (PM hi);obtain ⟨y, hy⟩ : ∃ y, y = c[(n - 1).toNat] := ⟨_, rfl⟩;simp only [qW, ED, dB, cV hi, RX, RW, ht, true_and, <-hy]
  (try unfold sQ at hx); rw [<-hy] at hx
  by_cases h0 : 0 < y
  ·rw [ah h0, decide_eq_true h0, ah rfl]; omega
  rw [ae h0, decide_eq_false h0, ae dM]; omega
 rw [ae ht]; simp [ht]
theorem Jv {G : Gh} {L : List az} {w : World} {refs : Int} {c : List Int} {q fq : Nat} {cv lv fv : Value} (hc : ∀ x ∈ c, 0 <= x) (hw : ar G (xJ q (Wq refs c cv lv fq) (M7 fq fv (gV c) L)) w) : ar G (gZ q (BD refs c) :: L) w := by
 obtain ⟨h1, h2⟩ := FA c.length c rfl;refine fT (m := ⟨cv, lv, fq, fv, nQ, gV c, []⟩) ⟨rfl, h1, fun n => ?_⟩ ?_
 ·rw [h2]; exact (KN hc).symm
 rw [UT (fv := fv) (rs := gV c)] at hw;have hz := cf hw 227 1;have hz := ar.bH (M := []) hz;have hz := hz.b [ag q _ _, row 3 _ _ _ _, row 4 _ _ _ _, ag fq _ _, row 232 _ _ _ _, row 227 _ _ _ _, aT _];exact hz
theorem UX {on : List (Int × bm)} {n : Int} : (xK on n).map bm.pg = ((pgs on).find? fun x => x.1 == n).map (·.2) := by
 unfold xK pgs
 induction on with
 | nil => rfl
 | cons x on ih =>
  simp only [cG, Nd]
  by_cases h : x.1 == n
  ·simp [h]
  simp only [h]; exact ih
theorem Ik {G : Gh} {L : List az} {w : World} {refs : Int} {c : List Int} {vq pq om fq : Nat} {cv lv fv : Value} {on : List (Int × bm)} (hc : ∀ x ∈ c, 0 <= x) (GO : ∀ x ∈ on, x.2.Sm)
  (hw : ar G (vtP vq pq om (nQ) 0 (Wq refs c cv lv fq) on (on.map (·.2)) (M7 fq fv (gV c) L)) w) : ar G (aZ vq (tX refs c (pgs on)) :: L) w := by
 have h1 := Jv hc (hw.b [ag pq _ _, row 3 _ _ _ _, row 4 _ _ _ _, ag fq _ _, row 232 _ _ _ _]);refine ie (m := ⟨pq, om, nQ, on, on.map (·.2), []⟩) ⟨fun n => UX, fun n p h => dd.2 ⟨_, UY h, rfl⟩, fun p hp => ?_, rfl, (fun a ha => by cases ha)⟩ ?_
 ·obtain ⟨x, hx, rfl⟩ := dd.1 hp;exact GO x hx
 have hz := cf h1 170 2;have hz := ar.bH (M := []) hz;have hz := hz.b [ag vq _ _, cX _ _, pI _, row 170 _ _ _ _, aT [], gZ _ _];exact hz
theorem Il {refs : Int} {c : List Int} {l : List (Int × Pg)} (h : abw refs c l) : (tX refs c l).Ok := by
 obtain ⟨h1, h2, h3⟩ := h;obtain ⟨h4, h5⟩ := CF h2;have kA : 1 <= (c.length : Int) /\ (c.length : Int) <= 65536 /\ 2 <= refs /\ refs < 65536 := by
  refine sN fun hn => ?_
  unfold Lk at h1; rw [ah hn] at h1; cases h1
 have hb : (tX refs c l).Km := by
  refine ⟨⟨?_, Lh, ⟨kA.2.2.1, kA.2.2.2⟩, (fun a ha => by cases ha), fun k hk x hx => ?_⟩, by simp [tX, BD], by simp [tX], fun n p hp => ?_, fun n hn => ?_, (fun a ha => by cases ha), (fun a ha => by cases ha)⟩
  ·have := kA.2.1; simp only [tX, BD]; omega
  ·have h6 : lP c ([].drop k) = c := by rw [List.drop_nil]; rfl
   have TZ : x ∈ lP c ([].drop k) := hx;rw [h6] at TZ;exact H8 h1 x TZ
  ·have Zy : (l.find? fun x => x.1 == n).map (·.2) = some p := hp;obtain ⟨y, hy, rfl⟩ := La.1 Zy;exact (h5 y (UL hy)).2.2
  have hn' : iF c n ≠ 0 := hn;have abT : 0 < iF c n := by
   unfold iF at hn' ⊢;split
   ·rename_i ht;rw [ah ht] at hn';have hi : (n - 1).toNat < c.length := by unfold bg at ht; omega
    rw [qW, cV hi] at hn' ⊢;have := (H8 h1 _ (PM hi)).1;simp only [RX] at hn' ⊢
    omega
   rename_i ht; rw [ae ht] at hn'; omega
  obtain ⟨i, x, h6, h7, h8⟩ := TE.1 abT;have h9 := h3 i x h6 h7
  (try unfold sQ at h9); rw [<-h8] at h9
  obtain ⟨y, hy, Vg⟩ := dd.1 h9;intro he;have Qz : (l.find? fun x => x.1 == n).map (·.2) = none := he;rw [Option.map_eq_none_iff, UD] at Qz;exact Qz y hy (by simp [Vg])
 exact ⟨hb, fun k hk => by
  have : k = 0 := by simp only [tX, vM] at hk; omega
  subst this; exact hb⟩
def dK (rd : Int -> Option Pg) (met : List Int) (n : Int) : Option Pg := if n ∈ met then none else rd n
def iy (rd : Int -> Option Pg) : Nat -> Int -> Int -> List Int -> Int × List Int
 | 0, _, _, met => (0, met)
 | f + 1, left, n, met => if left <= 0 then (0, met) else match dK rd met n with
  | none => (15, met)
  | some p => if ¬ p.kind = 3 then (15, n :: met) else if ¬ ((p.data.length : Int) = min 480 left /\ (p.next = 0 ↔ left - min 480 left = 0)) then (5, n :: met) else iy rd f (left - min 480 left) p.next (n :: met)
theorem CZ {rd : Int -> Option Pg} {f : Nat} {left n : Int} {met : List Int} (h : left <= 0) : iy rd f left n met = (0, met) := by
 cases f with
 | zero => rfl
 | succ f => rw [iy, ah h]
def jI (rd : Int -> Option Pg) (x : It) (r : Rg) (s : List Int × Int) : Int × List Int × Int :=
 if ¬ lH r x.key then (11, s) else if x.size <= 32 then (0, s.1, s.2 + 1) else ((iy rd x.size.toNat x.size x.child s.1).1, (iy rd x.size.toNat x.size x.child s.1).2, s.2 + 1)
def nt (p : Pg) (i : Nat) : Rg := ⟨jU p.items i, if i + 1 < p.items.length then jU p.items (i + 1) else [], decide (¬ i + 1 < p.items.length)⟩
def jn {α : Type} (g : Nat -> α -> List Int × Int -> Int × List Int × Int) : Nat -> List α -> List Int × Int -> Int × List Int × Int
 | _, [], s => (0, s)
 | i, x :: l, s => if (g i x s).1 ≠ 0 then g i x s else jn g (i + 1) l (g i x s).2
def nf (k : Nat) (p : Pg) : Prop := if k = 0 then ¬ p.kind = 1 else ¬ (p.kind = 2 /\ p.level = k)
instance (k : Nat) (p : Pg) : Decidable (nf k p) := by unfold nf; infer_instance
def fL (rd : Int -> Option Pg) : Nat -> Int -> Int -> Rg -> List Int × Int -> Int × List Int × Int
 | k, n, least, r, s => match dK rd s.1 n with
  | none => (15, s)
  | some p => if nf k p then (15, n :: s.1, s.2) else if (p.items.length : Int) < least then (5, n :: s.1, s.2) else
   match k with
   | 0 => jn (fun _ x s => jI rd x r s) 0 p.items (n :: s.1, s.2)
   | k + 1 => jn (fun i x s => fL rd k x.child 4 (gL r (nt p i)) s) 0 p.items (n :: s.1, s.2)
structure aes (rd : Int -> Option Pg) (v : RvV) (S : List bm) : Prop where
 one : 1 <= v.c.length
 len : v.c.length <= 65536
 ac8 : v.l.length = v.c.length
 abr : v.p.length = v.c.length
 no : ∀ n, ¬ 0 < iF v.c n -> rd n = none
 yes : ∀ n, 0 < iF v.c n -> ∃ pg, v.p[(n - 1).toNat]? = some pg /\ pg ∈ S /\ pg.Sm /\ rd n = some pg.pg /\ bD pg.pg = 0
theorem Sz {p : Pg} {k : Nat} {x : It} (h : p.items[k]? = some x) : jU p.items k = x.key := by unfold jU; rw [h]; rfl
theorem Ic {p : Pg} {i : Nat} {x : It} (h : p.items[i]? = some x) (hl : ¬ i + 1 < p.items.length) : nt p i = ⟨x.key, [], true⟩ := by
 unfold nt; rw [Sz h, ae hl, decide_eq_true hl]
theorem Ib {p : Pg} {i : Nat} {x y : It} (h : p.items[i]? = some x) (h2 : p.items[i + 1]? = some y) : nt p i = ⟨x.key, y.key, false⟩ := by
 have hl : i + 1 < p.items.length := (nU.1 h2).1;unfold nt; rw [Sz h, ah hl, Sz h2, decide_eq_false (not_not_intro hl)]
structure Ks (rd : Int -> Option Pg) (d : Nat) (s : List Int × Int) : Prop where
 lo : 0 <= s.2
 hi : s.2 + d <= 8 * s.1.length
 nd : s.1.Nodup
 th : ∀ n ∈ s.1, rd n ≠ none
theorem Ks.mono {rd : Int -> Option Pg} {d d' : Nat} {s : List Int × Int} (h : Ks rd d s) (hd : d' <= d) : Ks rd d' s := ⟨h.lo, by have := h.hi; omega, h.nd, h.th⟩
theorem fM {rd : Int -> Option Pg} {met : List Int} {n : Int} {p : Pg} (h : dK rd met n = some p) : n ∉ met /\ rd n = some p := by
 unfold dK at h;split at h
 ·cases h
 exact ⟨by assumption, h⟩
theorem Ks.enter {rd : Int -> Option Pg} {d : Nat} {s : List Int × Int} {n : Int} {p : Pg} (h : Ks rd d s) (he : dK rd s.1 n = some p) : Ks rd (d + 8) (n :: s.1, s.2) := by
 obtain ⟨h1, h2⟩ := fM he;refine ⟨h.lo, ?_, xH.2 ⟨h1, h.nd⟩, fun j hj => ?_⟩
 ·have := h.hi; simp only [jO]; omega
 rcases bB.1 hj with rfl | hj
 ·rw [h2]; simp
 exact h.th j hj
theorem Ks.chain {rd : Int -> Option Pg} {d : Nat} {keys : Int} : ∀ {f : Nat} {left n : Int} {met : List Int}, Ks rd d (met, keys) -> Ks rd d ((iy rd f left n met).2, keys)
 | 0, _, _, _, h => h
 | f + 1, left, n, met, h => by
  rw [iy];split
  ·exact h
  cases he : dK rd met n with
  | none => exact h
  | some p =>
   have h1 : Ks rd d (n :: met, keys) := (h.enter he).mono oM;simp only;split
   ·exact h1
   split
   ·exact h1
   exact Ks.chain h1
theorem Ks.item {rd : Int -> Option Pg} {d : Nat} {s : List Int × Int} {x : It} {r : Rg} (h : Ks rd (d + 1) s) : Ks rd d (jI rd x r s).2 := by
 have h1 : Ks rd d (s.1, s.2 + 1) := ⟨by have := h.lo; show 0 <= s.2 + 1; omega, by have := h.hi; show s.2 + 1 + (d : Int) <= 8 * (s.1.length : Int); omega, h.nd, h.th⟩;unfold jI;split
 ·exact h.mono oM
 split
 ·exact h1
 exact Ks.chain h1
theorem Ks.fold {α : Type} {rd : Int -> Option Pg} {g : Nat -> α -> List Int × Int -> Int × List Int × Int} {c : Nat} (hc : c <= 1) (hg : ∀ {d i x s}, Ks rd (d + c) s -> Ks rd d (g i x s).2) : ∀ {l : List α} {i d : Nat} {s : List Int × Int}, Ks rd (d + l.length) s -> Ks rd d (jn g i l s).2
 | [], i, d, s, h => h
 | x :: l, i, d, s, h => by
  have h1 : Ks rd (d + l.length) (g i x s).2 := hg (h.mono (by simp only [jO]; omega));rw [jn];split
  ·exact h1.mono oM
  exact Ks.fold hc hg h1
theorem Ks.P1 {rd : Int -> Option Pg} (tD : ∀ n p, rd n = some p -> p.items.length <= 8) : ∀ {k : Nat} {d : Nat} {n least : Int} {r : Rg} {s : List Int × Int}, Ks rd d s -> Ks rd d (fL rd k n least r s).2 := by
 intro k
 induction k with
 | zero =>
  intro d n least r s h;unfold fL;cases he : dK rd s.1 n with
  | none => exact h
  | some p =>
   have h1 := h.enter he;have hl := tD n p (fM he).2;simp only;split
   ·exact h1.mono oM
   split
   ·exact h1.mono oM
   exact Ks.fold (c := 1) (eW _) (fun h => h.item) (h1.mono oM)
 | succ k ih =>
  intro d n least r s h;unfold fL;cases he : dK rd s.1 n with
  | none => exact h
  | some p =>
   have h1 := h.enter he;have hl := tD n p (fM he).2;simp only;split
   ·exact h1.mono oM
   split
   ·exact h1.mono oM
   exact Ks.fold (c := 0) oM (fun h => ih h) (h1.mono oM)
theorem P9 {p : Pg} (h : bD p = 0) (hk : p.kind = 1) : ∀ x ∈ p.items, x.size <= 3840 := by
 have key : ∀ (l : List It) (i : Nat) (dp : bN), ir p.kind i dp l = 0 -> ∀ x ∈ l, x.size <= 3840 := by
  intro l
  induction l with
  | nil => intro i dp _ x hx; cases hx
  | cons y l ih =>
   intro i dp he x hx;simp only [ir, bZ] at he;rcases bB.1 hx with rfl | hx
   ·have h1 := he.1;unfold uM at h1;simp only [bZ] at h1
    have h2 := h1.2.2.1;unfold Bj at h2;rw [ae oM] at h2
    simp only [bZ] at h2;have := (gz dM).1 h2.1;omega
   exact ih _ _ he.2 x hx
 unfold bD at h;simp only [bZ] at h
 exact key p.items 0 [] h.2.1
def vG (rd : Int -> Option Pg) : Nat -> Pg -> Rg -> Nat -> It -> List Int × Int -> Int × List Int × Int
 | 0, _, r, _, x, s => jI rd x r s
 | k + 1, p, r, i, x, s => fL rd k x.child 4 (gL r (nt p i)) s
theorem mA {rd : Int -> Option Pg} {k : Nat} {n least : Int} {r : Rg} {s : List Int × Int} (h : dK rd s.1 n = none) : fL rd k n least r s = (15, s) := by
 cases k <;> (unfold fL; rw [h])
theorem jf {rd : Int -> Option Pg} {k : Nat} {n least : Int} {r : Rg} {s : List Int × Int} {p : Pg} (h : dK rd s.1 n = some p) : fL rd k n least r s = if nf k p then (15, n :: s.1, s.2) else if (p.items.length : Int) < least then (5, n :: s.1, s.2) else jn (vG rd k p r) 0 p.items (n :: s.1, s.2) := by
 cases k <;> (unfold fL; rw [h]; rfl)
def U8 (ro : Int) (k : Nat) : Int := if ro = 1 then (if k = 0 then 0 else 2) else 4
def pJ : Rg := ⟨[], [], true⟩
def jC (t : Tr) : Prop := t.root = 0 /\ t.aK = 0 /\ t.items = 0
instance (t : Tr) : Decidable (jC t) := by unfold jC; infer_instance
def ni (t : Tr) : Prop := ¬ t.root = 0 /\ 1 <= t.aK /\ t.aK <= 12 /\ 1 <= t.items
instance (t : Tr) : Decidable (ni t) := by unfold ni; infer_instance
def sj (rd : Int -> Option Pg) (t : Tr) : Int :=
 if jC t then 0 else if ¬ ni t then 5 else
 let c := fL rd (t.aK - 1).toNat t.root (U8 1 (t.aK - 1).toNat) pJ ([], 0)
 if c.1 ≠ 0 then c.1 else if ¬ c.2.2 = t.items then 4 else 0

abbrev Pr := bN × bN
def PY (rd : Int -> Option Pg) (x : It) : Pr := (x.key, (fa rd x).2)
def mw (rd : Int -> Option Pg) : Nat -> Int -> Prop
 | 0, n => ∃ p, rd n = some p /\ p.kind = 1 /\ ∀ x ∈ p.items, (fa rd x).1 = 0
 | k + 1, n => ∃ p, rd n = some p /\ p.kind = 2 /\ ∀ x ∈ p.items, mw rd k x.child
def oZ (rd : Int -> Option Pg) : Nat -> Int -> List Pr
 | 0, n => match rd n with
  | none => []
  | some p => p.items.map (PY rd)
 | k + 1, n => match rd n with
  | none => []
  | some p => p.items.flatMap fun x => oZ rd k x.child
def qe (rd : Int -> Option Pg) : Nat -> Int -> Nat
 | 0, _ => 1
 | k + 1, n => match rd n with
  | none => 1
  | some p => 1 + (p.items.map fun x => qe rd k x.child).sum
theorem Lm (rd : Int -> Option Pg) (k : Nat) (n : Int) : 1 <= qe rd k n := by
 cases k with
 | zero => exact eW _
 | succ k => rw [qe]; split <;> omega
def qY (rd : Int -> Option Pg) (st : List (Int × Nat)) : Nat := (st.map fun x => qe rd x.2 x.1).sum
theorem Lo (rd : Int -> Option Pg) : ∀ st : List (Int × Nat), st.length <= qY rd st
 | [] => eW _
 | x :: st => by
  have := Lo rd st;have := Lm rd x.2 x.1;unfold qY at *;simp only [jO, cG, K3]; omega
theorem Af (rd : Int -> Option Pg) (a b : List (Int × Nat)) : qY rd (a ++ b) = qY rd a + qY rd b := by unfold qY; rw [il, List.sum_append]
theorem Ln (rd : Int -> Option Pg) : ∀ a : List (Int × Nat), qY rd a.reverse = qY rd a
 | [] => rfl
 | x :: a => by
  have ih := Ln rd a;rw [List.reverse_cons, Af, ih];unfold qY; simp only [cG, j3, K3, List.sum_nil]; omega
structure pH where
 pr : Pr
 kv : Value
 vv : Value
def pH.cells (x : pH) : List Value := [x.kv, x.vv]
def dO (x : pH) : List az := [row 5 1 x.kv x.pr.1.length (dV x.pr.1), row 5 1 x.vv x.pr.2.length (dV x.pr.2)]
def fX (rd : Int -> Option Pg) (n : Int) : List Int := match rd n with
 | none => []
 | some p => aA p
structure rj (rd : Int -> Option Pg) (s t : List Int) : Prop where
 sub : ∀ n ∈ s, n ∈ t
 new : ∀ n ∈ t, n ∈ s \/ (rd n ≠ none /\ ∀ k ∈ fX rd n, k ∈ t)
theorem rj.refl (rd : Int -> Option Pg) (s : List Int) : rj rd s s := ⟨fun _ h => h, fun _ h => .inl h⟩
theorem rj.trans {rd : Int -> Option Pg} {s t u : List Int} (h : rj rd s t) (h' : rj rd t u) : rj rd s u := by
 refine ⟨fun n hn => h'.sub n (h.sub n hn), fun n hn => ?_⟩;rcases h'.new n hn with h1 | h1
 ·rcases h.new n h1 with h2 | h2
  ·exact .inl h2
  exact .inr ⟨h2.1, fun k hk => h'.sub k (h2.2 k hk)⟩
 exact .inr h1
theorem rj.P1 {rd : Int -> Option Pg} {n : Int} {s t : List Int} {p : Pg} (hp : rd n = some p) (h : rj rd (n :: s) t) (hk : ∀ k ∈ aA p, k ∈ t) : rj rd s t := by
 refine ⟨fun m hm => h.sub m (gF _ hm), fun m hm => ?_⟩;rcases h.new m hm with h1 | h1
 ·rcases bB.1 h1 with rfl | h1
  ·exact .inr ⟨by rw [hp]; simp, by unfold fX; rw [hp]; exact hk⟩
  exact .inl h1
 exact .inr h1
theorem Nt {p : Pg} (h : p.kind = 3) (hi : p.items = []) : ∀ k ∈ aA p, k = p.next /\ p.next ≠ 0 := by
 intro k hk;unfold aA at hk;rw [hi] at hk
 simp only [List.filterMap_nil, jG] at hk;split at hk
 ·rename_i h1; simp at hk; exact ⟨hk, h1.2⟩
 cases hk
theorem dy {p : Pg} (h : p.kind = 2) : aA p = p.items.map It.child := by
 unfold aA;rw [ae oM, my]
 induction p.items with
 | nil => rfl
 | cons x l ih => rw [List.filterMap_cons, ah (.inl h)]; simp only [cG]; rw [ih]
theorem E5 {p : Pg} (h : p.kind = 1) : ∀ k ∈ aA p, ∃ x ∈ p.items, x.child = k /\ k ≠ 0 := by
 intro k hk;unfold aA at hk;rw [ae oM, my] at hk
 obtain ⟨x, hx, h1⟩ := UF.1 hk;split at h1
 ·rename_i h2;cases h1;exact ⟨x, hx, rfl, (h2.resolve_left oM).2⟩
 cases h1
theorem ji {p : Pg} (h : bD p = 0) : (1 <= p.kind /\ p.kind <= 3) /\ lk p.kind p.level p.next p.items.length p.data.length := by
 unfold bD at h;simp only [bZ] at h
 exact ⟨(gz dM).1 h.1.1, (gz dM).1 h.1.2⟩
theorem sV {p : Pg} (h : bD p = 0) (hk : p.kind = 1) : ∀ x ∈ p.items, (0 <= x.size /\ x.size <= 3840) /\ (x.size <= 32 -> (x.value.length : Int) = x.size /\ x.child = 0) /\ (1 <= x.key.length /\ x.key.length <= 24) := by
 have key : ∀ (l : List It) (i : Nat) (dp : bN), ir p.kind i dp l = 0 -> ∀ x ∈ l, (0 <= x.size /\ x.size <= 3840) /\ (x.size <= 32 -> (x.value.length : Int) = x.size /\ x.child = 0) /\ (1 <= x.key.length /\ x.key.length <= 24) := by
  intro l
  induction l with
  | nil => intro i dp _ x hx; cases hx
  | cons y l ih =>
   intro i dp he x hx;simp only [ir, bZ] at he;rcases bB.1 hx with rfl | hx
   ·have h1 := he.1;unfold uM at h1;simp only [bZ] at h1
    have h0 := h1.1;have h2 := h1.2.2.1;have h3 := h1.2.2.2;unfold ub at h0;unfold Bj at h2
    unfold B4 at h3;rw [ae oM] at h0
    rw [ae oM] at h2;rw [ae oM] at h3
    simp only [bZ] at h2;refine ⟨(gz dM).1 h2.1, fun hs => ?_, (gz dM).1 h0⟩;have h4 := h2.2;rw [ah hs] at h4 h3
    exact ⟨(gz dM).1 h4, (gz dM).1 h3⟩
   exact ih _ _ he.2 x hx
 unfold bD at h;simp only [bZ] at h
 exact key p.items 0 [] h.2.1
def GJ (rd : Int -> Option Pg) : Prop := ∀ n p, rd n = some p -> bD p = 0
theorem Gf {rd : Int -> Option Pg} (hr : GJ rd) : ∀ {f : Nat} {left n : Int} {met : List Int}, left <= f -> (iy rd f left n met).1 = 0 -> rj rd met (iy rd f left n met).2 /\ (0 < left -> n ∈ (iy rd f left n met).2)
 | 0, left, n, met, hf, _ => ⟨rj.refl _ _, fun h => by omega⟩
 | f + 1, left, n, met, hf, h => by
  rw [iy] at h ⊢;split at h
  ·rename_i h0; rw [ah h0]; exact ⟨rj.refl _ _, fun h => by omega⟩
  rename_i h0;rw [ae h0];cases he : dK rd met n with
  | none => rw [he] at h; cases h
  | some p =>
   rw [he] at h;simp only at h ⊢
   split at h
   ·cases h
   rename_i h1;rw [ae h1];split at h
   ·cases h
   rename_i h2;rw [ae h2];obtain ⟨h3, h4⟩ := Gf hr oM h;obtain ⟨hk, hp⟩ := fM he;have h2 := cJ.1 h2;have h1 := cJ.1 h1;have Qy := (ji (hr n p hp)).2.2.2 oM oM;refine ⟨rj.P1 hp h3 fun k hk => ?_, fun _ => h3.sub n (fp ..)⟩;obtain ⟨rfl, h5⟩ := Nt h1 (yS Qy.2.1) k hk;exact h4 (by have := h2.2; omega)
theorem Gg {rd : Int -> Option Pg} {size : Int} : ∀ {f : Nat} {n : Int} {met : List Int} {out : bN}, (iy rd f (size - out.length) n met).1 = 0 -> (vV rd size f n out).1 = 0
 | 0, n, met, out, _ => rfl
 | f + 1, n, met, out, h => by
  rw [iy] at h;rw [vV];split at h
  ·rw [ah oM]
  rename_i h0;rw [ae oM];cases he : dK rd met n with
  | none => rw [he] at h; cases h
  | some p =>
   rw [he] at h;obtain ⟨-, hp⟩ := fM he;rw [hp];simp only at h ⊢
   split at h
   ·cases h
   rename_i h1;rw [ae h1];split at h
   ·cases h
   rename_i h2;have h2 := cJ.1 h2;have hq : size - (out.length : Int) - min 480 (size - out.length) = 0 ↔ size - (out.length : Int) <= 480 := oM;have Qo := h2.2;rw [hq] at Qo;rw [ae (not_not_intro ⟨oM, Qo⟩)];refine Gg (met := n :: met) ?_;have e : size - ((out ++ p.data).length : Int) = size - out.length - min 480 (size - out.length) := by rw [cj]; omega
   rw [e]; exact h
theorem Qh {rd : Int -> Option Pg} (hr : GJ rd) {x : It} {r : Rg} {s : List Int × Int} (h : (jI rd x r s).1 = 0) (hx : (0 <= x.size /\ x.size <= 3840) /\ (x.size <= 32 -> (x.value.length : Int) = x.size /\ x.child = 0)) : lH r x.key /\ rj rd s.1 (jI rd x r s).2.1 /\ (jI rd x r s).2.2 = s.2 + 1 /\ (x.child ≠ 0 -> x.child ∈ (jI rd x r s).2.1) /\ (fa rd x).1 = 0 := by
 unfold jI at h ⊢;split at h
 ·cases h
 rename_i h0;rw [ae h0];have h0 := cJ.1 h0;split at h
 ·rename_i h1;rw [ah h1];have h2 := hx.2 h1;refine ⟨h0, rj.refl _ _, rfl, fun h => absurd h2.2 h, ?_⟩;unfold fa;rw [ae oM, ah h1]
 rename_i h1;rw [ae h1];have h2 := Gf hr oM h;refine ⟨h0, h2.1, rfl, fun _ => h2.2 oM, ?_⟩;unfold fa;rw [ae oM, ae h1];exact Gg (met := s.1) (by simpa using h)
theorem BT {α : Type} {rd : Int -> Option Pg} {g : Nat -> α -> List Int × Int -> Int × List Int × Int} {Q : Nat -> α -> List Int -> Prop} {bw : α -> Nat} (hQ : ∀ {i x t u}, Q i x t -> rj rd t u -> Q i x u) : ∀ {l : List α} {i : Nat} {s : List Int × Int}, (∀ j x s, l[j]? = some x -> (g (i + j) x s).1 = 0 -> rj rd s.1 (g (i + j) x s).2.1 /\ (g (i + j) x s).2.2 = s.2 + bw x /\ Q (i + j) x (g (i + j) x s).2.1) -> (jn g i l s).1 = 0 -> rj rd s.1 (jn g i l s).2.1 /\ (jn g i l s).2.2 = s.2 + ((l.map bw).sum : Nat) /\ ∀ j x, l[j]? = some x -> Q (i + j) x (jn g i l s).2.1
 | [], i, s, _, _ => ⟨rj.refl _ _, by simp [jn], fun j x h => by simp at h⟩
 | y :: l, i, s, hg, h => by
  rw [jn] at h ⊢;split at h
  ·rename_i h0; exact absurd h h0
  rename_i h0;rw [ae h0];have h0 := cJ.1 h0;obtain ⟨h1, h2, h3⟩ := hg 0 y s rfl h0;obtain ⟨h4, h5, h6⟩ := BT (rd := rd) (g := g) (Q := Q) (bw := bw) hQ (l := l) (i := i + 1) (s := (g i y s).2) (fun j x s hx hh => by
    have h7 := hg (j + 1) x s (by simpa using hx);rw [show i + (j + 1) = i + 1 + j by omega] at h7;exact h7 hh) h
  refine ⟨h1.trans h4, ?_, fun j x hx => ?_⟩
  ·rw [h5]; simp only [PJ] at h2; rw [h2]; simp only [cG, K3]; omega
  cases j with
  | zero => simp at hx; subst hx; exact hQ h3 h4
  | succ j =>
   have h7 := h6 j x (by simpa using hx);rw [show i + (j + 1) = i + 1 + j by omega];exact h7
def mD (rd : Int -> Option Pg) : Nat -> Int -> Rg -> Prop
 | 0, n, r => ∃ p, rd n = some p /\ (1 <= p.items.length) /\ ∀ x ∈ p.items, lH r x.key
 | k + 1, n, r => ∃ p, rd n = some p /\ (1 <= p.items.length) /\ ∀ (i : Nat) (x : It), p.items[i]? = some x -> mD rd k x.child (gL r (nt p i))
theorem P0 {rd : Int -> Option Pg} (hr : GJ rd) : ∀ {k : Nat} {n least : Int} {r : Rg} {s : List Int × Int}, (fL rd k n least r s).1 = 0 -> rj rd s.1 (fL rd k n least r s).2.1 /\ (fL rd k n least r s).2.2 = s.2 + (oZ rd k n).length /\ n ∈ (fL rd k n least r s).2.1 /\ mw rd k n /\ mD rd k n r := by
 intro k
 induction k with
 | zero =>
  intro n least r s h;cases he : dK rd s.1 n with
  | none => rw [mA he] at h; cases h
  | some p =>
   obtain ⟨-, hp⟩ := fM he;rw [jf he] at h ⊢;split at h
   ·cases h
   rename_i h0;rw [ae h0];split at h
   ·cases h
   rename_i h1;rw [ae h1];have hk : p.kind = 1 := by
    unfold nf at h0; rw [ah rfl] at h0; exact cJ.1 h0
   have WL := sV (hr n p hp) hk;obtain ⟨h2, h3, h4⟩ := BT (rd := rd) (g := vG rd 0 p r) (bw := fun _ => 1) (Q := fun _ x t => lH r x.key /\ (x.child ≠ 0 -> x.child ∈ t) /\ (fa rd x).1 = 0) (fun hq hw => ⟨hq.1, fun h => hw.sub _ (hq.2.1 h), hq.2.2⟩) (fun j x s hx hh => by
      obtain ⟨a, b, c, d, e⟩ := Qh hr (show (jI rd x r s).1 = 0 from hh) ⟨(WL x (ed hx)).1, (WL x (ed hx)).2.1⟩;exact ⟨b, c, a, d, e⟩) h
   have jv : ∀ x ∈ p.items, lH r x.key /\ (x.child ≠ 0 -> x.child ∈ (jn (vG rd 0 p r) 0 p.items (n :: s.1, s.2)).2.1) /\ (fa rd x).1 = 0 := fun x hx => by
    obtain ⟨j, hj⟩ := Ng hx;exact h4 j x hj
   refine ⟨rj.P1 hp h2 fun c hc => ?_, ?_, h2.sub n (fp ..), ⟨p, hp, hk, fun x hx => (jv x hx).2.2⟩, ⟨p, hp, ((fP (hr n p hp)).2.2.1 hk), fun x hx => (jv x hx).1⟩⟩
   ·obtain ⟨x, hx, rfl, hn⟩ := E5 hk c hc;exact (jv x hx).2.1 hn
   have Fi : ∀ l : List It, (l.map fun _ => 1).sum = l.length := by
    intro l
    induction l with
    | nil => rfl
    | cons x l ih => rw [cG, K3, ih, jO]; omega
   rw [h3, oZ, hp, Fi]; simp
 | succ k ih =>
  intro n least r s h;cases he : dK rd s.1 n with
  | none => rw [mA he] at h; cases h
  | some p =>
   obtain ⟨-, hp⟩ := fM he;rw [jf he] at h ⊢;split at h
   ·cases h
   rename_i h0;rw [ae h0];split at h
   ·cases h
   rename_i h1;rw [ae h1];have hk : p.kind = 2 := by
    unfold nf at h0; rw [ae oM] at h0; exact (cJ.1 h0).1
   obtain ⟨h2, h3, h4⟩ := BT (rd := rd) (g := vG rd (k + 1) p r) (bw := fun x => (oZ rd k x.child).length) (Q := fun i x t => x.child ∈ t /\ mw rd k x.child /\ mD rd k x.child (gL r (nt p i))) (fun hq hw => ⟨hw.sub _ hq.1, hq.2⟩) (fun j x s hx hh => by
      obtain ⟨a, b, c, d, e⟩ := ih (show (fL rd k x.child 4 (gL r (nt p (0 + j))) s).1 = 0 from hh);exact ⟨a, b, c, d, e⟩) h
   have jv : ∀ x ∈ p.items, x.child ∈ (jn (vG rd (k + 1) p r) 0 p.items (n :: s.1, s.2)).2.1 /\ mw rd k x.child := fun x hx => by
    obtain ⟨j, hj⟩ := Ng hx;exact ⟨(h4 j x hj).1, (h4 j x hj).2.1⟩
   refine ⟨rj.P1 hp h2 fun c hc => ?_, ?_, h2.sub n (fp ..), ⟨p, hp, hk, fun x hx => (jv x hx).2⟩, ⟨p, hp, by have := (fP (hr n p hp)).2.1 hk; omega, fun i x hx => by have := (h4 i x hx).2.2; rwa [r8] at this⟩⟩
   ·rw [dy hk] at hc;obtain ⟨x, hx, rfl⟩ := dd.1 hc;exact (jv x hx).1
   rw [h3, oZ, hp];simp only [List.length_flatMap]
theorem IK {rd : Int -> Option Pg} : ∀ {f : Nat} {left n : Int} {met : List Int}, met.length <= (iy rd f left n met).2.length
 | 0, _, _, _ => eW _
 | f + 1, left, n, met => by
  rw [iy];split
  ·exact eW _
  cases he : dK rd met n with
  | none => exact eW _
  | some p =>
   simp only;split
   ·simp
   split
   ·simp
   exact K1 sM (IK (f := f) (left := left - min 480 left) (n := p.next) (met := n :: met))
theorem SD {rd : Int -> Option Pg} {x : It} {r : Rg} {s : List Int × Int} : s.1.length <= (jI rd x r s).2.1.length := by
 unfold jI;split
 ·exact eW _
 split
 ·exact eW _
 exact IK
theorem FB {α : Type} {g : Nat -> α -> List Int × Int -> Int × List Int × Int} {bw : α -> Nat} (hg : ∀ i x s, (g i x s).1 = 0 -> s.1.length + bw x <= (g i x s).2.1.length) : ∀ {l : List α} {i : Nat} {s : List Int × Int}, (jn g i l s).1 = 0 -> s.1.length + (l.map bw).sum <= (jn g i l s).2.1.length
 | [], i, s, _ => by simp [jn]
 | y :: l, i, s, h => by
  rw [jn] at h ⊢;split at h
  ·rename_i h0; exact absurd h h0
  rename_i h0;rw [ae h0];have h1 := hg i y s (cJ.1 h0);have h2 := FB (g := g) (bw := bw) hg (l := l) (i := i + 1) (s := (g i y s).2) h;simp only [cG, K3]; omega
theorem Sg {rd : Int -> Option Pg} : ∀ {k : Nat} {n least : Int} {r : Rg} {s : List Int × Int}, (fL rd k n least r s).1 = 0 -> s.1.length + qe rd k n <= (fL rd k n least r s).2.1.length := by
 intro k
 induction k with
 | zero =>
  intro n least r s h;cases he : dK rd s.1 n with
  | none => rw [mA he] at h; cases h
  | some p =>
   rw [jf he] at h ⊢;split at h
   ·cases h
   rename_i h0;rw [ae h0];split at h
   ·cases h
   rename_i h1;rw [ae h1];have h2 := FB (g := vG rd 0 p r) (bw := fun _ => 0) (fun i x s _ => SD (rd := rd) (x := x) (r := r) (s := s)) h;rw [qe]; simp only [jO] at h2; omega
 | succ k ih =>
  intro n least r s h;cases he : dK rd s.1 n with
  | none => rw [mA he] at h; cases h
  | some p =>
   obtain ⟨-, hp⟩ := fM he;rw [jf he] at h ⊢;split at h
   ·cases h
   rename_i h0;rw [ae h0];split at h
   ·cases h
   rename_i h1;rw [ae h1];have h2 := FB (g := vG rd (k + 1) p r) (bw := fun x => qe rd k x.child) (fun i x s hh => ih hh) h;rw [qe, hp]; simp only [jO] at h2 ⊢; omega
structure w8 (rd : Int -> Option Pg) (t : Tr) (M : List Int) : Prop where
 form : ni t
 sound : mw rd (t.aK - 1).toNat t.root
 keys : mD rd (t.aK - 1).toNat t.root pJ
 items : ((oZ rd (t.aK - 1).toNat t.root).length : Int) = t.items
 nd : M.Nodup
 th : ∀ n ∈ M, rd n ≠ none
 root : t.root ∈ M
 kids : ∀ n ∈ M, ∀ k ∈ fX rd n, k ∈ M
 num : qe rd (t.aK - 1).toNat t.root <= M.length
 many : t.items <= 8 * M.length
theorem uw {rd : Int -> Option Pg} (hr : GJ rd) {t : Tr} (h : sj rd t = 0) : jC t \/ ∃ M, w8 rd t M := by
 by_cases hn : jC t
 ·exact .inl hn
 refine .inr ?_;unfold sj at h;rw [ae hn] at h
 by_cases hf : ni t
 ·rw [ae (not_not_intro hf)] at h;simp only at h
  split at h
  ·rename_i h0; exact absurd h h0
  rename_i h0;split at h
  ·cases h
  rename_i h1;have h0 := cJ.1 h0;have h1 := cJ.1 h1;obtain ⟨h2, h3, h4, h5, h6⟩ := P0 hr h0;have h7 := Sg h0;have h8 := Ks.P1 (rd := rd) (d := 0) (fun n p hp => (fP (hr n p hp)).1) (k := (t.aK - 1).toNat) (n := t.root) (least := U8 1 (t.aK - 1).toNat) (r := pJ) (s := ([], 0)) ⟨by decide, by decide, List.nodup_nil, (fun n hn => by cases hn)⟩;rw [h1] at h3;have h9 := h8.hi;rw [h1] at h9
  refine ⟨_, hf, h5, h6, by simp only [Int.zero_add] at h3; exact h3.symm, h8.nd, h8.th, h4, fun n hn k hk => ?_, by simpa using h7, by simpa using h9⟩;rcases h2.new n hn with oG | oG
  ·cases oG
  exact oG.2 k hk
 rw [ah hf] at h; cases h
def dz (ts : List Tr) : List Int := (ts.map Tr.root).filter fun n => decide (0 < n)
theorem Jg (ts : List Tr) (t : Tr) : dz (ts ++ [t]) = dz ts ++ (if 0 < t.root then [t.root] else []) := by
 unfold dz;rw [il, G3]
 by_cases h : 0 < t.root <;> simp [h]
theorem Cz (ts : List Tr) : (dz ts).length <= ts.length := by
 unfold dz;exact K1 (Nh _ _) sM
def gX (l : List Int) : Int := l.foldl (· + ·) 0
theorem qm (l : List Int) (x : Int) : gX (l ++ [x]) = gX l + x := by unfold gX; rw [List.foldl_append]; rfl
def ew (l : List Pr) : Int := gX (l.map fun x => (x.2.length : Int))
theorem yZ (l : List Pr) (x : Pr) : ew (l ++ [x]) = ew l + x.2.length := by unfold ew; rw [il, cG, j3, qm]
def cL (rd : Int -> Option Pg) (t : Tr) : List Pr := if t.root = 0 then [] else oZ rd (t.aK - 1).toNat t.root
def lh (rd : Int -> Option Pg) (n : Int) : Int := match rd n with
 | none => 0
 | some p => p.kind
def jP (rd : Int -> Option Pg) (k : Int) (W : List Int) : Int := ((W.filter fun n => decide (lh rd n = k)).length : Int)
def pE (rd : Int -> Option Pg) (W : List Int) : Int := ((W.filter fun n => decide (¬ lh rd n = 1 /\ ¬ lh rd n = 2)).length : Int)
theorem qv (rd : Int -> Option Pg) (k : Int) (W : List Int) (n : Int) : jP rd k (W ++ [n]) = jP rd k W + (if lh rd n = k then 1 else 0) := by
 unfold jP;rw [G3, cj]
 by_cases h : lh rd n = k <;> simp [h]
theorem B2 (rd : Int -> Option Pg) (W : List Int) (n : Int) : pE rd (W ++ [n]) = pE rd W + (if ¬ lh rd n = 1 /\ ¬ lh rd n = 2 then 1 else 0) := by
 unfold pE;rw [G3, cj]
 by_cases h : ¬ lh rd n = 1 /\ ¬ lh rd n = 2
 ·rw [ah h]; simp [h]
 rw [ae h, Ji, ae (by simpa using h)]; simp
theorem Pl (rd : Int -> Option Pg) (k : Int) (W : List Int) : 0 <= jP rd k W /\ jP rd k W <= W.length := by
 unfold jP;have := Nh (fun n => decide (lh rd n = k)) W;omega
theorem VU (rd : Int -> Option Pg) (W : List Int) : 0 <= pE rd W /\ pE rd W <= W.length := by
 unfold pE;have := Nh (fun n => decide (¬ lh rd n = 1 /\ ¬ lh rd n = 2)) W;omega
def GZ : Rp := ⟨0, 0, 0, 0, 0, 0, 0, []⟩
def C7 (rd : Int -> Option Pg) (ts us : List Tr) (W : List Int) : Rp := ⟨ts.length, W.length, jP rd 1 W, jP rd 2 W, pE rd W, gX (us.map Tr.items), gX (us.map fun t => ew (cL rd t)), []⟩
structure QV (rd : Int -> Option Pg) (roots W A : List Int) : Prop where
 nd : W.Nodup
 arr : A = roots ++ W.flatMap (fX rd)
 sub : ∀ a ∈ A, a ∈ W
 inn : ∀ n ∈ W, n ∈ A
 min : ∀ U : Int -> Prop, (∀ r ∈ roots, U r) -> (∀ n, U n -> ∀ k ∈ fX rd n, U k) -> ∀ n ∈ W, U n
structure acW (rd : Int -> Option Pg) (roots W st A : List Int) : Prop where
 nd : W.Nodup
 arr : A = roots ++ W.flatMap (fX rd)
 sub : ∀ a ∈ A, a ∈ W \/ a ∈ st
 inn : ∀ n, n ∈ W \/ n ∈ st -> n ∈ A
 min : ∀ U : Int -> Prop, (∀ r ∈ roots, U r) -> (∀ n, U n -> ∀ k ∈ fX rd n, U k) -> ∀ n, n ∈ W \/ n ∈ st -> U n
def yF (c A : List Int) : Prop := ∀ (i : Nat) (x : Int), c[i]? = some x -> ((A.count ((i : Int) + 1) : Nat) : Int) = x
def sD (rd : Int -> Option Pg) (c : List Int) (ts : List Tr) (rp : Rp) (er : Int) : Prop :=
 ((∃ t ∈ ts, sj rd t ≠ 0) /\ rp = GZ /\ er = 18) \/ ((∀ t ∈ ts, sj rd t = 0) /\ ∃ W A, QV rd (dz ts) W A ∧
  ((yF c A /\ rp = C7 rd ts ts W /\ er = 0) \/ (¬ yF c A /\ rp = GZ /\ er = 18)))
theorem LH {p : Pg} (h : bD p = 0) : (aA p).length <= 8 := by
 obtain ⟨h1, h2⟩ := ji h;unfold aA;rw [cj];have h3 := List.length_filterMap_le (fun x : It => if p.kind = 2 \/ (p.kind = 1 /\ x.child ≠ 0) then some x.child else none) p.items
 by_cases hk : p.kind = 3 /\ p.next ≠ 0
 ·rw [ah hk];have := h2.2.2 oM oM;simp only [jO, vM]; omega
 rw [ae hk];have := (fP h).1;simp only [vM]; omega
theorem Ls {rd : Int -> Option Pg} {size : Int} : ∀ {f : Nat} {n : Int} {out : bN}, (out.length : Int) <= max size 0 -> ((vV rd size f n out).2.length : Int) <= max size 0
 | 0, n, out, h => h
 | f + 1, n, out, h => by
  rw [vV];split
  ·exact h
  cases rd n with
  | none => simp; omega
  | some p =>
   simp only;split
   ·simp; omega
   split
   ·simp; omega
   rename_i h2;have h2 := cJ.1 h2;exact Ls (by rw [cj]; omega)
theorem St (rd : Int -> Option Pg) (x : It) : (fa rd x).2.length <= 3840 := by
 unfold fa;split
 ·simp
 rename_i h;split
 ·simp only; omega
 have := Ls (rd := rd) (size := x.size) (f := x.size.toNat) (n := x.child) (out := []) (by simp; omega);omega
theorem zj {rd : Int -> Option Pg} : ∀ {k : Nat} {n : Int}, ∀ x ∈ oZ rd k n, x.2.length <= 3840
 | 0, n, x, hx => by
  rw [oZ] at hx;cases h : rd n with
  | none => rw [h] at hx; cases hx
  | some p =>
   rw [h] at hx;obtain ⟨y, hy, rfl⟩ := dd.1 hx;exact St rd y
 | k + 1, n, x, hx => by
  rw [oZ] at hx;cases h : rd n with
  | none => rw [h] at hx; cases hx
  | some p =>
   rw [h] at hx;obtain ⟨y, hy, h2⟩ := G2.1 hx;exact zj x h2
theorem EW : ∀ {l : List Pr}, (∀ x ∈ l, x.2.length <= 3840) -> 0 <= ew l /\ ew l <= 3840 * l.length := by
 have key : ∀ n, ∀ l : List Pr, l.length = n -> (∀ x ∈ l, x.2.length <= 3840) -> 0 <= ew l /\ ew l <= 3840 * l.length := by
  intro n
  induction n with
  | zero => intro l hl _; rw [yS hl]; exact ⟨by decide, by decide⟩
  | succ n ih =>
   intro l hl h;obtain ⟨l0, x, rfl⟩ : ∃ l0 x, l = l0 ++ [x] := ⟨l.dropLast, l.getLast (by intro e; subst e; simp at hl), (PX _).symm⟩;have h1 := ih l0 (by simpa using hl) (fun y hy => h y (oT _ hy));have h2 := h x sM;rw [yZ, cj];simp only [jO, vM]; omega
 exact fun {l} h => key l.length l rfl h
theorem FW {rd : Int -> Option Pg} {t : Tr} : 0 <= ew (cL rd t) /\ ew (cL rd t) <= 3840 * (cL rd t).length := by
 unfold cL;split
 ·exact ⟨by decide, by decide⟩
 exact EW zj
theorem Sc {ol : List pH} {G : Gh} {R : List az} {w : World} (hw : ar G (aT (ol.flatMap dO) :: R) w) {x : pH} (hx : x ∈ ol) : ∃ a c, x.vv = .slice a x.pr.2.length c := by
 obtain ⟨A, B, rfl⟩ := PS hx;rw [Ac, ku] at hw;have h1 := hw.cD;rw [je] at h1
 have h2 : ar G (aT (A.flatMap dO) :: (dO x ++ B.flatMap dO ++ R)) w := ar.bH h1;have h3 : ar G (row 5 1 x.kv x.pr.1.length (dV x.pr.1) :: row 5 1 x.vv x.pr.2.length (dV x.pr.2) :: (B.flatMap dO ++ R)) w := by
  have h4 := h2.tail;rw [je] at h4;exact h4
 exact aM h3.tail

def Cm (kv : KV) (met : List Int) : Prop := ∀ n, ∃ b : Int, (fD kv n).getD (iQ 0) = iQ b /\ (0 < b ↔ n ∈ met)
theorem Cm.nil : Cm [] [] := fun n => ⟨0, rfl, by simp⟩
section
variable {G : Gh} {L R : List az} {w : World}
theorem n5 {cq vq mq : Nat} {V : Va} {kv : KV} {met : List Int} {keys n : Int} (aJ : V.Ok) (hw : ar G (ag cq [pQ vq, .map (some mq), iQ keys] 129 :: cX mq kv :: aZ vq V :: L) w) (hm : Cm kv met) :
  Calls prog 101 #[pQ cq, iQ n] w (dv fun r w' => ∃ (p' : bm) (A : az) (Dc : KV), r = .tuple #[gQ p'.cells, .bool (decide (dK V.rd met n ≠ none))] /\ jN p'.cells /\ Cm Dc (if (dK V.rd met n).isSome then n :: met else met) /\ ((dK V.rd met n = none /\ A = aT []) \/ (dK V.rd met n = some p'.pg /\ A = aR p' /\ p'.Sm)) ∧
   ar G (A :: ag cq [pQ vq, .map (some mq), iQ keys] 129 :: cX mq Dc :: aZ vq V :: L) w') := by
 obtain ⟨b, hb, hbm⟩ := hm n;refine al (args := [_, _]) func101 rfl ntmps101 rfl rfl ?_;refine z2 ?_;refine aN rfl bf hw rfl fun w b4 hw => ?_;refine z7 ?_;refine lD (v := pQ vq) au hw ?_;refine z1 ?_;refine an rfl cu rfl (fO (n := n) (hw.b [aZ vq V]) aJ) rfl fun w QY hv => ?_;obtain ⟨p', er, A, rfl, kP, iu, hw⟩ := hv;refine z3 ?_;refine aN rfl bf hw rfl fun w b6 hw => ?_;refine aL (cs := p'.cells) (l' := p'.cells) rfl tV rfl rfl ad rfl kP hw pK (by simp [bm.cells]) rfl rfl fun w hw => ?_;refine z8 ?_;refine bY (l1 := [3, 4, 5, 6, 7, 8, 9, 10]) (l2 := []) rfl (d := 27) (dK V.rd met n = none) rfl ?_ ?_
 ·
  refine aE (d := 19) rfl (fun h1 => ?_) fun h1 => ?_
  ·
   refine z9 ?_;refine cQ ?_
   first | (symm; rw [decide_eq_true_eq]; unfold dK; rcases iu with ⟨hr, -⟩ | ⟨-, h9, -⟩; (rw [hr]; simp); exact absurd h9 h1) | (refine cZ.2 ?_; rw [hbm]; obtain ⟨hr, -⟩ := iu.resolve_left (fun h => by have := h.2.1; omega); unfold dK; rw [hr]; by_cases h9 : n ∈ met <;> simp [h9])
  refine z1 ?_;refine C3 rfl rfl ?_;refine z1 ?_;refine lD (v := .map (some mq)) yi hw ?_;refine z1 ?_;refine zO (v0 := iQ b) rfl iW kY Ea rfl rfl hw pK hb ?_;refine z3 ?_;refine cQ ?_
  first | (symm; rw [decide_eq_true_eq]; unfold dK; rcases iu with ⟨hr, -⟩ | ⟨-, h9, -⟩; (rw [hr]; simp); exact absurd h9 h1) | (refine cZ.2 ?_; rw [hbm]; obtain ⟨hr, -⟩ := iu.resolve_left (fun h => by have := h.2.1; omega); unfold dK; rw [hr]; by_cases h9 : n ∈ met <;> simp [h9])
 refine aH ?_;refine aS rfl (fun h2 => ?_) fun h2 => ?_
 ·
  refine z2 ?_;refine aQ (v := gQ bI.cells) rfl rfl (fun w => kR) ?_;refine aL (cs := bI.cells) (l' := bI.cells) rfl tV rfl rfl ad rfl bF hw pK (by simp [bI, bm.cells]) rfl rfl fun w hw => ?_;refine z3 ?_;refine eK rfl rfl ⟨_, rfl, (aj.cw (l := bI.cells) ad hw pK rfl)⟩ rfl ⟨bI, aT [], kv, by rw [h2]; rfl, bF, by rw [h2]; exact hm, .inl ⟨h2, rfl⟩, ?_⟩;have hz : ∃ B, ar G (B :: ag b6 p'.cells 75 :: ag b4 bI.cells 75 :: ag cq [pQ vq, .map (some mq), iQ keys] 129 :: cX mq kv :: aZ vq V :: L) w := ⟨A, hw.b [A, ag b6 _ _, ag b4 _ _, ag cq _ _, cX _ _, aZ vq V]⟩;obtain ⟨B, hz⟩ := hz;exact ar.bH (M := []) hz.tail.tail.tail
 obtain ⟨p, hp⟩ : ∃ p, dK V.rd met n = some p := Xw.1 h2;obtain ⟨ZA, py⟩ := fM hp;obtain ⟨hr, -, rfl, ft⟩ := iu.resolve_left (fun h => by rw [h.1] at py; cases py);rw [py] at hr;cases hr;refine z6 ?_;refine lD (v := .map (some mq)) yi hw ?_;refine z1 ?_;refine Ru rfl tV iW kY rfl rfl rfl hw pK rfl fun w hw => ?_;refine z3 ?_;refine lA (l := p'.cells) ad hw ?_;refine aL (cs := p'.cells) (l' := p'.cells) rfl tV rfl rfl ad rfl kP hw pK (by simp [bm.cells]) rfl rfl fun w hw => ?_;refine z3 ?_;refine eK rfl rfl ⟨_, rfl, (aj.cw (l := p'.cells) ad hw pK rfl)⟩ rfl ⟨p', aR p', oh kv n (iQ 1), by rw [decide_eq_true h2], kP, ?_, .inr ⟨hp, rfl, ft⟩, ?_⟩
 ·rw [hp];intro j;rw [Qe]
  by_cases hj : j = n
  ·subst hj;exact ⟨1, by simp, by simp⟩
  obtain ⟨b', L5, acu⟩ := hm j;exact ⟨b', by rw [ae hj]; exact L5, by rw [acu]; simp [hj]⟩
 exact (hw.b [ag b6 _ _, ag b4 _ _, aR p', ag cq _ _, cX _ _, aZ vq V]).tail.tail
theorem wD {cq vq mq : Nat} {V : Va} {kv : KV} {met : List Int} {keys : Int} {x : bT} {r : yE} (aJ : V.Ok) (hw : ar G (ag cq [pQ vq, .map (some mq), iQ keys] 129 :: cX mq kv :: aZ vq V :: L) w) (hm : Cm kv met) (hk : 0 <= keys /\ keys <= 1000000000) (hx : x.Ok L) (NC : x.it.size <= 1000000000) (hr : r.Ok L) :
  Calls prog 102 #[pQ cq, gQ x.cells, gQ r.cells] w (dv fun u w' => ∃ Dc, u = iQ (jI V.rd x.it r.rg (met, keys)).1 /\ Cm Dc (jI V.rd x.it r.rg (met, keys)).2.1 /\ ar G (ag cq [pQ vq, .map (some mq), iQ (jI V.rd x.it r.rg (met, keys)).2.2] 129 :: cX mq Dc :: aZ vq V :: L) w') := by
 refine al (args := [_, _, _]) func102 rfl ntmps102 rfl rfl ?_;refine z2 ?_;refine bE rfl rfl rfl hw rfl fun w b4 hw => ?_;refine bE rfl rfl rfl hw rfl fun w b5 hw => ?_;refine z5 ?_;refine lA (l := r.cells) bj hw ?_;refine z1 ?_;refine lD (v := x.kv) ay hw ?_;refine an rfl uC rfl (wE (r := r) (k := x.it.key) hw (hr.of sF) (hx.k.of sF)) rfl fun w Uv hv => ?_;obtain ⟨rfl, hw⟩ := hv;refine jX rfl rfl ?_;refine aH ?_;refine aS rfl (fun h1 => ?_) fun h1 => ?_
 ·
  refine z5 ?_;exact br rfl rfl rfl (by
 have e : jI V.rd x.it r.rg (met, keys) = (11, met, keys) := by unfold jI; rw [ah (by simpa using h1)]
 rw [e];exact ⟨kv, rfl, hm, (hw.b [ag b5 _ _, ag b4 _ _]).tail.tail⟩)
 have aaU : lH r.rg x.it.key := by simpa using h1
 refine z6 ?_;refine lD (v := iQ keys) ai hw ?_;refine z3 ?_;refine bS (l' := [pQ vq, .map (some mq), iQ (keys + 1)]) rfl tV rfl rfl ai rfl hw pK rfl rfl rfl fun w hw => ?_;refine z4 ?_;refine lD (v := iQ x.it.size) ai hw ?_;refine z8 ?_;refine aS rfl (fun h2 => ?_) fun h2 => ?_
 ·
  refine z5 ?_;exact br rfl rfl rfl (by
 have e : jI V.rd x.it r.rg (met, keys) = (0, met, keys + 1) := by unfold jI; rw [ae (not_not_intro aaU), ah h2]
 rw [e];exact ⟨kv, rfl, hm, (hw.b [ag b5 _ _, ag b4 _ _, ag cq _ _]).tail.tail⟩)
 have e : jI V.rd x.it r.rg (met, keys) = ((iy V.rd x.it.size.toNat x.it.size x.it.child met).1, (iy V.rd x.it.size.toNat x.it.size x.it.child met).2, keys + 1) := by unfold jI; rw [ae (not_not_intro aaU), ae h2]
 rw [e];refine z5 ?_;refine lD (v := iQ x.it.child) ai hw ?_;refine z3 ?_;have hz := (hw.b [ag b5 _ _, ag b4 _ _, ag cq _ _, cX _ _, aZ vq V]).tail.tail;clear hw;have hw := hz;clear hz;refine cO (fun m e w => ∃ (f : Nat) (left n : Int) (gk : List Int) (Dc : KV), m = f + 1 /\ e = [(0, pQ cq), (7, iQ left), (8, iQ n)] /\ (left <= f /\ left <= 1000000000 /\ 0 <= left /\ Cm Dc gk /\ iy V.rd x.it.size.toNat x.it.size x.it.child met = iy V.rd f left n gk) /\ ar G (ag cq [pQ vq, .map (some mq), iQ (keys + 1)] 129 :: cX mq Dc :: aZ vq V :: L) w)
  (m := x.it.size.toNat + 1) sB
  ⟨x.it.size.toNat, x.it.size, x.it.child, met, kv, rfl, rfl, ⟨oM, NC, oM, hm, rfl⟩, hw⟩ ?_
 rintro m e w ⟨f, left, n, gk, Dc, rfl, rfl, ⟨Ba, hl9, hl0, JQ, qU⟩, hw⟩;refine z6 ?_;refine aS rfl (fun h3 => ?_) fun h3 => ?_
 ·
  obtain ⟨f, rfl⟩ : ∃ g, f = g + 1 := ⟨f - 1, oM⟩;rw [iy, ae oM] at qU;refine z6 ?_;refine an rfl nK rfl (n5 (n := n) (met := gk) aJ hw JQ) rfl fun w Wi hv => ?_;obtain ⟨p', A, Wv, rfl, kP, nA, iu, hw⟩ := hv;refine z3 ?_;refine aN rfl bf hw rfl fun w b9 hw => ?_;refine aL (cs := p'.cells) (l' := p'.cells) rfl tV rfl rfl ad rfl kP hw pK (by simp [bm.cells]) rfl rfl fun w hw => ?_;refine z6 ?_;refine jX rfl rfl ?_;refine z1 ?_;refine bY (l1 := [3, 4, 5, 6]) (l2 := []) rfl (d := 44) (¬ (dK V.rd gk n).map Pg.kind = some 3) rfl ?_ ?_
  ·
   refine aE (d := 40) rfl (fun h4 => ?_) fun h4 => ?_
   ·
    refine z5 ?_;refine cQ ?_
    first | exact (decide_eq_true (by have h5 : dK V.rd gk n = none := cJ.1 h4
                                      rw [h5]; simp)).symm | (obtain ⟨hp, -, -⟩ := iu.resolve_left (fun h => h4 (not_not_intro h.1)); rw [hp]; refine cZ.2 ?_; show ¬ p'.kind = 3 ↔ ¬ some p'.kind = some 3; simp) | (obtain ⟨hp, -, -⟩ := iu.resolve_left (fun h => (cJ.1 h4) h.1); rw [hp]; refine cZ.2 ?_; show ¬ p'.kind = 3 ↔ ¬ some p'.kind = some 3; simp)
   refine z1 ?_;refine lD (v := iQ p'.kind) ai hw ?_;refine z3 ?_;refine cQ ?_
   first | exact (decide_eq_true (by have h5 : dK V.rd gk n = none := cJ.1 h4
                                     rw [h5]; simp)).symm | (obtain ⟨hp, -, -⟩ := iu.resolve_left (fun h => h4 (not_not_intro h.1)); rw [hp]; refine cZ.2 ?_; show ¬ p'.kind = 3 ↔ ¬ some p'.kind = some 3; simp) | (obtain ⟨hp, -, -⟩ := iu.resolve_left (fun h => (cJ.1 h4) h.1); rw [hp]; refine cZ.2 ?_; show ¬ p'.kind = 3 ↔ ¬ some p'.kind = some 3; simp)
  refine aH ?_;refine aS rfl (fun h5 => ?_) fun h5 => ?_
  ·
   refine z5 ?_;exact br rfl rfl rfl (by
 have e2 : iy V.rd x.it.size.toNat x.it.size x.it.child met = (15, if (dK V.rd gk n).isSome then n :: gk else gk) := by
  rw [qU];cases he : dK V.rd gk n with
  | none => rfl
  | some p =>
   rw [he] at h5;simp only;rw [ah (by simpa using h5)];rfl
 rw [e2];exact ⟨Wv, rfl, nA, (hw.b [ag b9 _ _, A]).tail.tail⟩)
  obtain ⟨hp, rfl, ft⟩ := iu.resolve_left (fun h => h5 (by rw [h.1]; simp));rw [hp] at h5 nA qU;have Fk : p'.pg.kind = 3 := by simpa using h5
  simp only at qU;rw [ae (not_not_intro Fk)] at qU
  obtain ⟨da, dc, hd⟩ := ((aB ft pK).data.at hw).form;refine z4 ?_;refine yH rfl rfl rfl ?_;rw [Int.min_comm];refine Zc ?_;refine bt rfl rfl (aj.bx (v := .slice da p'.data.length dc) ay hw pK (by rw [<-hd]; rfl)) ?_;refine z4 ?_;refine bY (l1 := [6, 7, 8, 9, 10, 11, 12]) (l2 := []) rfl (d := 62) (¬ ((p'.data.length : Int) = min 480 left /\ (p'.next = 0 ↔ left - min 480 left = 0))) rfl ?_ ?_
  ·
   refine aE (d := 55) rfl (fun h6 => ?_) fun h6 => ?_
   ·
    refine z8 ?_;refine cQ ?_
    first | (symm; rw [decide_eq_true_eq]; exact fun h => h6 h.1) | exact cZ.2 ⟨fun h h2 => h (cZ.2 h2.2), fun h h2 => h ⟨cJ.1 h6, cZ.1 h2⟩⟩
   refine z1 ?_;refine lD (v := iQ p'.next) ai hw ?_;refine z3 ?_;refine Rt rfl kR N' rfl rfl ?_;refine z2 ?_;refine cQ ?_
   first | (symm; rw [decide_eq_true_eq]; exact fun h => h6 h.1) | exact cZ.2 ⟨fun h h2 => h (cZ.2 h2.2), fun h h2 => h ⟨cJ.1 h6, cZ.1 h2⟩⟩
  refine aH ?_;refine aS rfl (fun h7 => ?_) fun h7 => ?_
  ·
   refine z5 ?_;exact br rfl rfl rfl (by
 rw [ah (show ¬ ((p'.pg.data.length : Int) = min 480 left /\ (p'.pg.next = 0 ↔ left - min 480 left = 0)) from h7)] at qU;rw [qU];exact ⟨Wv, rfl, nA, (hw.b [ag b9 _ _, aR p']).tail.tail⟩)
  rw [ae (show ¬ ¬ ((p'.pg.data.length : Int) = min 480 left /\ (p'.pg.next = 0 ↔ left - min 480 left = 0)) from h7)] at qU;refine z3 ?_;refine lD (v := iQ p'.next) ai hw ?_;refine z2 ?_;exact ⟨f + 1, oM, [(0, _), (7, _), (8, _)], sB, f, left - min 480 left, p'.next, n :: gk, Wv, rfl, rfl, ⟨oM, oM, oM, nA, qU⟩, (hw.b [ag b9 _ _, aR p']).tail.tail⟩
 refine z6 ?_;exact br rfl rfl rfl (by
 rw [qU, CZ oM];exact ⟨Dc, rfl, JQ, hw⟩)
end
theorem Va.yP {V : Va} (h : V.Ok) : GJ V.rd := fun n p hp => Va.vL h hp
theorem Va.OF {V : Va} {n : Int} (h : V.rd n ≠ none) : 1 <= n /\ n <= (V.po.c.length : Int) := by
 unfold Va.rd at h;split at h
 ·exact absurd rfl h
 rename_i h1;have h1 : ¬ iF V.po.c n = 0 := h1;unfold iF at h1;split at h1
 ·assumption
 exact absurd rfl h1
theorem Va.tW {V : Va} (h : V.Ok) {met : List Int} (hn : met.Nodup) (hm : ∀ n ∈ met, V.rd n ≠ none) : met.length <= 65536 := by
 have h1 := ET hn (m := (List.range V.po.c.length).map fun i : Nat => (i : Int) + 1) (fun n hx => by
  have h2 := Va.OF (hm n hx);exact dd.2 ⟨(n - 1).toNat, sL.2 oM, oM⟩)
 rw [bA, R0] at h1;have := h.po.len;omega
theorem HT {p : Pg} (h : bD p = 0) (k : Nat) : nf k p ↔ (¬ p.level = k \/ ¬ (p.kind = 1 ↔ (k : Int) = 0)) \/ p.kind = 3 := by
 obtain ⟨h1, h2, h3, h4⟩ := ji h;unfold nf
 by_cases hk : k = 0
 ·rw [ah hk]
  by_cases h5 : p.kind = 1
  ·have := h2 h5; omega
  omega
 rw [ae hk]
 by_cases h5 : p.kind = 1
 ·have := h2 h5; omega
 by_cases h6 : p.kind = 2
 ·omega
 have := h4 h5 h6; omega
def Kl (k : Nat) : Prop := ∀ {G : Gh} {L : List az} {w : World} {cq vq mq : Nat} {V : Va} {kv : KV} {met : List Int} {keys n least : Int} {r : yE}, V.Ok -> ar G (ag cq [pQ vq, .map (some mq), iQ keys] 129 :: cX mq kv :: aZ vq V :: L) w -> Cm kv met -> Ks V.rd 0 (met, keys) -> r.Ok L →
 Calls prog 55 #[pQ cq, iQ n, iQ k, iQ least, gQ r.cells] w (dv fun u w' => ∃ Dc, u = iQ (fL V.rd k n least r.rg (met, keys)).1 /\ Cm Dc (fL V.rd k n least r.rg (met, keys)).2.1 /\ ar G (ag cq [pQ vq, .map (some mq), iQ (fL V.rd k n least r.rg (met, keys)).2.2] 129 :: cX mq Dc :: aZ vq V :: L) w')
section
variable {G : Gh} {L R : List az} {w : World}
theorem F6 {k : Nat} (hk : k <= 1000) (ih : ∀ j, k = j + 1 -> Kl j) {cq vq mq : Nat} {V : Va} {kv : KV} {met : List Int} {keys n least : Int} {r : yE} (aJ : V.Ok) (hw : ar G (ag cq [pQ vq, .map (some mq), iQ keys] 129 :: cX mq kv :: aZ vq V :: L) w) (hm : Cm kv met) (Ar : Ks V.rd 0 (met, keys)) (hr : r.Ok L) :
  Calls prog 55 #[pQ cq, iQ n, iQ k, iQ least, gQ r.cells] w (dv fun u w' => ∃ Dc, u = iQ (fL V.rd k n least r.rg (met, keys)).1 /\ Cm Dc (fL V.rd k n least r.rg (met, keys)).2.1 /\ ar G (ag cq [pQ vq, .map (some mq), iQ (fL V.rd k n least r.rg (met, keys)).2.2] 129 :: cX mq Dc :: aZ vq V :: L) w') := by
 refine al (args := [_, _, _, _, _]) func55 rfl ntmps55 rfl rfl ?_;refine z2 ?_;refine bE rfl rfl rfl hw rfl fun w b9 hw => ?_;refine z6 ?_;refine an rfl nK rfl (n5 (n := n) (met := met) aJ (hw.b [ag cq _ _, cX _ _, aZ vq V]) hm) rfl fun w v20 hv => ?_;obtain ⟨p', A, Wv, rfl, kP, nA, iu, hw⟩ := hv;refine z3 ?_;refine aN rfl bf hw rfl fun w mT hw => ?_;refine aL (cs := p'.cells) (l' := p'.cells) rfl tV rfl rfl ad rfl kP hw pK (by simp [bm.cells]) rfl rfl fun w hw => ?_;refine z7 ?_;refine jX rfl rfl ?_;refine z1 ?_;refine bY (l1 := [3, 4, 5, 6, 7]) (l2 := [8, 9, 10, 11, 12, 13, 14, 15, 16, 17, 18, 19, 20, 21]) rfl (d := 31) (dK V.rd met n = none \/ ¬ p'.level = (k : Int)) rfl ?_ ?_
 ·
  refine aE (d := 26) rfl (fun h1 => ?_) fun h1 => ?_
  ·
   refine z6 ?_;refine cQ ?_
   first | exact (decide_eq_true (Or.inl (cJ.1 h1))).symm | exact cZ.2 ⟨.inr, fun h => h.resolve_left (cJ.1 h1)⟩
  refine z1 ?_;refine lD (v := iQ p'.level) ai hw ?_;refine z4 ?_;refine cQ ?_
  first | exact (decide_eq_true (Or.inl (cJ.1 h1))).symm | exact cZ.2 ⟨.inr, fun h => h.resolve_left (cJ.1 h1)⟩
 refine z1 ?_;refine bY (l1 := [9, 10, 11, 12, 13, 14, 15]) (l2 := [16, 17, 18, 19, 20, 21]) rfl (d := 39) ((dK V.rd met n = none \/ ¬ p'.level = (k : Int)) \/ ¬ (p'.kind = 1 ↔ (k : Int) = 0)) rfl ?_ ?_
 ·
  refine aE (d := 32) rfl (fun h2 => ?_) fun h2 => ?_
  ·
   refine z8 ?_;refine cQ ?_
   first | exact (decide_eq_true (Or.inl h2)).symm | exact cZ.2 ⟨fun h => .inr (fun h3 => h (cZ.2 h3)), fun h h3 => h.resolve_left h2 (cZ.1 h3)⟩
  refine z1 ?_;refine lD (v := iQ p'.kind) ai hw ?_;refine z3 ?_;refine Rt rfl kR N' rfl rfl ?_;refine z2 ?_;refine cQ ?_
  first | exact (decide_eq_true (Or.inl h2)).symm | exact cZ.2 ⟨fun h => .inr (fun h3 => h (cZ.2 h3)), fun h h3 => h.resolve_left h2 (cZ.1 h3)⟩
 refine z1 ?_;refine bY (l1 := [17, 18, 19, 20]) (l2 := [21]) rfl (d := 44) (((dK V.rd met n = none \/ ¬ p'.level = (k : Int)) \/ ¬ (p'.kind = 1 ↔ (k : Int) = 0)) \/ p'.kind = 3) rfl ?_ ?_
 ·
  refine aE (d := 40) rfl (fun h3 => ?_) fun h3 => ?_
  ·
   refine z5 ?_;refine cQ ?_
   first | exact (decide_eq_true (Or.inl h3)).symm | exact cZ.2 ⟨.inr, fun h => h.resolve_left h3⟩
  refine z1 ?_;refine lD (v := iQ p'.kind) ai hw ?_;refine z3 ?_;refine cQ ?_
  first | exact (decide_eq_true (Or.inl h3)).symm | exact cZ.2 ⟨.inr, fun h => h.resolve_left h3⟩
 refine z2 ?_;refine aS rfl (fun h4 => ?_) fun h4 => ?_
 ·
  refine z5 ?_;exact br rfl rfl rfl (by
 rcases iu with ⟨he, rfl⟩ | ⟨he, rfl, ft⟩
 ·rw [mA he];rw [he] at nA;exact ⟨Wv, rfl, nA, (hw.b [ag mT _ _, aT [], ag b9 _ _]).tail.tail.tail⟩
 ·have tD := Va.yP aJ n _ (fM he).2;rw [jf he, ah ((HT tD k).2 (by
   rcases h4 with (h4 | h4) | h4
   ·rcases h4 with h4 | h4
    ·rw [he] at h4; cases h4
    ·exact .inl (.inl h4)
   ·exact .inl (.inr h4)
   ·exact .inr h4))]
  rw [he] at nA;exact ⟨Wv, rfl, nA, (hw.b [ag mT _ _, aR p', ag b9 _ _]).tail.tail.tail⟩)
 obtain ⟨he, rfl, ft⟩ := iu.resolve_left (fun h => h4 (.inl (.inl (.inl h.1))));have tD := Va.yP aJ n _ (fM he).2;have SQ : ¬ nf k p'.pg := fun h => h4 (by
   rcases (HT tD k).1 h with (h | h) | h
   ·exact .inl (.inl (.inr h))
   ·exact .inl (.inr h)
   ·exact .inr h)
 have Ys := Ar.enter he;rw [jf he, ae SQ];rw [he] at nA;have kA : p'.pg.items.length = p'.l.length := by simp [bm.pg]
 have Yi := (fP tD).1;obtain ⟨ia, ic, hs⟩ := ft.form hw pK;rw [kA];refine z3 ?_;refine bt rfl rfl (aj.bx (v := .slice ia p'.l.length ic) ao hw pK (by rw [<-hs]; rfl)) ?_;refine z5 ?_;refine aS rfl (fun h5 => ?_) fun h5 => ?_
 ·
  refine z5 ?_;exact br rfl rfl rfl (by
 rw [ah h5];exact ⟨Wv, rfl, nA, (hw.b [ag mT _ _, aR p', ag b9 _ _]).tail.tail.tail⟩)
 rw [ae h5];obtain ⟨fin, BP⟩ : ∃ fin, fin = jn (vG V.rd k p'.pg r.rg) 0 p'.pg.items (n :: met, keys) := ⟨_, rfl⟩;rw [<-BP];refine z5 ?_;refine bt rfl rfl (aj.bx (v := .slice ia p'.l.length ic) ao hw pK (by rw [<-hs]; rfl)) ?_;refine z4 ?_;have hz := (hw.b [aR p', ag mT _ _, ag b9 _ _, ag cq _ _, cX _ _, aZ vq V]);clear hw;have hw := hz;clear hz;refine cO (fun m e w => ∃ (i : Nat) (gk : List Int) (rG : Int) (Dc : KV), i <= p'.l.length /\ m = p'.l.length - i /\ e = [(0, pQ cq), (2, iQ k), (9, pQ b9), (11, pQ mT), (52, .slice ia p'.l.length ic), (53, iQ p'.l.length), (54, iQ i)] /\ (Cm Dc gk /\ Ks V.rd (8 - i) (gk, rG) /\ fin = jn (vG V.rd k p'.pg r.rg) i (p'.pg.items.drop i) (gk, rG)) /\ ar G (aR p' :: ag mT p'.cells 75 :: ag b9 r.cells 64 :: ag cq [pQ vq, .map (some mq), iQ rG] 129 :: cX mq Dc :: aZ vq V :: L) w)
  (m := p'.l.length) sB
  ⟨0, n :: met, keys, Wv, fo _, rfl, rfl, ⟨nA, Ys, BP⟩, hw⟩ ?_
 rintro m e w ⟨i, gk, rG, Dc, hi, rfl, rfl, ⟨JQ, NL, L0⟩, hw⟩;refine z5 ?_;refine aS rfl (fun h6 => ?_) fun h6 => ?_
 ·
  have uP : i < p'.l.length := oM;obtain ⟨x, hx⟩ : ∃ x, p'.l[i]? = some x := ⟨_, cV uP⟩;have vu : (p'.l.map bT.cells)[i]? = some x.cells := by rw [dB, hx]; rfl
  have CM : p'.pg.items[i]? = some x.it := by show (p'.l.map bT.it)[_]? = _; rw [dB, hx]; rfl
  rw [dG CM, jn] at L0;have xp : ∀ R, p'.Ok (aR p' :: R) := fun R => aB ft .here
  have ot : ∀ R, x.Ok (aR p' :: R) := fun R => (xp R).its.it x (ed hx)
  have CR : ∀ R, aX (aR p' :: R) (gC 4 (.slice ia p'.l.length ic) (p'.l.map bT.cells)) := fun R => by rw [<-hs]; exact (xp R).its.sl
  obtain ⟨ib, io, rfl⟩ := (((CR _).of sF).at hw).nn (by rw [bA]; omega);have ab6 := Va.tW aJ NL.nd NL.th;have Tb := NL.lo;have hkh := NL.hi;simp only at Tb hkh ab6;obtain ⟨xa, xc, xa2, xc2, xO, MO, Vh⟩ := (ot _).form hw;refine z6 ?_;refine dD rfl aG aY rfl rfl ⟨oM, oM⟩ ?_;refine bt rfl rfl (aj.many (cs := x.cells) aI rfl (by have h := (((CR _).of sF).at hw).at vu; rw [fQ]; exact h)) ?_;refine aN rfl fV hw rfl fun w QS hw => ?_;refine z1 ?_;refine aL (cs := x.cells) (l' := x.cells) rfl tV rfl rfl aI rfl (by rw [Vh]; intro u hu; simp at hu; rcases hu with rfl | rfl | rfl | rfl <;> rfl) hw pK (by simp [bT.cells]) rfl rfl (fun w hw => ?_);refine Oc ?_;refine aS rfl (fun h7 => ?_) fun h7 => ?_
  ·
   obtain rfl : k = 0 := oM;have Hg : p'.pg.kind = 1 := by
    refine sN fun h => SQ ?_
    unfold nf; rw [ah rfl]; exact h
   have NC := P9 tD Hg x.it (ed CM);have hz := hw.b [ag cq _ _, cX _ _, aZ vq V, aR p'];refine z2 ?_;refine lA (l := x.cells) aI hw ?_;refine lA (l := r.cells) bj hw ?_;refine an rfl vk rfl (wD (x := x) (r := r) aJ hz JQ oM (ot _) oM (hr.of sF)) rfl fun w v64 hv => ?_;obtain ⟨kv3, rfl, LV, hw⟩ := hv;have gD : vG V.rd 0 p'.pg r.rg i x.it (gk, rG) = jI V.rd x.it r.rg (gk, rG) := rfl;rw [gD] at L0;have Td : Ks V.rd (8 - (i + 1)) (jI V.rd x.it r.rg (gk, rG)).2 := Ks.item (NL.mono oM);obtain ⟨res, bQ⟩ : ∃ res, res = jI V.rd x.it r.rg (gk, rG) := ⟨_, rfl⟩;rw [<-bQ] at L0 LV hw Td
   rw [<-bQ];refine z7 ?_;refine aS rfl (fun h8 => ?_) fun h8 => ?_
   ·
    refine z6 ?_;exact br rfl rfl rfl (by
 rw [ah h8] at L0;rw [L0];exact ⟨kv3, rfl, LV, (hw.b [ag QS _ _, ag mT _ _, aR p', ag b9 _ _]).tail.tail.tail.tail⟩)
   refine z5 ?_;rw [ae h8] at L0;exact ⟨p'.l.length - (i + 1), oM, [(0, _), (2, _), (9, _), (11, _), (52, _), (53, _), (54, iQ (i + 1 : Nat))], sB, i + 1, res.2.1, res.2.2, kv3, oM, rfl, rfl, ⟨LV, Td, L0⟩, (hw.b [ag QS _ _, aR p', ag mT _ _, ag b9 _ _]).tail⟩
  obtain ⟨j, rfl⟩ : ∃ j, k = j + 1 := ⟨k - 1, oM⟩;refine z3 ?_;refine bt rfl rfl (aj.bx (v := .slice xa x.it.key.length xc) ay hw pK (by rw [<-xO]; rfl)) ?_;refine aQ (v := .agg #[.slice xa x.it.key.length xc, nQ, .bool true]) rfl rfl (fun w => kR) ?_;refine aN rfl mN hw rfl fun w Rf hw => ?_;refine aL (cs := [.slice xa x.it.key.length xc, nQ, .bool true]) (l' := [.slice xa x.it.key.length xc, nQ, .bool true]) rfl tV rfl rfl bj rfl (by intro u hu; simp at hu; rcases hu with rfl | rfl | rfl <;> rfl) hw pK sM rfl rfl (fun w hw => ?_);refine aH ?_;refine mZ (fun e w => ∃ ow : yE, e = [(0, pQ cq), (2, iQ ((j + 1 : Nat) : Int)), (9, pQ b9), (11, pQ mT), (14, pQ QS), (16, pQ Rf), (52, .slice (some ⟨ib, io, none⟩) p'.l.length ic), (53, iQ p'.l.length), (54, iQ i)] /\ (ow.rg = nt p'.pg i /\ ∀ R, ow.Ok (aR p' :: R)) /\ ar G (ag Rf ow.cells 64 :: ag QS x.cells 114 :: aR p' :: ag mT p'.cells 75 :: ag b9 r.cells 64 :: ag cq [pQ vq, .map (some mq), iQ rG] 129 :: cX mq Dc :: aZ vq V :: L) w) ?_ ?_
  ·
   refine z5 ?_;refine bt rfl rfl (aj.bx (v := .slice (some ⟨ib, io, none⟩) p'.l.length ic) ao hw pK (by rw [<-hs]; rfl)) ?_;refine z3 ?_;refine aS rfl (fun h9 => ?_) fun h9 => ?_
   ·
    obtain ⟨y, hy⟩ : ∃ y, p'.l[i + 1]? = some y := ⟨_, cV oM⟩;have NB : (p'.l.map bT.cells)[i + 1]? = some y.cells := by rw [dB, hy]; rfl
    have Wx : p'.pg.items[i + 1]? = some y.it := by show (p'.l.map bT.it)[_]? = _; rw [dB, hy]; rfl
    have GM : ∀ R, y.Ok (aR p' :: R) := fun R => (xp R).its.it y (ed hy)
    obtain ⟨ya, yc, Fc⟩ := (((GM _).k.of sF).at hw).form;refine bu [0, 1, 2, 3, 4, 5, 6, 7, 8, 9, 10] bK kR ?_;replace hw := hw.drawn (w.drawn + 1);refine z1 ?_;refine bt rfl rfl (aj.bx (v := .slice (some ⟨ib, io, none⟩) p'.l.length ic) ao hw pK (by rw [<-hs]; rfl)) ?_;refine z2 ?_;refine dD rfl aG aY rfl rfl ⟨oM, oM⟩ ?_;refine cy rfl cE rfl ?_;refine bt rfl rfl (aj.one (v := .slice ya y.it.key.length yc) ay (by rw [<-Fc]; exact (((CR _).of sF).at hw).cell (j := 0) NB rfl)) ?_;refine z1 ?_;refine rW (l' := [.slice xa x.it.key.length xc, nQ, .bool false]) rfl tV rfl rfl cr rfl hw pK rfl rfl (fun w hw q' hq => ?_) fun w hw => ?_
    ·
     have hq := a9 (l := [6, 1]) kR hq;simp only [bB, cW, or_false] at hq;rcases hq with rfl | rfl
     ·exact aV rfl rfl rfl (aj.one (v := .slice ya y.it.key.length yc) ay (by rw [<-Fc]; exact (((CR _).of sF).at hw).cell (j := 0) NB rfl))
     exact aV rfl rfl rfl (aj.bx (v := .slice (some ⟨ib, io, none⟩) p'.l.length ic) ao hw pK (by rw [<-hs]; rfl))
    refine z1 ?_;refine bS (l' := [.slice xa x.it.key.length xc, .slice ya y.it.key.length yc, .bool false]) rfl tV rfl rfl ay rfl hw pK rfl rfl kR fun w hw => ?_;refine aH ?_;have hz := hw.b [ag Rf _ _, ag QS _ _, aR p', ag mT _ _, ag b9 _ _];exact ⟨[(0, _), (2, _), (9, _), (11, _), (14, _), (16, _), (52, _), (53, _), (54, _)], sB, ⟨⟨x.it.key, y.it.key, false⟩, .slice xa x.it.key.length xc, .slice ya y.it.key.length yc⟩, rfl, ⟨(Ib CM Wx).symm, fun R => ⟨by rw [<-xO]; exact (ot R).k, by rw [<-Fc]; exact (GM R).k, (ot R).sk, (GM R).sk⟩⟩, hz⟩
   refine eH ?_;have hz := hw.b [ag Rf _ _, ag QS _ _, aR p', ag mT _ _, ag b9 _ _];exact ⟨[(0, _), (2, _), (9, _), (11, _), (14, _), (16, _), (52, _), (53, _), (54, _)], sB, ⟨⟨x.it.key, [], true⟩, .slice xa x.it.key.length xc, nQ⟩, rfl, ⟨(Ic CM oM).symm, fun R => ⟨by rw [<-xO]; exact (ot R).k, Db, (ot R).sk, n'⟩⟩, hz⟩
  clear hw;rintro e w ⟨ow, rfl, ⟨how, Ym⟩, hw⟩;refine bu [0, 1, 2, 3, 4, 5, 6, 7, 8, 9] bK kR ?_;replace hw := hw.drawn (w.drawn + 1);refine z2 ?_;refine lD (v := iQ x.it.child) ai hw ?_;refine z2 ?_;have Tn : ((j + 1 : Nat) : Int) - 1 = j := oM;rw [Tn];refine lA (l := r.cells) bj hw ?_;refine lA (l := ow.cells) bj hw ?_;refine dL rfl yy rfl (AI (a := r) (b := ow) hw (hr.of sF) ((Ym _).of sF)) (fun w v90 hv q' hq => ?_) fun w v90 hv => ?_
  ·
   obtain ⟨r', rfl, JK, Di, hw⟩ := hv;have hq := a9 (l := [2]) kR hq;simp only [bB, cW, or_false] at hq;subst hq;exact aV rfl rfl rfl (aj.bx (v := iQ x.it.child) ai hw pK rfl)
  obtain ⟨r', rfl, JK, Di, hw⟩ := hv;have GO := EU hr.sl hr.sh (Ym []).sl (Ym []).sh;rw [<-JK] at GO;simp only [tR, j4, jG] at hw
  have hz := hw.b [ag cq _ _, cX _ _, aZ vq V, row 5 1 r'.lv _ _, row 5 1 r'.hv _ _];refine an rfl n6 rfl (@ih j rfl G _ _ cq vq mq V Dc gk rG x.it.child 4 r' aJ hz JQ (NL.mono (fo _)) (EB GO.1 GO.2 pK pK)) kR fun w v91 hv => ?_;obtain ⟨kv3, rfl, LV, hw⟩ := hv;rw [JK, how] at LV hw;rw [JK, how];have gD : vG V.rd (j + 1) p'.pg r.rg i x.it (gk, rG) = fL V.rd j x.it.child 4 (gL r.rg (nt p'.pg i)) (gk, rG) := rfl;rw [gD] at L0
  have Td : Ks V.rd (8 - (i + 1)) (fL V.rd j x.it.child 4 (gL r.rg (nt p'.pg i)) (gk, rG)).2 := Ks.P1 (fun n p hnp => (fP (Va.yP aJ n p hnp)).1) (NL.mono oM);obtain ⟨res, bQ⟩ : ∃ res, res = fL V.rd j x.it.child 4 (gL r.rg (nt p'.pg i)) (gk, rG) := ⟨_, rfl⟩;rw [<-bQ] at L0 LV hw Td;rw [<-bQ];refine z7 ?_;refine aS rfl (fun oG => ?_) fun oG => ?_
  ·
   refine z6 ?_;exact br rfl rfl rfl (by
 rw [ah oG] at L0;rw [L0];exact ⟨kv3, rfl, LV, (hw.b [row 5 1 r'.lv _ _, row 5 1 r'.hv _ _, ag Rf _ _, ag QS _ _, aR p', ag mT _ _, ag b9 _ _]).tail.tail.tail.tail.tail.tail.tail⟩)
  refine z5 ?_;rw [ae oG] at L0;exact ⟨p'.l.length - (i + 1), oM, [(0, _), (2, _), (9, _), (11, _), (52, _), (53, _), (54, iQ (i + 1 : Nat))], sB, i + 1, res.2.1, res.2.2, kv3, oM, rfl, rfl, ⟨LV, Td, L0⟩, (hw.b [row 5 1 r'.lv _ _, row 5 1 r'.hv _ _, ag Rf _ _, ag QS _ _, aR p', ag mT _ _, ag b9 _ _]).tail.tail.tail.tail⟩
 refine z6 ?_;exact br rfl rfl rfl (by
 rw [u0 oM, jn] at L0;rw [L0];exact ⟨Dc, rfl, JQ, (hw.b [aR p', ag mT _ _, ag b9 _ _]).tail.tail.tail⟩)
theorem wC (k : Nat) (hk : k <= 1000) : Kl k := by
 induction k with
 | zero =>
  intro G L w cq vq mq V kv met keys n least r aJ hw hm Ar hr;exact F6 hk (fun j h => absurd h oM) aJ hw hm Ar hr
 | succ k ih =>
  intro G L w cq vq mq V kv met keys n least r aJ hw hm Ar hr;have h0 : ∀ j, k + 1 = j + 1 -> Kl j := by
   intro j h;have : j = k := oM;rw [this];exact @ih oM
  exact F6 hk h0 aJ hw hm Ar hr
end
def EvK (w : World) : Prop := Rd w ⟨0, 0, none⟩ [nQ, nQ, .bool true]
theorem Nl {rd : Int -> Option Pg} (hr : GJ rd) {n : Int} {r : Rg} {s : List Int × Int} : fL rd 0 n 1 r s = fL rd 0 n 0 r s := by
 cases he : dK rd s.1 n with
 | none => rw [mA he, mA he]
 | some p =>
  rw [jf he, jf he]
  by_cases hw : nf 0 p
  ·rw [ah hw, ah hw]
  rw [ae hw, ae hw];have hk : p.kind = 1 := by unfold nf at hw; rw [ah rfl] at hw; exact cJ.1 hw
  have := (fP (hr n p (fM he).2)).2.2.1 hk;rw [ae oM, ae oM]
section
variable {G : Gh} {L R : List az} {w : World}
theorem Hw {vq : Nat} {V : Va} {t : Tr} (aJ : V.Ok) (hw : ar G (aZ vq V :: L) w) (Q0 : aX L EvK) :
  Calls prog 24 #[pQ vq, gQ (aC t)] w (dv fun u w' => u = iQ (sj V.rd t) /\ ar G (aZ vq V :: L) w') := by
 refine al (args := [_, _]) func24 rfl ntmps24 rfl rfl ?_;refine z2 ?_;refine bE rfl rfl rfl hw rfl fun w b3 hw => ?_;refine z5 ?_;refine lA (l := aC t) aF hw ?_;refine aQ (v := gQ (aC kp)) rfl rfl (fun w => kR) ?_;refine qx (v := .bool (decide (jC t))) rfl kR rfl rfl (fun w' => by
  rw [Sem.run_bind, run_eqGuard_agg w' _ _ _ _ _ _ kR, Result.andThen_ok, run_eql_struct, KR 9998];rfl) ?_
 refine aH ?_;refine aS rfl (fun h1 => ?_) fun h1 => ?_
 ·
  refine z5 ?_;exact br rfl rfl rfl (by
 have e : sj V.rd t = 0 := by unfold sj; rw [ah h1]
 rw [e];exact ⟨rfl, hw.tail⟩)
 refine z5 ?_;refine lD (v := iQ t.root) ai hw ?_;refine z2 ?_;refine bY (l1 := [4, 5, 6, 7]) (l2 := [8, 9, 10, 11, 12, 13, 14, 15, 16, 17]) rfl (d := 17) (t.root = 0 \/ t.aK < 1) rfl ?_ ?_
 ·
  refine aE (d := 13) rfl (fun h2 => ?_) fun h2 => ?_
  ·
   refine z5 ?_;refine cQ ?_;exact dC
  refine z1 ?_;refine lD (v := iQ t.aK) ai hw ?_;refine z3 ?_;refine cQ ?_;exact dC
 refine z1 ?_;refine bY (l1 := [9, 10, 11, 12]) (l2 := [13, 14, 15, 16, 17]) rfl (d := 22) (t.root = 0 \/ t.aK < 1 \/ 12 < t.aK) rfl ?_ ?_
 ·
  refine aE (d := 18) rfl (fun h3 => ?_) fun h3 => ?_
  ·
   refine z5 ?_;refine cQ ?_;exact dC
  refine z1 ?_;refine lD (v := iQ t.aK) ai hw ?_;refine z3 ?_;refine cQ ?_;exact dC
 refine z1 ?_;refine bY (l1 := [14, 15, 16, 17]) (l2 := []) rfl (d := 27) (t.root = 0 \/ t.aK < 1 \/ 12 < t.aK \/ t.items < 1) rfl ?_ ?_
 ·
  refine aE (d := 23) rfl (fun h4 => ?_) fun h4 => ?_
  ·
   refine z5 ?_;refine cQ ?_;exact dC
  refine z1 ?_;refine lD (v := iQ t.items) ai hw ?_;refine z3 ?_;refine cQ ?_;exact dC
 refine aH ?_;refine aS rfl (fun h5 => ?_) fun h5 => ?_
 ·
  refine z5 ?_;exact br rfl rfl rfl (by
 have e : sj V.rd t = 5 := by unfold sj; rw [ae h1, ah (fun h => by unfold ni at h; omega)]
 rw [e];exact ⟨rfl, hw.tail⟩)
 have htf : ni t := by unfold ni; omega
 have e : sj V.rd t = if (fL V.rd (t.aK - 1).toNat t.root (U8 1 (t.aK - 1).toNat) pJ ([], 0)).1 ≠ 0 then (fL V.rd (t.aK - 1).toNat t.root (U8 1 (t.aK - 1).toNat) pJ ([], 0)).1 else if ¬ (fL V.rd (t.aK - 1).toNat t.root (U8 1 (t.aK - 1).toNat) pJ ([], 0)).2.2 = t.items then 4 else 0 := by
  unfold sj; rw [ae h1, ae (not_not_intro htf)]
 refine z4 ?_;refine Rv rfl hw rfl fun w m29 hw => ?_;refine aQ (v := .agg #[pQ vq, .map (some m29), iQ 0]) rfl rfl (fun w => kR) ?_;refine bE rfl rfl rfl hw rfl fun w HO hw => ?_;refine z7 ?_;refine lD (v := iQ t.root) ai hw ?_;refine z1 ?_;refine lD (v := iQ t.aK) ai hw ?_;refine z2 ?_;refine lD (v := iQ t.aK) ai hw ?_;refine yH rfl rfl rfl ?_;refine bt rfl rfl (aj.many (cs := [nQ, nQ, .bool true]) bj rfl ((Q0.of sF).at hw)) ?_;obtain ⟨k, hk⟩ : ∃ k : Nat, t.aK - 1 = (k : Int) := ⟨(t.aK - 1).toNat, oM⟩;have hkt : (t.aK - 1).toNat = k := oM;rw [hkt] at e;rw [hk];have S9 : fL V.rd k t.root (U8 1 k) pJ ([], 0) = fL V.rd k t.root (min t.aK 2) pJ ([], 0) := by
  unfold U8;rw [ah rfl]
  by_cases Yu : k = 0
  ·subst Yu;rw [ah rfl, show min t.aK 2 = 1 by omega];exact (Nl (Va.yP aJ)).symm
  rw [ae Yu, show min t.aK 2 = 2 by omega]
 rw [S9] at e;have hz := hw.b [ag HO _ _, cX _ _, aZ vq V];refine an rfl n6 rfl (@wC k oM G _ _ HO vq m29 V [] [] 0 t.root (min t.aK 2) ⟨pJ, nQ, nQ⟩ aJ hz Cm.nil ⟨by decide, by decide, List.nodup_nil, (fun n hn => by cases hn)⟩ ⟨Db, Db, n', n'⟩) rfl fun w Zg hv => ?_;obtain ⟨Dc, rfl, ZD, hw⟩ := hv;obtain ⟨res, bQ⟩ : ∃ res, res = fL V.rd k t.root (min t.aK 2) pJ ([], 0) := ⟨_, rfl⟩;have hw : ar G (ag HO [pQ vq, .map (some m29), iQ res.2.2] 129 :: cX m29 Dc :: aZ vq V :: ag b3 (aC t) 62 :: L) w := by rw [bQ]; exact hw
 rw [<-bQ] at e;rw [show fL V.rd k t.root (min t.aK 2) (yE.rg ⟨pJ, nQ, nQ⟩) ([], 0) = res from bQ.symm];refine z7 ?_;refine aS rfl (fun h6 => ?_) fun h6 => ?_
 ·
  refine z6 ?_;exact br rfl rfl rfl (by
 rw [ah h6] at e;rw [e];exact ⟨rfl, (hw.b [ag HO _ _, cX _ _, ag b3 _ _]).tail.tail.tail⟩)
 rw [ae h6] at e;refine z3 ?_;refine bu [0, 1, 2, 3, 4, 5, 6] bK kR ?_;replace hw := hw.drawn (w.drawn + 1);refine z3 ?_;refine lD (v := iQ res.2.2) ai hw ?_;refine z1 ?_;refine lD (v := iQ t.items) ai hw ?_;refine z2 ?_;refine aS rfl (fun h7 => ?_) fun h7 => ?_
 ·
  refine z5 ?_;exact br rfl rfl rfl (by
 rw [ah h7] at e;rw [e];exact ⟨rfl, (hw.b [ag HO _ _, cX _ _, ag b3 _ _]).tail.tail.tail⟩)
 refine z6 ?_;exact br rfl rfl rfl (by
 rw [ae h7] at e;rw [e];exact ⟨rfl, (hw.b [ag HO _ _, cX _ _, ag b3 _ _]).tail.tail.tail⟩)
end
def nB (k : bN) : bN := if iJ k then k else k ++ [0]
section
variable {G : Gh} {L R : List az} {w : World}
theorem J3 {v : Value} {k : bN} (hw : ar G L w) (kl : aX L (kL v k)) (hk : k.length < 24) : Calls prog 195 #[v] w (dv fun r w' => ar G (row 5 1 r (k ++ [0]).length (dV (k ++ [0])) :: L) w') := by
 obtain ⟨a, cap, rfl⟩ := (kl.at hw).form;refine al (args := [_]) func195 rfl ntmps195 rfl rfl ?_;refine Oc ?_;refine aS rfl (fun h1 => ?_) fun h1 => ?_
 ·
  refine z3 ?_;refine an rfl fE rfl (gp (m := 1) hw (kl.of sF) (by unfold bz; omega) oM) rfl (fun w v7 hv => ?_);have hw : ar G (row 5 1 v7 k.length (dV k) :: _) _ := hv;refine hY (cs := [.int .u8 0]) rfl bL dX k8 dM rfl rfl rfl hw rfl fun w b8 hw => ?_;refine gP (m := k.length) (k := 1) (news := [.int .u8 0]) rfl bL dX pk k8 rfl rfl hw pK (Rd.nP hw pK) rfl (by intro u hu; simp at hu; subst hu; rfl) mL oM rfl (fun w v9 hw => ?_);refine z3 ?_;exact br rfl rfl rfl (by
 have hz := (hw.b [ag b8 _ _, row 5 1 v9 _ _]).tail;rw [uG, cj]; exact hz)
 exact absurd hk oM
theorem J2 {v : Value} {k : bN} (hw : ar G L w) (kl : aX L (kL v k)) (hk : k.length <= 24) : Calls prog 189 #[v] w (dv fun r w' => ar G (row 5 1 r (nB k).length (dV (nB k)) :: L) w') := by
 refine al (args := [_]) func189 rfl ntmps189 rfl rfl ?_;refine z8 ?_;refine an rfl wR rfl (yt hw kl) rfl fun w v4 hv => ?_;obtain ⟨rfl, hw⟩ := hv;refine aH ?_;refine aS rfl (fun h1 => ?_) fun h1 => ?_
 ·
  refine z3 ?_;refine an rfl fE rfl (gp (m := 0) hw (kl.of sF) (by unfold bz; omega) oM) rfl (fun w v6 hv => ?_);have hw : ar G (row 5 1 v6 k.length (dV k) :: _) _ := hv;refine z3 ?_;exact br rfl rfl rfl (by
 have e : nB k = k := by unfold nB; rw [ah h1]
 rw [e]; exact hw)
 refine z4 ?_;refine an rfl HL rfl (J3 hw (kl.of sF) (by unfold iJ at h1; omega)) rfl (fun w v8 hv => ?_);have hw : ar G (row 5 1 v8 (k ++ [0]).length (dV (k ++ [0])) :: _) _ := hv;refine z3 ?_;exact br rfl rfl rfl (by
 have e : nB k = k ++ [0] := by unfold nB; rw [ae h1]
 rw [e]; exact hw)
theorem Hx {r : yE} (hw : ar G L w) (hr : r.Ok L) (hk : r.rg.lo.length <= 24) : Calls prog 170 #[gQ r.cells] w (dv fun u w' => u = .bool (decide (¬ lH r.rg (nB r.rg.lo))) /\ ar G L w') := by
 refine al (args := [_]) func170 rfl ntmps170 rfl rfl ?_;refine z2 ?_;refine bE rfl rfl rfl hw rfl fun w b1 hw => ?_;refine z3 ?_;refine bu [0, 1, 2, 3, 4, 5, 6] bK kR ?_;replace hw := hw.drawn (w.drawn + 1);refine lA (l := r.cells) bj hw ?_;refine z1 ?_;refine lD (v := r.lv) ay hw ?_;refine dL rfl HK rfl (J2 hw (hr.lo.of sF) hk) (fun w v6 hv q' hq => ?_) fun w v6 hv => ?_
 ·
  have hw : ar G (row 5 1 v6 (nB r.rg.lo).length (dV (nB r.rg.lo)) :: _) _ := hv;have hq := a9 (l := [0]) kR hq;simp only [bB, cW, or_false] at hq;subst hq;exact aV rfl rfl rfl (aj.cw (l := r.cells) bj hw pK rfl)
 have hw : ar G (row 5 1 v6 (nB r.rg.lo).length (dV (nB r.rg.lo)) :: _) _ := hv;refine an rfl uC rfl (wE (r := r) (k := nB r.rg.lo) hw (hr.of sF) (vH rfl pK)) kR fun w v7 hv => ?_;obtain ⟨rfl, hw⟩ := hv;refine jX rfl rfl ?_;refine z3 ?_;exact br rfl rfl rfl ⟨rfl, hw.tail.tail⟩
end
def acR (F : List az -> Prop) (l : List bT) (k : Nat) (args : List Value) (M : List az) : Prop := ∃ x, l[l.length - 1 - k]? = some x /\ args = [iQ ((l.length : Int) - 1 - k), gQ x.cells] /\ F M
section
variable {G : Gh} {L R : List az} {w : World}
theorem lZ {a : Option Addr} {n c : Nat} (hw : ar G L w) : Calls prog 169 #[.slice a n c] w (dv fun r w' => ∃ b1, r = .func (.func 188) #[] #[pQ b1] /\ ar G (ag b1 [.slice a n c] 73 :: L) w') := by
 refine al (args := [_]) func169 rfl ntmps169 rfl rfl ?_;refine z2 ?_;refine bE rfl rfl rfl hw rfl fun w b1 hw => ?_;refine z4 ?_;refine mO (v1 := #[]) (v2 := #[pQ b1]) rfl (by intro z hz; simp at hz; subst hz; exact ⟨_, rfl⟩) sM (by simp only [oS, cG, j3]; rfl) ?_;refine z3 ?_;exact br rfl rfl rfl ⟨b1, rfl, hw⟩
theorem BJ {F : List az -> Prop} {l : List bT} {v : Value} {b1 : Nat} (kl : aX L (gC 4 v (l.map bT.cells))) (oW : l.length <= 10000000000000) (hF : F (ag b1 [v] 73 :: L)) : A8 prog 188 [pQ b1] G (ag b1 [v] 73 :: L) w l.length (acR F l) (ag b1 [v] 73 :: L) := by
 intro lq J Jx w hy hw;obtain ⟨sa, sc, h1, -, -⟩ := ((kl.of sF).at hw).form;rw [bA] at h1;subst h1;refine al (args := [_, _]) func188 rfl ntmps188 rfl rfl ?_;refine z2 ?_;refine lD ao hw ?_;refine z2 ?_;have e0 : (l.length : Int) - 1 = (l.length : Int) - 1 - (0 : Nat) := by simp
 rw [e0];refine z3 ?_;refine cO (fun m e w => ∃ k : Nat, k <= l.length /\ m = l.length - k /\ e = [(0, .func (.yield lq) #[] #[]), (1, pQ b1), (3, iQ ((l.length : Int) - 1 - k))] /\ ar G (J k :: ag b1 [.slice sa l.length sc] 73 :: L) w)
  (m := l.length) sB
  ⟨0, fo _, rfl, rfl, hw⟩ ?_
 rintro m e w ⟨k, hk, rfl, rfl, hw⟩;refine z6 ?_;refine aS rfl (fun h1 => ?_) fun h1 => ?_
 ·
  have nS : k < l.length := oM;obtain ⟨x, hx⟩ : ∃ x, l[l.length - 1 - k]? = some x := ⟨_, cV oM⟩;have vu : (l.map bT.cells)[l.length - 1 - k]? = some x.cells := by rw [dB, hx]; rfl
  obtain ⟨bb, oo, rfl⟩ := ((kl.of sF).at hw).nn (by rw [bA]; omega);have hi : ((l.length : Int) - 1 - k).toNat = l.length - 1 - k := oM;refine z7 ?_;refine lD ao hw ?_;refine z1 ?_;refine dD rfl aG aY rfl rfl ⟨oM, oM⟩ ?_;refine bt rfl rfl (aj.many aI rfl (by rw [hi]; exact ((kl.of sF).at hw).at vu)) ?_;refine p9 rfl rfl rfl (hy k _ _ w nS ⟨x, hx, rfl, hF⟩ hw) rfl fun w Xl hv => ?_;obtain ⟨bq, rfl, ue, Be⟩ := oN hv;refine nY rfl rfl ?_;refine aH ?_;refine fm rfl (fun h2 => ?_) fun h2 => ?_
  ·
   refine rm ?_;exact j7 rfl rfl (.inr (Be (by simpa using h2)))
  refine z6 ?_;have hw := ue (by simpa using h2);refine ⟨l.length - (k + 1), oM, [(0, _), (1, _), (3, iQ ((l.length : Int) - 1 - (k + 1 : Nat)))], ?_, k + 1, oM, rfl, rfl, hw⟩;rw [show ((l.length : Int) - 1 - (k + 1 : Nat)) = (l.length : Int) - 1 - k - 1 by omega];exact sB
 refine z1 ?_;exact j7 rfl rfl (.inl (by
 have wg : k = l.length := oM;subst wg; exact hw))
end
def j' (p : Pg) (r : Rg) (i : Nat) : Prop := lH (gL (nt p i) r) (nB (gL (nt p i) r).lo)
instance (p : Pg) (r : Rg) (i : Nat) : Decidable (j' p r i) := by unfold j'; infer_instance
def fA (p : Pg) (r : Rg) (k : Nat) : List Int := ((((List.range p.items.length).reverse).take k).filter fun i => decide (j' p r i)).map fun i => bh p.items i
theorem I5 {p : Pg} {r : Rg} {k : Nat} (hk : k < p.items.length) : fA p r (k + 1) = fA p r k ++ (if j' p r (p.items.length - 1 - k) then [bh p.items (p.items.length - 1 - k)] else []) := by
 unfold fA;have h : (List.range p.items.length).reverse[k]? = some (p.items.length - 1 - k) := by
  rw [List.getElem?_reverse (by simpa using hk), R0, R3 oM]
 rw [cP h, G3, il]
 by_cases hc : j' p r (p.items.length - 1 - k) <;> simp [hc]
theorem Cv (p : Pg) (r : Rg) (k : Nat) : (fA p r k).length <= k := by
 unfold fA;rw [bA];have h1 := Nh (fun i => decide (j' p r i)) ((List.range p.items.length).reverse.take k);have h2 := List.length_take_le k (List.range p.items.length).reverse;omega
abbrev wiJ (b5 b3 b2 : Nat) (r : yE) (p : bm) (A : List Int) : az := ex fun ov : Value => aT [ag b5 [ov] 22, row 3 1 ov A.length (bG A), ag b3 r.cells 64, ag b2 p.cells 75]
section
variable {G : Gh} {L R : List az} {w : World}
theorem F4 {p : bm} {r : yE} (hw : ar G L w) (hp : p.Ok L) (hr : r.Ok L) (Yi : p.l.length <= 8) (Yt : ∀ i, (gL (nt p.pg i) r.rg).lo.length <= 24) : Calls prog 138 #[gQ p.cells, gQ r.cells] w (dv fun u w' => ar G (row 3 1 u (fA p.pg r.rg p.l.length).length (bG (fA p.pg r.rg p.l.length)) :: L) w') := by
 obtain ⟨ia, ic, hs, -, -⟩ := (hp.its.sl.at hw).form;rw [bA] at hs;have kO : aX L (gC 4 (.slice ia p.l.length ic) (p.l.map bT.cells)) := by rw [<-hs]; exact hp.its.sl
 have kA : p.pg.items.length = p.l.length := by simp [bm.pg]
 refine al (args := [_, _]) func138 rfl ntmps138 rfl rfl ?_;refine z2 ?_;refine bE rfl rfl rfl hw rfl fun w b2 hw => ?_;refine bE rfl rfl rfl hw rfl fun w b3 hw => ?_;refine z4 ?_;refine aN rfl Kz hw rfl fun w b5 hw => ?_;refine z5 ?_;refine bt rfl rfl (aj.bx (v := .slice ia p.l.length ic) ao hw pK (by rw [<-hs]; rfl)) ?_;refine an rfl lJ rfl (lZ hw) rfl fun w v11 hv => ?_;obtain ⟨b1, rfl, hw⟩ := hv;refine z2 ?_;have hw := cf hw 3 1;have hz := hw.b [ag b5 _ _, row 3 1 (nQ) _ _, ag b3 _ _, ag b2 _ _, ag b1 _ _];clear hw;have hw : ar G (wiJ b5 b3 b2 r p (fA p.pg r.rg 0) :: ag b1 [.slice ia p.l.length ic] 73 :: L) w := ar.jq (nQ) (ar.bH hz);refine ru (e₀ := [(2, pQ b2), (3, pQ b3), (5, pQ b5)]) (fun k => wiJ b5 b3 b2 r p (fA p.pg r.rg k)) (fun _ => False) [] rfl k7 rfl sG rfl hw (fun k args M h => by obtain ⟨x, _, rfl, _⟩ := h; rfl) (BJ (F := fun M => p.Ok M /\ r.Ok M) (l := p.l) (kO.of sF) oM ⟨hp.of sF, hr.of sF⟩) ?_ ?_ ?_ ?_
 ·
  clear hw;intro l D1 o k args M w hk pD hw;obtain ⟨x, hx, rfl, hp, hr⟩ := pD;have kO : aX _ (gC 4 (.slice ia p.l.length ic) (p.l.map bT.cells)) := hs ▸ hp.its.sl;obtain ⟨ov, hw⟩ := hw.iv;have hw := hw.cD;simp only [j4, jG] at hw;obtain ⟨j, hj⟩ : ∃ j, j = p.l.length - 1 - k := ⟨_, rfl⟩;have hjc : (p.l.length : Int) - 1 - k = (j : Int) := oM
  (try unfold sQ at hx); rw [<-hj] at hx
  rw [hjc];have vu : (p.l.map bT.cells)[j]? = some x.cells := by rw [dB, hx]; rfl
  have CM : p.pg.items[j]? = some x.it := by show (p.l.map bT.it)[_]? = _; rw [dB, hx]; rfl
  have ot := hp.its.it x (ed hx);obtain ⟨xa, xc, xO⟩ := ((ot.k.of sF).at hw).form;obtain ⟨xa2, xc2, MO⟩ := ((ot.v.of sF).at hw).form;obtain ⟨ib, io, Fo⟩ := ((kO.of sF).at hw).nn (by rw [bA]; omega);have gD := I5 (p := p.pg) (r := r.rg) (k := k) oM;rw [kA, <-hj] at gD;have LM := Cv p.pg r.rg k;rw [Fo] at hs kO
  refine z5 ?_;refine aN rfl fV hw rfl fun w b7 hw => ?_;refine aL (cs := x.cells) (l' := x.cells) rfl tV rfl rfl aI rfl (by intro u hu; simp [bT.cells, xO, MO] at hu; rcases hu with rfl | rfl | rfl | rfl <;> rfl) hw pK (by simp [bT.cells]) rfl rfl (fun w hw => ?_);refine aH ?_;refine ⟨_, hw.pick (A := pt l o) pK, fun o' w hw => ?_⟩;refine z4 ?_;refine bt rfl rfl (aj.bx (v := .slice xa x.it.key.length xc) ay hw pK (by rw [<-xO]; rfl)) ?_;refine aQ (v := .agg #[.slice xa x.it.key.length xc, nQ, .bool true]) rfl rfl (fun w => kR) ?_;refine aN rfl mN hw rfl fun w b8 hw => ?_;refine aL (cs := [.slice xa x.it.key.length xc, nQ, .bool true]) (l' := [.slice xa x.it.key.length xc, nQ, .bool true]) rfl tV rfl rfl bj rfl (by intro u hu; simp at hu; rcases hu with rfl | rfl | rfl <;> rfl) hw pK sM rfl rfl (fun w hw => ?_);refine aH ?_;refine mZ (fun e w => ∃ ow : yE, e = [(2, pQ b2), (3, pQ b3), (5, pQ b5), (7, pQ b7), (8, pQ b8)] /\ (ow.rg = nt p.pg j /\ ow.Ok M) /\ ar G (ag b8 ow.cells 64 :: ag b7 x.cells 114 :: ag b5 [ov] 22 :: row 3 1 ov (fA p.pg r.rg k).length (bG (fA p.pg r.rg k)) :: ag b3 r.cells 64 :: ag b2 p.cells 75 :: pt l o' :: dY D1 :: M) w) ?_ ?_
  ·
   refine z5 ?_;refine bt rfl rfl (aj.bx (v := .slice (some ⟨ib, io, none⟩) p.l.length ic) ao hw pK (by rw [<-hs]; rfl)) ?_;refine z3 ?_;refine aS rfl (fun h1 => ?_) fun h1 => ?_
   ·
    obtain ⟨y, hy⟩ : ∃ y, p.l[j + 1]? = some y := ⟨_, cV oM⟩;have NB : (p.l.map bT.cells)[j + 1]? = some y.cells := by rw [dB, hy]; rfl
    have Wx : p.pg.items[j + 1]? = some y.it := by show (p.l.map bT.it)[_]? = _; rw [dB, hy]; rfl
    have GM := hp.its.it y (ed hy);obtain ⟨ya, yc, Fc⟩ := ((GM.k.of sF).at hw).form;refine bu [0, 1, 2, 3, 4, 5, 6, 7, 8, 9, 10] bK kR ?_;replace hw := hw.drawn (w.drawn + 1);refine z1 ?_;refine bt rfl rfl (aj.bx (v := .slice (some ⟨ib, io, none⟩) p.l.length ic) ao hw pK (by rw [<-hs]; rfl)) ?_;refine z2 ?_;refine dD rfl aG aY rfl rfl ⟨oM, oM⟩ ?_;refine cy rfl cE rfl ?_;refine bt rfl rfl (aj.one (v := .slice ya y.it.key.length yc) ay (by rw [<-Fc]; exact ((kO.of sF).at hw).cell (j := 0) NB rfl)) ?_;refine z1 ?_;refine rW (l' := [.slice xa x.it.key.length xc, nQ, .bool false]) rfl tV rfl rfl cr rfl hw pK rfl rfl (fun w hw q' hq => ?_) fun w hw => ?_
    ·
     have hq := a9 (l := [6, 1]) kR hq;simp only [bB, cW, or_false] at hq;rcases hq with rfl | rfl
     ·exact aV rfl rfl rfl (aj.one (v := .slice ya y.it.key.length yc) ay (by rw [<-Fc]; exact ((kO.of sF).at hw).cell (j := 0) NB rfl))
     exact aV rfl rfl rfl (aj.bx (v := .slice (some ⟨ib, io, none⟩) p.l.length ic) ao hw pK (by rw [<-hs]; rfl))
    refine z1 ?_;refine bS (l' := [.slice xa x.it.key.length xc, .slice ya y.it.key.length yc, .bool false]) rfl tV rfl rfl ay rfl hw pK rfl rfl kR fun w hw => ?_;refine aH ?_;have hz := hw.b [ag b8 _ _, ag b7 _ _, ag b5 _ _, row 3 1 ov _ _, ag b3 _ _, ag b2 _ _];exact ⟨[(2, _), (3, _), (5, _), (7, _), (8, _)], sB, ⟨⟨x.it.key, y.it.key, false⟩, .slice xa x.it.key.length xc, .slice ya y.it.key.length yc⟩, rfl, ⟨(Ib CM Wx).symm, ⟨by rw [<-xO]; exact ot.k, by rw [<-Fc]; exact GM.k, ot.sk, GM.sk⟩⟩, hz⟩
   refine eH ?_;have hz := hw.b [ag b8 _ _, ag b7 _ _, ag b5 _ _, row 3 1 ov _ _, ag b3 _ _, ag b2 _ _];exact ⟨[(2, _), (3, _), (5, _), (7, _), (8, _)], sB, ⟨⟨x.it.key, [], true⟩, .slice xa x.it.key.length xc, nQ⟩, rfl, ⟨(Ic CM oM).symm, ⟨by rw [<-xO]; exact ot.k, Db, ot.sk, n'⟩⟩, hz⟩
  clear hw;rintro e w ⟨ow, rfl, ⟨how, Ym⟩, hw⟩;refine z2 ?_;refine lA (l := ow.cells) bj hw ?_;refine lA (l := r.cells) bj hw ?_;refine an rfl yy rfl (AI (a := ow) (b := r) hw (Ym.of sF) (hr.of sF)) rfl fun w Zi hv => ?_;obtain ⟨r', rfl, JK, Di, hw⟩ := hv;have GO := EU Ym.sl Ym.sh hr.sl hr.sh;rw [<-JK] at GO;simp only [tR, j4, jG] at hw
  refine an rfl Gm rfl (Hx (r := r') hw (EB GO.1 GO.2 pK pK) (by rw [JK, how]; exact Yt j)) rfl (fun w Wi hv => ?_);obtain ⟨rfl, hw⟩ := hv;have qU : lH r'.rg (nB r'.rg.lo) ↔ j' p.pg r.rg j := by unfold j'; rw [JK, how]
  have hcx : bh p.pg.items j = x.it.child := lB hx;obtain ⟨oa, oc, rfl⟩ := aM (hw.pick (A := row 3 1 ov _ _) pK);refine jX rfl rfl ?_;refine aH ?_;refine aS rfl (fun h2 => ?_) fun h2 => ?_
  ·
   refine z1 ?_;refine lD (v := .slice oa (fA p.pg r.rg k).length oc) dU hw ?_;refine z1 ?_;refine lD (v := iQ x.it.child) ai hw ?_;refine hY (cs := [iQ x.it.child]) rfl bP cT k9 dM rfl rfl rfl hw rfl fun w b40 hw => ?_;refine gP (m := (fA p.pg r.rg k).length) (k := 1) (news := [iQ x.it.child]) rfl bP cT qR k9 rfl rfl hw pK (Rd.nP hw pK) rfl (by intro u hu; simp at hu; subst hu; rfl) mL oM rfl (fun w v41 hw => ?_);obtain ⟨na, nc, rfl⟩ := aM hw;refine bS (l' := [.slice na ((fA p.pg r.rg k).length + 1) nc]) rfl tV rfl rfl dU rfl hw pK rfl rfl rfl fun w hw => ?_;refine aH ?_;have hc : j' p.pg r.rg j := qU.1 (cJ.1 h2);rw [ah hc, hcx] at gD;have hz := (hw.b [ag b40 _ _, row 5 1 r'.lv _ _, row 5 1 r'.hv _ _, ag b8 _ _, ag b7 _ _, ag b5 _ _, row 3 1 (.slice na _ nc) _ _, ag b3 _ _, ag b2 _ _]).tail.tail.tail.tail.tail;refine ar.jq (.slice na ((fA p.pg r.rg k).length + 1) nc) (ar.bH ?_);rw [gD, cj, BK];exact hz
  refine eH ?_;have hc : ¬ j' p.pg r.rg j := fun h => h2 (not_not_intro (qU.2 h))
  rw [ae hc, my] at gD;have hz := (hw.b [row 5 1 r'.lv _ _, row 5 1 r'.hv _ _, ag b8 _ _, ag b7 _ _, ag b5 _ _, row 3 1 _ _ _, ag b3 _ _, ag b2 _ _]).tail.tail.tail.tail;refine ar.jq (.slice oa (fA p.pg r.rg k).length oc) (ar.bH ?_);rw [gD];exact hz
 ·
  clear hw;intro D1 w hw;obtain ⟨ov, hw⟩ := hw.iv;have hw := hw.cD;simp only [j4, jG] at hw;refine z2 ?_;refine lD (v := ov) dU hw ?_;refine z3 ?_;refine bX rfl ?_;refine iq hw pK fun w hw => ?_;exact Jy rfl rfl (hw.b [ag b5 _ _, ag b3 _ _, ag b2 _ _, ag b1 _ _]).tail.tail.tail.tail
 ·
  clear hw; intro D w hw; exact (iA hw).elim fun _ h => h.1.elim
 intro id A hA; cases hA
end
theorem kI : ∀ a b : bN, bU a b = - bU b a
 | [], [] => rfl
 | [], _ :: _ => rfl
 | _ :: _, [] => rfl
 | a :: x, b :: y => by
  have ih := kI x y;simp only [bU]
  by_cases h1 : a.toNat < b.toNat
  ·rw [ah h1, ae oM, ah h1]
  by_cases h2 : b.toNat < a.toNat
  ·rw [ae h1, ah h2, ah h2]; rfl
  rw [ae h1, ae h2, ae h2, ae h1]; exact ih
theorem du : ∀ {a b c : bN}, bU a b <= 0 -> bU b c < 0 -> bU a c < 0
 | [], [], _, _, h => h
 | [], _ :: _, [], _, h => by simp [bU] at h
 | [], _ :: _, _ :: _, _, _ => by simp [bU]
 | _ :: _, [], _, h, _ => by simp [bU] at h
 | _ :: _, _ :: _, [], _, h => by simp [bU] at h
 | a :: x, b :: y, c :: z, h1, h2 => by
  have ih := du (a := x) (b := y) (c := z);simp only [bU] at h1 h2 ⊢
  by_cases h3 : a.toNat < b.toNat
  ·by_cases h4 : b.toNat < c.toNat
   ·rw [ah oM]; decide
   rw [ae h4] at h2
   by_cases h5 : c.toNat < b.toNat
   ·rw [ah h5] at h2; omega
   rw [ah oM]; decide
  rw [ae h3] at h1
  by_cases h6 : b.toNat < a.toNat
  ·rw [ah h6] at h1; omega
  rw [ae h6] at h1
  by_cases h4 : b.toNat < c.toNat
  ·rw [ah oM]; decide
  rw [ae h4] at h2
  by_cases h5 : c.toNat < b.toNat
  ·rw [ah h5] at h2; omega
  rw [ae h5] at h2;rw [ae oM, ae oM];exact ih h1 h2
theorem mc {a b c : bN} (h1 : bU a b <= 0) (h2 : bU b c <= 0) : bU a c <= 0 := by
 by_cases h : bU b c = 0
 ·rw [AU] at h; subst h; exact h1
 have := du h1 (show bU b c < 0 by omega); omega
theorem Kw {k : bN} (h : 1 <= k.length) : bU [0] k <= 0 := by
 cases k with
 | nil => simp at h
 | cons a k =>
  simp only [bU];have h0 : (0 : UInt8).toNat = 0 := rfl;rw [h0]
  by_cases h1 : 0 < a.toNat
  ·rw [ah h1]; decide
  rw [ae h1, ae oM];cases k <;> simp [bU]
theorem NR {m : Rg} {k : bN} (h : lH m k) (hl : m.lo.length <= 24) : lH m (nB m.lo) := by
 obtain ⟨h1, h2, h3⟩ := h;have h4 : bU (nB m.lo) k <= 0 /\ 0 <= bU (nB m.lo) m.lo /\ iJ (nB m.lo) := by
  unfold nB
  by_cases hk : iJ m.lo
  ·rw [ah hk];refine ⟨?_, by rw [B3]; decide, hk⟩;rw [kI]; omega
  rw [ae hk];have hn : m.lo = [] := by
   unfold iJ at hk;exact yS oM
  rw [hn];exact ⟨Kw h1.1, by decide, by unfold iJ; decide⟩
 refine ⟨h4.2.2, h4.2.1, ?_⟩;rcases h3 with h3 | h3
 ·exact .inl h3
 exact .inr (du h4.1 h3)
theorem xu {a b : Rg} {k : bN} : lH (gL a b) k ↔ lH a k /\ lH b k := by
 have ab7 : 0 <= bU k (ju a.lo b.lo) ↔ 0 <= bU k a.lo /\ 0 <= bU k b.lo := by
  have e1 := kI k a.lo;have e2 := kI k b.lo;unfold ju
  by_cases h : bU a.lo b.lo < 0
  ·rw [ah h]
   constructor
   ·intro h1;have := mc (a := a.lo) (b := b.lo) (c := k) oM oM;omega
   exact fun h1 => h1.2
  rw [ae h];have e3 := kI a.lo b.lo
  constructor
  ·intro h1;have := mc (a := b.lo) (b := a.lo) (c := k) oM oM;omega
  exact fun h1 => h1.1
 have Qr : bU k (xM a.hi b.hi) < 0 ↔ bU k a.hi < 0 /\ bU k b.hi < 0 := by
  unfold xM
  by_cases h : 0 < bU a.hi b.hi
  ·rw [ah h];have e3 := kI a.hi b.hi
   constructor
   ·intro h1;refine ⟨?_, h1⟩;exact du (a := k) (b := b.hi) (c := a.hi) oM oM
   exact fun h1 => h1.2
  rw [ae h]
  constructor
  ·intro h1;refine ⟨h1, ?_⟩
   by_cases h0 : bU a.hi b.hi = 0
   ·rw [AU] at h0; rw [<-h0]; exact h1
   exact du (a := k) (b := a.hi) (c := b.hi) oM oM
  exact fun h1 => h1.1
 unfold lH gL;simp only [ab7];cases ha : a.eR <;> cases hb : b.eR <;> simp [Qr] <;> (constructor <;> (intro h; simp_all))
theorem N1 {p : Pg} {r : Rg} {i : Nat} {k : bN} (h1 : lH (nt p i) k) (h2 : lH r k) (hl : (gL (nt p i) r).lo.length <= 24) : j' p r i := NR (xu.2 ⟨h1, h2⟩) hl
def lW (rd : Int -> Option Pg) : Nat -> Int -> List It
 | 0, n => match rd n with
  | none => []
  | some p => p.items
 | k + 1, n => match rd n with
  | none => []
  | some p => p.items.flatMap fun x => lW rd k x.child
theorem zi {rd : Int -> Option Pg} : ∀ {k : Nat} {n : Int}, oZ rd k n = (lW rd k n).map (PY rd)
 | 0, n => by
  rw [oZ, lW];cases rd n <;> rfl
 | k + 1, n => by
  rw [oZ, lW];cases rd n with
  | none => rfl
  | some p =>
   simp only;rw [List.map_flatMap]
   congr 1
   funext x
   exact zi
theorem tZ {rd : Int -> Option Pg} : ∀ {k : Nat} {n : Int} {r : Rg}, mD rd k n r -> ∀ y ∈ lW rd k n, lH r y.key
 | 0, n, r, h => by
  obtain ⟨p, hp, h1, h2⟩ := h;intro y hy;rw [lW, hp] at hy;exact h2 y hy
 | k + 1, n, r, h => by
  obtain ⟨p, hp, h1, h2⟩ := h;intro y hy;rw [lW, hp] at hy;obtain ⟨x, hx, hy⟩ := G2.1 hy;obtain ⟨i, hi⟩ := Ng hx;exact (xu.1 (tZ (h2 i x hi) y hy)).1
def lX (rd : Int -> Option Pg) (r : Rg) (x : Int × Nat) : List It := (lW rd x.2 x.1).filter fun y => decide (lH r y.key)
def sK (rd : Int -> Option Pg) (r : Rg) (st : List (Int × Nat)) : List It := st.reverse.flatMap (lX rd r)
theorem H4 (rd : Int -> Option Pg) (r : Rg) (a b : List (Int × Nat)) : sK rd r (a ++ b) = sK rd r b ++ sK rd r a := by unfold sK; rw [List.reverse_append, Ac]
def kT (p : Pg) (r : Rg) (k : Nat) : List (Int × Nat) := ((List.range p.items.length).reverse.filter fun i => decide (j' p r i)).map fun i => (bh p.items i, k)
theorem KF (p : Pg) (r : Rg) (k : Nat) : (kT p r k).map (·.1) = fA p r p.items.length := by
 unfold kT fA;rw [vN sM, PK]; rfl
theorem pM {α β : Type} {f : α -> List β} {q : α -> Bool} : ∀ {l : List α}, (∀ x ∈ l, q x = false -> f x = []) -> (l.filter q).flatMap f = l.flatMap f
 | [], _ => rfl
 | x :: l, h => by
  have ih := pM (f := f) (q := q) (l := l) (fun y hy => h y (gF _ hy));rw [Ji];cases hq : q x with
  | true => simp [ih]
  | false => simp [ih, h x (fp ..) hq]
theorem Aj (l : List It) : (List.range l.length).map (fun i => bh l i) = l.map It.child := by
 apply List.ext_getElem?;intro i;rw [dB, dB]
 by_cases h : i < l.length
 ·rw [R3 h, cV h];simp only [RW];unfold bh;rw [cV h]; rfl
 rw [Jm (by simp; omega), Jm oM]; rfl
theorem AV {l : List It} {i : Nat} {x : It} (h : l[i]? = some x) : bh l i = x.child := by unfold bh; rw [h]; rfl
theorem Nw {rd : Int -> Option Pg} {r r' : Rg} {k : Nat} {n : Int} (hs : mw rd k n) (hk : mD rd k n r') (hl : ∀ p i, rd n = some p -> (gL (nt p i) r).lo.length <= 24) : ∃ p, rd n = some p /\ (p.kind = 1 \/ p.kind = 2) ∧
  (p.kind = 1 -> lX rd r (n, k) = p.items.filter fun y => decide (lH r y.key)) ∧
  (p.kind = 2 -> ∃ j, k = j + 1 /\ lX rd r (n, k) = sK rd r (kT p r j) /\ (∀ x ∈ kT p r j, mw rd x.2 x.1 /\ ∃ Wn, mD rd x.2 x.1 Wn) /\ qY rd (kT p r j) < qe rd k n) := by
 cases k with
 | zero =>
  obtain ⟨p, h1, h2, h3⟩ := hs;refine ⟨p, h1, .inl h2, fun _ => ?_, fun h => by omega⟩;unfold lX;simp only [lW, h1]
 | succ j =>
  obtain ⟨p, h1, h2, h3⟩ := hs;obtain ⟨p', D4, h4, h5⟩ := hk;rw [h1] at D4;cases D4;refine ⟨p, h1, .inr h2, fun h => by omega, fun _ => ⟨j, rfl, ?_, fun x hx => ?_, ?_⟩⟩
  ·have e1 : lX rd r (n, j + 1) = (p.items.map It.child).flatMap fun c => lX rd r (c, j) := by
    unfold lX;simp only [lW, h1];rw [List.filter_flatMap, List.flatMap_map]
   rw [e1, <-Aj, List.flatMap_map];unfold sK kT;rw [<-List.map_reverse, <-List.filter_reverse, List.reverse_reverse, List.flatMap_map];symm;apply pM;intro i hi hc;have hi := sL.1 hi;obtain ⟨x, hx⟩ : ∃ x, p.items[i]? = some x := ⟨_, cV hi⟩;rw [AV hx];unfold lX;rw [List.filter_eq_nil_iff];intro y hy NB;have h6 := (xu.1 (tZ (h5 i x hx) y hy)).2;have h7 := N1 h6 (by simpa using NB) (hl p i h1);simp [h7] at hc
  ·unfold kT at hx;obtain ⟨i, hi, rfl⟩ := dd.1 hx;have hi := sL.1 (List.mem_reverse.1 (G1.1 hi).1);obtain ⟨x, hx⟩ : ∃ x, p.items[i]? = some x := ⟨_, cV hi⟩;rw [AV hx];exact ⟨h3 x (ed hx), _, h5 i x hx⟩
  rw [qe, h1];have key : ∀ (q : Nat -> Bool) (l : List Nat) , ((l.filter q).map fun i => qe rd j (bh p.items i)).sum <= (l.map fun i => qe rd j (bh p.items i)).sum := by
   intro q l
   induction l with
   | nil => exact eW _
   | cons i l ih =>
    rw [Ji];split
    ·simp only [cG, K3]; omega
    simp only [cG, K3]; omega
  have h6 := key (fun i => decide (j' p r i)) (List.range p.items.length);have h7 : ((List.range p.items.length).map fun i => qe rd j (bh p.items i)) = p.items.map fun x => qe rd j x.child := by
   have := congrArg (List.map (qe rd j)) (Aj p.items);rw [PK, PK] at this;exact this
  rw [h7] at h6;have h8 : qY rd (kT p r j) = qY rd (kT p r j).reverse := (Ln rd _).symm;rw [h8];unfold kT qY;rw [<-List.map_reverse, <-List.filter_reverse, List.reverse_reverse, PK];simp only;have h9 : (((List.range p.items.length).filter fun i => decide (j' p r i)).map ((fun x : Int × Nat => qe rd x.2 x.1) ∘ fun i => (bh p.items i, j))).sum = (((List.range p.items.length).filter fun i => decide (j' p r i)).map fun i => qe rd j (bh p.items i)).sum := rfl;omega
structure TM (L : List az) (v : Value) (l : List pH) : Prop where
 sl : aX L (gC 2 v (l.map pH.cells))
 kk : ∀ x ∈ l, aX L (kL x.kv x.pr.1)
 kv : ∀ x ∈ l, aX L (kL x.vv x.pr.2)
 len : l.length <= 1000000000
theorem ar.W0 {G : Gh} {A B : az} {R : List az} {w : World} (h : ar G (A :: B :: R) w) : ar G (A :: R) w := by
 have hz := h.b [B];exact hz.tail
def abf (F : List az -> Prop) (l : List pH) (k : Nat) (args : List Value) (M : List az) : Prop := ∃ x, l[k]? = some x /\ args = [iQ k, gQ x.cells] /\ F M
section
variable {G : Gh} {L R : List az} {w : World}
theorem JE {F : List az -> Prop} {l : List pH} {v : Value} {b1 : Nat} (hp : TM L v l) (hF : ∀ b c, F (ag b c 66 :: ag b1 [v] 58 :: L)) : A8 prog 105 [pQ b1] G (ag b1 [v] 58 :: L) w l.length (abf F l) (ag b1 [v] 58 :: L) := by
 intro lq J Jx w hy hw;obtain ⟨sa, sc, h1, -, -⟩ := ((hp.sl.of sF).at hw).form;rw [bA] at h1;subst h1;have oW := hp.len;refine al (args := [_, _]) func105 rfl ntmps105 rfl rfl ?_;refine z2 ?_;refine lD iK hw ?_;refine dQ rfl kR jl rfl ?_;refine z3 ?_;refine cO (fun m e w => ∃ k : Nat, k <= l.length /\ m = l.length - k /\ e = [(0, .func (.yield lq) #[] #[]), (5, .slice sa l.length sc), (6, iQ l.length), (7, iQ k)] /\ ar G (J k :: ag b1 [.slice sa l.length sc] 58 :: L) w)
  (m := l.length) sB
  ⟨0, fo _, rfl, rfl, hw⟩ ?_
 rintro m e w ⟨k, hk, rfl, rfl, hw⟩;refine z5 ?_;refine aS rfl (fun h1 => ?_) fun h1 => ?_
 ·
  have nS : k < l.length := oM;obtain ⟨x, hx⟩ : ∃ x, l[k]? = some x := ⟨_, cV nS⟩;have vu : (l.map pH.cells)[k]? = some x.cells := by rw [dB, hx]; rfl
  obtain ⟨xa, xc, xO⟩ := (((hp.kk x (ed hx)).of sF).at hw).form;obtain ⟨ya, yc, MO⟩ := (((hp.kv x (ed hx)).of sF).at hw).form;obtain ⟨bb, oo, hsa⟩ := ((hp.sl.of sF).at hw).nn (by rw [bA]; omega);cases hsa;refine z6 ?_;refine dD rfl jl rB rfl rfl ⟨oM, oM⟩ ?_;refine bt rfl rfl (aj.many (cs := x.cells) oB rfl (by rw [fQ]; exact ((hp.sl.of sF).at hw).at vu)) ?_;refine aN rfl Ec hw rfl fun w b4 hw => ?_;refine z1 ?_;refine aL (cs := x.cells) (l' := x.cells) rfl tV rfl rfl oB rfl (by intro u hu; simp [pH.cells, xO, MO] at hu; rcases hu with rfl | rfl <;> rfl) hw pK (by simp [pH.cells]) rfl rfl (fun w hw => ?_);refine z5 ?_;refine lA (l := x.cells) oB hw ?_;have hz := hw.b [J k, ag b4 _ _];refine p9 rfl rfl rfl (hy k _ _ w nS ⟨x, hx, rfl, hF _ _⟩ hz) rfl fun w Uv hv => ?_;obtain ⟨bq, rfl, ue, Be⟩ := oN hv;refine nY rfl rfl ?_;refine aH ?_;refine fm rfl (fun h2 => ?_) fun h2 => ?_
  ·
   refine rm ?_;exact j7 rfl rfl (.inr (by
 have hz := Be (by simpa using h2);exact hz.W0))
  refine z5 ?_;have hz := (ue (by simpa using h2)).W0;exact ⟨l.length - (k + 1), oM, [(0, _), (5, _), (6, _), (7, iQ (k + 1 : Nat))], sB, k + 1, oM, rfl, rfl, hz⟩
 refine z1 ?_;exact j7 rfl rfl (.inl (by
 have wg : k = l.length := oM;subst wg; exact hw))
end
def abe (l : List pH) (k : Nat) (args : List Value) (_ : List az) : Prop := ∃ x a c a' c', l[k]? = some x /\ args = [.slice a x.pr.1.length c, .slice a' x.pr.2.length c']
section
variable {G : Gh} {L R : List az} {w : World}
theorem Vd {ps : List pH} {gf : Nat} {lb : List Value} {b1 : Nat} {v : Value} {Li Lx : List az} (gJ : aw prog gf) (oW : ∀ x ∈ ps, bz x.pr.1 /\ bz x.pr.2) (qu : ∀ (X : az) w, A8 prog gf lb G (X :: Li) w ps.length (abf (fun M => TM M v ps) ps) (X :: Lx)) : A8 prog 104 [pQ b1] G (ag b1 [.func (.func gf) #[] lb.toArray] 133 :: Li) w ps.length (abe ps) (ag b1 [.func (.func gf) #[] lb.toArray] 133 :: Lx) := by
 intro lo Jo Jx w hy hw;refine al (args := [_, _]) func104 rfl ntmps104 rfl rfl ?_;refine z2 ?_;refine bE rfl rfl rfl hw rfl fun w b2 hw => ?_;refine z3 ?_;refine lD (v := .func (.func gf) #[] lb.toArray) qG hw ?_;refine z2 ?_;have hz := hw.b [Jo 0, ag b2 _ _, ag b1 _ _];clear hw;have hw := ar.bH (M := [_, _]) hz;refine ru (e₀ := [(2, pQ b2)]) (fun k => aT [Jo k, ag b2 [.func (.yield lo) #[] #[]] 185]) (Jx) [] rfl gJ rfl sG rfl hw (fun k args M h => by obtain ⟨x, _, rfl, _⟩ := h; rfl) (qu _ _) ?_ ?_ ?_ ?_
 ·
  clear hw;intro l D1 o k args M w hk pD hw;obtain ⟨x, hx, rfl, hp⟩ := pD;have hw := hw.cD;simp only [j4, jG] at hw;have Kn := ed hx;obtain ⟨xa, xc, xO⟩ := (((hp.kk x Kn).of sF).at hw).form;obtain ⟨ya, yc, MO⟩ := (((hp.kv x Kn).of sF).at hw).form;refine z1 ?_;refine aN rfl Ec hw rfl fun w b4 hw => ?_;refine aL (cs := x.cells) (l' := x.cells) rfl tV rfl rfl oB rfl (by intro u hu; simp [pH.cells, xO, MO] at hu; rcases hu with rfl | rfl <;> rfl) hw pK (by simp [pH.cells]) rfl rfl (fun w hw => ?_);refine aH ?_;refine ⟨_, hw.pick (A := pt l o) pK, fun o' w hw => ?_⟩;refine z2 ?_;refine bu [0, 1, 2, 4, 5, 3, 6, 7, 8] bK kR ?_;replace hw := hw.drawn (w.drawn + 1);refine lD (v := .func (.yield lo) #[] #[]) fW hw ?_;refine z1 ?_;refine bt rfl rfl (aj.bx (v := .slice xa x.pr.1.length xc) ay hw pK (by rw [<-xO]; rfl)) ?_;refine z1 ?_;refine bt rfl rfl (aj.bx (v := .slice ya x.pr.2.length yc) ay hw pK (by rw [<-MO]; rfl)) ?_;refine dL rfl eo rfl (eG (l := x.pr.1) hw (by rw [<-xO]; exact (hp.kk x Kn).of sF) (oW x Kn).1) (fun w v11 hv q' hq => ?_) (fun w v11 hv => ?_)
  ·
   have hw : ar G (row 5 1 v11 x.pr.1.length (dV x.pr.1) :: _) _ := hv;have hq := a9 (l := [5, 0]) kR hq;simp only [bB, cW, or_false] at hq;rcases hq with rfl | rfl
   ·exact aV rfl rfl rfl (aj.bx (v := .slice ya x.pr.2.length yc) ay hw pK (by rw [<-MO]; rfl))
   exact aV rfl rfl rfl (aj.bx (v := .func (.yield lo) #[] #[]) fW hw pK rfl)
  have hw : ar G (row 5 1 v11 x.pr.1.length (dV x.pr.1) :: _) _ := hv;refine dL rfl eo rfl (eG (l := x.pr.2) hw (by rw [<-MO]; exact (hp.kv x Kn).of sF) (oW x Kn).2) (fun w QY hv q' hq => ?_) (fun w QY hv => ?_)
  ·
   have hw : ar G (row 5 1 QY x.pr.2.length (dV x.pr.2) :: _) _ := hv;have hq := a9 (l := [0]) kR hq;simp only [bB, cW, or_false] at hq;subst hq;exact aV rfl rfl rfl (aj.bx (v := .func (.yield lo) #[] #[]) fW hw pK rfl)
  have hw : ar G (row 5 1 QY x.pr.2.length (dV x.pr.2) :: _) _ := hv;obtain ⟨va, vc, rfl⟩ := aM hw;obtain ⟨wa, wc, rfl⟩ := aM (hw.pick (A := row 5 1 v11 _ _) pK);refine p9 rfl rfl rfl (hy k _ _ w hk ⟨x, wa, wc, va, vc, hx, rfl⟩ (hw.pick (A := Jo _) pK)) kR fun w Uv hv => ?_;obtain ⟨bq, rfl, ue, Be⟩ := oN hv;refine nY rfl rfl ?_;refine aH ?_;refine fm rfl (fun h1 => ?_) fun h1 => ?_
  ·
   refine rm ?_;exact ((Be (by simpa using h1)).b [row 5 1 (.slice va _ vc) _ _, row 5 1 (.slice wa _ wc) _ _, ag b4 _ _, ag b2 _ _, Jx, pt l _, dY D1]).tail.tail.tail.tail
  refine eH ?_;have hz := ((ue (by simpa using h1)).b [row 5 1 (.slice va _ vc) _ _, row 5 1 (.slice wa _ wc) _ _, ag b4 _ _, Jo _, ag b2 _ _, pt l _, dY D1]).tail.tail.tail;exact ar.bH (M := [_, _]) hz
 ·
  clear hw;intro D1 w hw;have hw := hw.cD;simp only [j4, jG] at hw;refine bX rfl ?_;refine iq hw pK fun w hw => ?_;exact y7 rfl (.inl (hw.b [ag b2 _ _]).tail)
 ·
  clear hw;intro D1 w hw;refine bX rfl ?_;refine iq hw pK fun w hw => ?_;exact y7 rfl (.inr hw)
 intro id A hA; cases hA
end
section
variable {G : Gh} {L R : List az} {w : World}
theorem Hv {vq : Nat} {t : Tr} {r : yE} (hw : ar G L w) : Calls prog 77 #[pQ vq, gQ (aC t), gQ r.cells] w (dv fun u w' => ∃ b3 b4 b5, u = .func (.func 137) #[] #[pQ b4, pQ b3, pQ b5] /\ ar G (ag b4 (aC t) 62 :: ag b3 [pQ vq] 28 :: ag b5 r.cells 64 :: L) w') := by
 refine al (args := [_, _, _]) func77 rfl ntmps77 rfl rfl ?_;refine z2 ?_;refine bE rfl rfl rfl hw rfl fun w b3 hw => ?_;refine bE rfl rfl rfl hw rfl fun w b4 hw => ?_;refine bE rfl rfl rfl hw rfl fun w b5 hw => ?_;refine z4 ?_;refine mO (v1 := #[]) (v2 := #[pQ b4, pQ b3, pQ b5]) rfl (by intro z hz; simp at hz; rcases hz with rfl | rfl | rfl <;> exact ⟨_, rfl⟩) sM (by simp only [oS, cG, j3]; rfl) ?_;refine z3 ?_;exact br rfl rfl rfl ⟨b3, b4, b5, rfl, hw.b [ag b4 _ _, ag b3 _ _, ag b5 _ _]⟩
end
end Go.Proofs.YteifbglognfgdaaGreatDoor.X
