/- The ground and the walks of this claim, part 6: XBad XTurn XPl XFinds XOpen4. -/
import Derived.Test.YtjbkgbilbnccnaaGreatDoorY5
namespace Go.Proofs.YtjbkgbilbnccnaaGreatDoor.X
open _root_.Go.Proofs.Tryz _root_.Go.Proofs.YtjbkgbilbnccnaaGreatDoor.Tryz
set_option linter.unusedVariables false
set_option linter.unusedSimpArgs false
set_option maxRecDepth 20000
set_option maxHeartbeats 8000000
structure Bs (s : Su) (Bk : Nat -> bW) (U : CK -> Prop) (W todo : List CK) : Prop where
 nd : W.Nodup
 uW : ∀ c ∈ W, U c
 uT : ∀ c ∈ todo, U c
 root : ∀ c ∈ eP s.roots, c ∈ W \/ c ∈ todo
 T9 : ∀ c ∈ W, ∀ l, xh s Bk c = some l -> ∀ k ∈ l, k ∈ W \/ k ∈ todo
 min : ∀ V : CK -> Prop, (∀ c ∈ eP s.roots, V c) -> (∀ c, V c -> ∀ l, xh s Bk c = some l -> ∀ k ∈ l, V k) -> ∀ c, c ∈ W \/ c ∈ todo -> V c
section
variable {s : Su} {Bk : Nat -> bW} {U : CK -> Prop} {W todo : List CK} {B : Int}
theorem Bs.start (hB : KU s Bk B U) : Bs s Bk U [] (eP s.roots) :=
 ⟨NV, (fun c h => by cases h), hB.root, fun c h => .inr h, (fun c h => by cases h), fun V h1 h2 c h => by rcases h with h | h; cases h; exact h1 c h⟩
theorem Bs.skip {c : CK} (h : Bs s Bk U W (todo ++ [c])) (hc : c ∈ W) : Bs s Bk U W todo := by
 have key : ∀ x, x ∈ W \/ x ∈ todo ++ [c] -> x ∈ W \/ x ∈ todo := fun x hx => by
  rcases hx with hx | hx
  ·exact .inl hx
  rcases gF.1 hx with hx | hx
  ·exact .inr hx
  simp at hx; subst hx; exact .inl hc
 exact ⟨h.nd, h.uW, fun x hx => h.uT x (xt _ hx), fun x hx => key x (h.root x hx), fun x hx l hl k hk => key k (h.T9 x hx l hl k hk),
  fun V h1 h2 x hx => h.min V h1 h2 x (hx.elim .inl fun hx => .inr (xt _ hx))⟩
theorem Bs.step {c : CK} {l : List CK} (hB : KU s Bk B U) (h : Bs s Bk U W (todo ++ [c])) (hc : c ∉ W) (hl : xh s Bk c = some l \/ (xh s Bk c = none /\ l = [])) : Bs s Bk U (c :: W) (todo ++ l) := by
 have hUc : U c := h.uT c sM;have gN : ∀ l', xh s Bk c = some l' -> l' = l := fun l' h' => by
  rcases hl with hl | ⟨hl, -⟩
  ·rw [hl] at h'; cases h'; rfl
  rw [hl] at h'; cases h'
 have hlm : ∀ k ∈ l, xh s Bk c = some l := fun k hk => by
  rcases hl with hl | ⟨-, rfl⟩
  ·exact hl
  cases hk
 have key : ∀ x, x ∈ W \/ x ∈ todo ++ [c] -> x ∈ c :: W \/ x ∈ todo ++ l := fun x hx => by
  rcases hx with hx | hx
  ·exact .inl (jN _ hx)
  rcases gF.1 hx with hx | hx
  ·exact .inr (xt _ hx)
  simp at hx; subst hx; exact .inl sM
 refine ⟨xr.2 ⟨hc, h.nd⟩, fun x hx => ?_, fun x hx => ?_, fun x hx => key x (h.root x hx), fun x hx l' Ke k hk => ?_, fun V h1 h2 x hx => ?_⟩
 ·rcases bQ.1 hx with rfl | hx
  ·exact hUc
  exact h.uW x hx
 ·rcases gF.1 hx with hx | hx
  ·exact h.uT x (xt _ hx)
  exact hB.T9 c hUc l (hlm x hx) x hx
 ·rcases bQ.1 hx with rfl | hx
  ·rw [gN l' Ke] at hk;exact .inr (N5 _ hk)
  exact key k (h.T9 x hx l' Ke k hk)
 have hVc : V c := h.min V h1 h2 c (.inr sM);rcases hx with hx | hx
 ·rcases bQ.1 hx with rfl | hx
  ·exact hVc
  exact h.min V h1 h2 x (.inl hx)
 rcases gF.1 hx with hx | hx
 ·exact h.min V h1 h2 x (.inr (xt _ hx))
 exact h2 c hVc l (hlm x hx) x hx
theorem Bs.cls (h : Bs s Bk U W []) : Cls (xh s Bk) (eP s.roots) W :=
 ⟨fun c hc => (h.root c hc).resolve_right sM, fun c hc l hl k hk => (h.T9 c hc l hl k hk).resolve_right sM, fun V h1 h2 c hc => h.min V h1 h2 c (.inl hc)⟩
def aap (p : Nat) : List CK := (List.range p).flatMap fun (i : Nat) => (List.range 14).map fun (j : Nat) => (((i : Int) + 1, (j : Int) - 1) : CK)
theorem M5 : ∀ p : Nat, (aap p).length = 14 * p
 | 0 => rfl
 | p + 1 => by
  have h := M5 p;unfold aap at h ⊢;rw [Tn (n := p), LK, de, h];simp; omega
theorem Bs.small (h : Bs s Bk U W todo) (hB : KU s Bk B U) (hU : ∀ x, U x -> -1 <= x.2 /\ x.2 <= 12) {p : Nat} (hp : (aL s.cf).pages = p) : W.length <= 14 * p := by
 rw [<-M5];refine p5 h.nd fun x hx => ?_
 have h1 := hB.inn x (h.uW x hx);have h2 := hU x (h.uW x hx);unfold aap;refine N0.2 ⟨(x.1 - 1).toNat, rj.2 oM, dE.2 ⟨(x.2 + 1).toNat, rj.2 oM, ?_⟩⟩;obtain ⟨a, b⟩ := x;simp only at h1 h2 ⊢
 congr 1 <;> omega
def Sr (mk : KC) (W : List CK) (T : Nat) : Prop := ∀ c, (c ∉ W /\ qY mk c = none) \/ (c ∈ W /\ ∃ j : Nat, qY mk c = some (iQ (j : Int)) /\ 1 <= j /\ j <= T)
theorem Sr.look {mk : KC} {T : Nat} (h : Sr mk W T) (c : CK) : ∃ j : Nat, (qY mk c).getD (iQ 0) = iQ j /\ j <= T /\ (c ∈ W ↔ 1 <= j) := by
 rcases h c with ⟨h1, h2⟩ | ⟨h1, j, h2, h3, h4⟩
 ·exact ⟨0, by rw [h2]; rfl, dy _, ⟨fun h => absurd h h1, fun h => by omega⟩⟩
 exact ⟨j, by rw [h2]; rfl, h4, ⟨fun _ => h3, fun _ => h1⟩⟩
theorem Sr.put {mk : KC} {T : Nat} (h : Sr mk W T) {c : CK} {j : Nat} (hj : j <= T) {W' : List CK} (hW : ∀ x, x ∈ W' ↔ x = c \/ x ∈ W) : Sr (mJ mk c (iQ ((j : Int) + 1))) W' (T + 1) := fun x => by
 rw [Js]
 by_cases hx : x = c
 ·subst hx;rw [ao rfl];exact .inr ⟨(hW x).2 (.inl rfl), j + 1, by simp, oM, oM⟩
 rw [aj hx];rcases h x with ⟨h1, h2⟩ | ⟨h1, j', h2, h3, h4⟩
 ·exact .inl ⟨fun h => ((hW x).1 h).elim hx h1, h2⟩
 exact .inr ⟨(hW x).2 (.inr h1), j', h2, h3, oM⟩
theorem Lv (l : List (Int × Tr)) (x : Int × Tr) : eP (l ++ [x]) = eP l ++ (if x.2.root ≠ 0 then [(x.2.root, x.2.aQ - 1)] else []) := by
 unfold eP;rw [JX, kz]
 congr 1
 by_cases h : x.2.root = 0 <;> simp [h]
theorem EP (l : List (Int × Tr)) : (eP l).length <= l.length := by
 unfold eP;rw [bX];exact N6 _ _
theorem Xm (a b : List CK) : Jt a ++ Jt b = Jt (a ++ b) := by simp [Jt]
theorem ckT (v : Value) (l : List CK) (R : List aw) : aG (row 163 2 v l.length (Jt l) :: R) (g7 2 v (l.map qZ)) := (g7.row sM (fun r hr => by obtain ⟨x, _, rfl⟩ := dE.1 hr; rfl)).head R
theorem abK (l : List CK) : ∀ r ∈ l.map qZ, r.length = 2 := fun r hr => by obtain ⟨x, _, rfl⟩ := dE.1 hr; rfl
end
section
variable {G : Gh} {L R : List aw} {w : World}
def Br (kv : KV) (B : Int) (F : Prop) : Prop := (¬ F /\ kv = []) \/ (F /\ ∃ c : Int, kv = [(B, iQ c)])
theorem Br.look {kv : KV} {B : Int} {F : Prop} (h : Br kv B F) : ∃ c : Int, (cO kv B).getD (iQ 0) = iQ c := by
 rcases h with ⟨-, rfl⟩ | ⟨-, c, rfl⟩
 ·exact ⟨0, rfl⟩
 exact ⟨c, by simp [cO]⟩
theorem Br.put {kv : KV} {B : Int} {F F' : Prop} (h : Br kv B F) (c : Int) (hF : F') : Br (lr kv B (iQ c)) B F' := by
 rcases h with ⟨-, rfl⟩ | ⟨-, c', rfl⟩
 ·exact .inr ⟨hF, c, rfl⟩
 exact .inr ⟨hF, c, by simp [lr]⟩
theorem Br.iff {kv : KV} {B : Int} {F F' : Prop} (h : Br kv B F) (he : F ↔ F') : Br kv B F' := by
 rcases h with ⟨h1, h2⟩ | ⟨h1, h2⟩
 ·exact .inl ⟨fun h => h1 (he.2 h), h2⟩
 exact .inr ⟨he.1 h1, h2⟩
theorem Br.keys {kv : KV} {B : Int} {F : Prop} (h : Br kv B F) : ∃ l, zI kv l /\ ((¬ F /\ l = []) \/ (F /\ l = [B])) := by
 rcases h with ⟨h1, rfl⟩ | ⟨h1, c, rfl⟩
 ·exact ⟨[], ⟨(fun k v h => by cases h), (fun k h => by cases h), by simp⟩, .inl ⟨h1, rfl⟩⟩
 refine ⟨[B], ⟨fun k v h => ?_, fun k h => ?_, by simp⟩, .inr ⟨h1, rfl⟩⟩
 ·simp only [cO] at h;split at h
  ·rename_i e; simp [e]
  cases h
 simp at h; subst h; exact ⟨iQ c, by simp [cO]⟩
theorem yx {b8 mm f : Nat} {kv : KV} {B er : Int} {F : Prop} (hw : an G (ah b8 [.map (some mm)] 147 :: bH mm kv :: Nz f B er :: L) w) (ke : aG L XZ) (hk : Br kv B F) :
  Calls prog 62 #[.iface 148 (pQ f), pQ b8] w (bU fun r w' => ∃ xd, Br xd B True /\ an G (ah b8 [.map (some mm)] 147 :: bH mm xd :: L) w') := by
 refine ad (args := [_, _]) func62 rfl ntmps62 rfl rfl ?_;refine z2 ?_;refine aF rfl Er hw rfl fun w b3 hw => ?_;refine z4 ?_;refine qK rfl U6 sM rfl ?_;refine al rfl yF rfl (MQ (f := f) (A := aV []) hw (((ke.cons _).cons _).cons _)) rfl fun w v6 hv => ?_;obtain ⟨rfl, hw⟩ := hv;have hw := hw.b [ah b3 _ _, ah b8 _ _, bH mm kv, Nz f B er];unfold Nz at hw;obtain ⟨c, hc⟩ := hk.look;refine aC ?_;refine bY rfl ?_;refine bd [0, 1, 2, 3, 4, 5, 6, 7] bJ kR ?_;replace hw := hw.drawn (w.drawn + 1);refine lD (v := .map (some mm)) jl hw ?_;refine lD (v := pQ f) BO hw ?_;refine z2 ?_;refine lD (v := iQ B) ag hw ?_;refine u0 (v0 := iQ c) rfl fa cP q9 rfl rfl hw pK hc ?_;refine Iu rfl rfl rfl ?_;refine Ld rfl tV fa cP rfl rfl rfl hw pK kR fun w hw => ?_;refine aC ?_;exact kC rfl rfl ⟨_, hk.put _ trivial, (hw.b [ah b3 _ _, ah f _ _, ah b8 _ _, bH _ _]).tail.tail⟩
theorem RG {s : Su} {D : Dk} {q dp n : Nat} {rv r : Value} {lev : Int} (h : (∃ l v, xh s D.bK ((n : Int), lev) = some l /\ l.length <= 8 /\ r = .tuple #[v, .nilIface] /\ an G (row 163 2 v l.length (Jt l) :: vF q dp s rv :: eL dp D :: L) w) ∨
    (∃ f er, xh s D.bK ((n : Int), lev) = none /\ r = .tuple #[nQ, .iface 148 (pQ f)] /\ er ≠ 17 /\ an G (Nz f (D6 s n) er :: vF q dp s rv :: eL dp D :: L) w)) :
  ∃ (l : List CK) (v ev : Value) (b : Bool) (A : aw), r = .tuple #[v, ev] /\ l.length <= 8 /\ ((ev = .nilIface /\ b = false) \/ (∃ T z, ev = .iface T z) /\ b = true) /\ (b = false -> xh s D.bK ((n : Int), lev) = some l /\ A = aV []) ∧
   (b = true -> xh s D.bK ((n : Int), lev) = none /\ l = [] /\ ∃ f er, ev = .iface 148 (pQ f) /\ A = Nz f (D6 s n) er) /\ an G (A :: row 163 2 v l.length (Jt l) :: ah q (jQ dp s rv) 157 :: eL dp D :: L) w := by
 rcases h with ⟨l, v, h1, h2, rfl, h3⟩ | ⟨f, er, h1, rfl, h3, h4⟩
 ·exact ⟨l, v, _, false, aV [], rfl, h2, .inl ⟨rfl, rfl⟩, fun _ => ⟨h1, rfl⟩, (fun h => by cases h), an.bz (M := []) h3⟩
 refine ⟨[], _, _, true, _, rfl, dy _, .inr ⟨⟨_, _, rfl⟩, rfl⟩, (fun h => by cases h), fun _ => ⟨h1, rfl, f, er, rfl, rfl⟩, ?_⟩;have hz := (bI h4 163 2).b [Nz f (D6 s n) er];exact hz
theorem Dc {s : Su} {rv : Value} {D : Dk} {dp : Nat} {B : Int} {U : CK -> Prop} (hw : an G (eL dp D :: L) w) (aW : D.Ok) (kr : aG L (g7 4 rv (s.roots.map eK))) (hn : s.roots.length <= 1000) (ho : D.on = true) (ke : aG L XZ)
  (hsu : eI s = 0) (s8 : (D.fh.length : Int) = s.cf.blocks) (hB : KU s D.bK B U) (hU : ∀ x, U x -> -1 <= x.2 /\ x.2 <= 12) :
  Calls prog 23 #[pQ dp, gQ (EI s rv)] w (bU fun r w' => ∃ (v : Value) (l : List Int) (W : List CK), r = .tuple #[v, iQ 0] /\ Cls (xh s D.bK) (eP s.roots) W /\ ((¬ Hj s D.bK W /\ l = []) \/ (Hj s D.bK W /\ l = [B])) /\ an G (row 3 1 v l.length (bg l) :: eL dp D :: L) w') := by
 have hL : Lk s D := ⟨hsu, ho, s8⟩;obtain ⟨pn, bn, fn, hp, hpn, W3, aec, Kf, Ej⟩ := hL.Rj;have Bu : (aL s.cf).pages = (pn : Int) := by rw [hp]
 have Ns : (aL s.cf).gL = (bn : Int) := by rw [hp]
 have UH := (df hsu).2.2.2;obtain ⟨ms, hI⟩ := pM;have hrf := (kr.at hw.tail).form;refine ad (args := [_, _]) func23 rfl ntmps23 rfl rfl ?_;refine z2 ?_;refine a9 rfl rfl rfl hw rfl fun w b3 hw => ?_;refine z6 ?_;refine lA (l := EI s rv) eR hw ?_;refine al rfl wM rfl (yw (s := s) (hw.b [eL dp D]) (kr.of sF) hn ho) rfl fun w Sv hv => ?_;obtain ⟨er, lp, A, rfl, RQ, hA, hw⟩ := GV hv;have Nu : er = 0 := RQ.symm.trans hsu;subst Nu;obtain ⟨q, rfl, rfl⟩ := hA rfl;refine yb ?_;refine aE rfl (fun h1 => ?_) fun h1 => ?_
 ·
  exact absurd rfl h1
 refine z3 ?_;refine bd [0, 1, 2, 3, 4, 5] bJ kR ?_;replace hw := hw.drawn (w.drawn + 1);refine z1 ?_;refine cS rfl oK rfl ?_;refine lD (v := iQ s.cf.blocks) ag hw ?_;refine z1 ?_;refine dJ rfl oh rfl (o4 (hw.b [eL dp D])) (fun w X' hv q' hq => ?_) fun w X' hv => ?_
 ·
  obtain ⟨rfl, hw⟩ := hv;have hq := bm (l := [2]) kR hq;simp only [bQ, dz, or_false] at hq;subst hq;exact bx rfl rfl rfl (ar.bL (v := iQ s.cf.blocks) ag hw pK rfl)
 obtain ⟨rfl, hw⟩ := hv;refine z2 ?_;refine aE rfl (fun h2 => ?_) fun h2 => ?_
 ·
  exact absurd s8.symm h2
 refine z3 ?_;refine Ew rfl hw rfl fun w Hl hw => ?_;refine aF rfl K8 hw rfl fun w b8 hw => ?_;refine bu rfl tV rfl rfl jl rfl hw pK rfl rfl rfl fun w hw => ?_;refine z3 ?_;refine gP (v1 := #[]) (v2 := #[pQ b8]) rfl (by intro z hz; simp at hz; subst hz; exact ⟨_, rfl⟩) sM (by simp only [jM, cH, gE]; rfl) ?_;refine z8 ?_;refine cS rfl ru rfl ?_;refine lD (v := iQ (aL s.cf).gL) ag hw ?_;rw [Ns];refine z3 ?_;have hw := hw.b [ah b8 _ _, bH Hl _, ah q _ _, eL dp D, ah b3 _ _];refine bF (fun m e w => ∃ (k : Nat) (kv : KV), k <= bn /\ m = bn - k /\ e = [(6, pQ q), (8, pQ b8), (9, .func (.func 62) #[] #[pQ b8]), (3, pQ b3), (42, iQ bn), (43, iQ k)] /\ Br kv B (∃ i : Nat, i < k /\ ir s D.bK i = none) /\ an G (ah b8 [.map (some Hl)] 147 :: bH Hl kv :: ah q (jQ dp s rv) 157 :: eL dp D :: ah b3 (EI s rv) 74 :: L) w)
  (m := bn) sB
  ⟨0, [], dy _, rfl, rfl, .inl ⟨(fun ⟨i, h, _⟩ => by omega), rfl⟩, hw⟩ ?_
 rintro m e w ⟨k, kv, hk, rfl, rfl, Vy, hw⟩;refine z5 ?_;refine aE rfl (fun h3 => ?_) fun h3 => ?_
 ·
  have gK : k < bn := oM;have hb := yW (hw.b [ah q _ _, eL dp D]);refine yb ?_;refine al rfl mS rfl (nU (i := k) hb aW hL (by rw [Ns]; omega)) rfl (fun w X8 hv => ?_);have hz : ∃ (l : List Int) (v ev : Value) (b : Bool) (A : aw), X8 = .tuple #[v, ev] /\ (ev = .nilIface /\ b = false \/ (∃ T z, ev = .iface T z) /\ b = true) /\ (b = false -> ir s D.bK k ≠ none) /\ (b = true -> ir s D.bK k = none /\ ∃ f er, ev = .iface 148 (pQ f) /\ A = Nz f (gH (aL s.cf) s.gen + k) er) /\ an G (A :: ah q (jQ dp s rv) 157 :: eL dp D :: ah b8 [.map (some Hl)] 147 :: bH Hl kv :: ah b3 (EI s rv) 74 :: L) w := by
   unfold vF at hv;rcases hv with ⟨l, v, h1, rfl, h2⟩ | ⟨f, er, h1, rfl, h3, h2⟩
   ·exact ⟨l, v, _, false, _, rfl, .inl ⟨rfl, rfl⟩, (fun _ h => by rw [h1] at h; cases h), (fun h => by cases h), h2⟩
   exact ⟨[], _, _, true, _, rfl, .inr ⟨⟨_, _, rfl⟩, rfl⟩, (fun h => by cases h), fun _ => ⟨h1, f, er, rfl, rfl⟩, h2⟩
  obtain ⟨l, v, ev, b, A, rfl, Oz, UK, Ny, hw⟩ := hz;refine z9 ?_;refine Bw rfl hI rfl Oz ?_;refine aC ?_;refine di rfl (fun h4 => ?_) fun h4 => ?_
  ·
   obtain ⟨rI, f, er, rfl, rfl⟩ := Ny h4;rw [hB.gL k (by rw [Ns]; omega) rI] at hw;refine z3 ?_;refine fc rfl rfl wN rfl rfl (yx (hw.b [ah b8 _ _, bH Hl kv, Nz f B er]) (ke.of sF) Vy) rfl fun w v56 hv => ?_;obtain ⟨xd, aaf, hw⟩ := hv;refine z5 ?_;have hz := hw.b [ah b8 _ _, bH Hl xd, ah q _ _, eL dp D, ah b3 _ _];exact ⟨bn - (k + 1), oM, [(6, _), (8, _), (9, _), (3, _), (42, _), (43, iQ (k + 1 : Nat))], sB, k + 1, xd, oM, rfl, rfl, aaf.iff ⟨fun _ => ⟨k, oM, rI⟩, fun _ => trivial⟩, hz⟩
  refine z5 ?_;have hz := (hw.b [A, ah b8 _ _, bH Hl kv, ah q _ _, eL dp D, ah b3 _ _]).tail;refine ⟨bn - (k + 1), oM, [(6, _), (8, _), (9, _), (3, _), (42, _), (43, iQ (k + 1 : Nat))], sB, k + 1, kv, oM, rfl, rfl, Vy.iff ⟨fun ⟨i, h, h'⟩ => ⟨i, oM, h'⟩, fun ⟨i, h, h'⟩ => ⟨i, ?_, h'⟩⟩, hz⟩;rcases qz i k with h9 | h9
  ·exact h9
  have : i = k := oM;subst this; exact absurd h' (UK h4)
 have pA : bn = k := oM;subst pA;refine z3 ?_;refine YW rfl rfl tV hw rfl fun w mc hw => ?_;refine mN ?_;refine lD (v := rv) fN hw ?_;obtain ⟨ra, rc, RR, -, -⟩ := hrf;rw [bX] at RR;subst RR;refine eJ rfl kR dw rfl ?_;refine z3 ?_;have hw := bI hw 163 2;have hw := hw.b [row 163 2 _ _ _, yV mc _, bH Hl kv, ah b8 _ _, ah q _ _, eL dp D, ah b3 _ _];refine bF (fun m e w => ∃ (i : Nat) (u : Value), i <= s.roots.length /\ m = s.roots.length - i /\ e = [(6, pQ q), (8, pQ b8), (9, .func (.func 62) #[] #[pQ b8]), (13, .map (some mc)), (14, u), (60, .slice ra s.roots.length rc), (61, iQ s.roots.length), (62, iQ i)] /\ an G (row 163 2 u (eP (s.roots.take i)).length (Jt (eP (s.roots.take i))) :: yV mc [] :: bH Hl kv :: ah b8 [.map (some Hl)] 147 :: ah q (jQ dp s (.slice ra s.roots.length rc)) 157 :: eL dp D :: ah b3 (EI s (.slice ra s.roots.length rc)) 74 :: L) w)
  (m := s.roots.length) sB
  ⟨0, _, dy _, rfl, rfl, hw⟩ ?_
 rintro m e w ⟨i, u, hi, rfl, rfl, hw⟩;refine z5 ?_;refine aE rfl (fun h5 => ?_) fun h5 => ?_
 ·
  have tX : i < s.roots.length := oM;obtain ⟨x, hx⟩ : ∃ x, s.roots[i]? = some x := ⟨_, dm tX⟩;have tU : (s.roots.map eK)[i]? = some (eK x) := by rw [dg, hx]; rfl
  obtain ⟨bb, oo, rfl⟩ := ((kr.of sF).at hw).nn (by rw [bX]; omega);have WJ := UH x (gl hx);have Ur : (eP (s.roots.take i)).length <= 1000 := Q9 (EP _) (by rw [fB]; omega);have HB : eP (s.roots.take (i + 1)) = eP (s.roots.take i) ++ (if x.2.root ≠ 0 then [(x.2.root, x.2.aQ - 1)] else []) := by rw [cC hx, Lv]
  refine z5 ?_;refine eY rfl dw nG rfl rfl ⟨oM, oM⟩ ?_;refine bt rfl rfl (ar.many (cs := eK x) gb rfl (by rw [ez]; exact ((kr.of sF).at hw).at tU)) ?_;refine aF rfl sL hw rfl fun w NA hw => ?_;refine aT (cs := eK x) (l' := eK x) rfl tV rfl rfl gb rfl (by intro u hu; simp [eK] at hu; rcases hu with rfl | rfl | rfl | rfl <;> rfl) hw pK (by simp [eK]) rfl rfl (fun w hw => ?_);refine z4 ?_;refine cS rfl gg rfl ?_;refine lD (v := iQ x.2.root) ag hw ?_;refine z2 ?_;refine aE rfl (fun h6 => ?_) fun h6 => ?_
  ·
   rw [ao h6] at HB;have hht : 1 <= x.2.aQ /\ x.2.aQ <= 12 := by
    rcases WJ with h | h
    ·exact absurd h.1 h6
    exact h.2.1
   refine z3 ?_;refine cS rfl gg rfl ?_;refine lD (v := iQ x.2.root) ag hw ?_;refine z1 ?_;refine cS rfl kY rfl ?_;refine lD (v := iQ x.2.aQ) ag hw ?_;refine z1 ?_;refine aO (v := gQ (qZ (x.2.root, x.2.aQ - 1))) rfl rfl (fun w => kR) ?_;refine fG (cs := qZ (x.2.root, x.2.aQ - 1)) rfl dO g3 ji dM rfl rfl rfl hw rfl fun w b79 hw => ?_;refine fH (m := (eP (s.roots.take i)).length) (k := 1) (news := qZ (x.2.root, x.2.aQ - 1)) rfl dO g3 ny ji rfl rfl hw pK (Rd.jE hw pK) rfl (by intro u hu; simp [qZ] at hu; rcases hu with rfl | rfl <;> rfl) mL oM rfl (fun w v80 hw => ?_);refine z6 ?_;have hz := (hw.b [ah b79 _ _, ah NA _ _, row 163 2 v80 _ _, yV mc _, bH Hl kv, ah b8 _ _, ah q _ _, eL dp D, ah b3 _ _]).tail.tail;have e2 : Jt (eP (s.roots.take i)) ++ qZ (x.2.root, x.2.aQ - 1) = Jt (eP (s.roots.take (i + 1))) := by rw [HB, MW]
   have e3 : (eP (s.roots.take i)).length + 1 = (eP (s.roots.take (i + 1))).length := by rw [HB]; simp
   rw [e2, e3] at hz;exact ⟨s.roots.length - (i + 1), oM, [(6, _), (8, _), (9, _), (13, _), (14, v80), (60, _), (61, _), (62, iQ (i + 1 : Nat))], sB, i + 1, _, oM, rfl, rfl, hz⟩
  refine z5 ?_;have hz := (hw.b [ah NA _ _, row 163 2 u _ _, yV mc _, bH Hl kv, ah b8 _ _, ah q _ _, eL dp D, ah b3 _ _]).tail;rw [aj h6, pz] at HB
  (try unfold sQ at hz); rw [<-HB] at hz
  exact ⟨s.roots.length - (i + 1), oM, [(6, _), (8, _), (9, _), (13, _), (14, u), (60, _), (61, _), (62, iQ (i + 1 : Nat))], sB, i + 1, _, oM, rfl, rfl, hz⟩
 have hie : i = s.roots.length := oM;subst hie;rw [sX] at hw;have Ur := EP s.roots;refine z3 ?_;refine bF (fun m e w => ∃ (W todo : List CK) (mk : KC) (kv : KV) (T : Nat) (u : Value), m = 9 * (14 * pn - W.length) + todo.length /\ e = [(6, pQ q), (8, pQ b8), (9, .func (.func 62) #[] #[pQ b8]), (13, .map (some mc)), (14, u)] /\ (Bs s D.bK U W todo /\ Sr mk W T /\ T + todo.length <= 1000 + 8 * W.length /\ Br kv B ((∃ i : Nat, i < bn /\ ir s D.bK i = none) \/ ∃ c ∈ W, xh s D.bK c = none)) /\ an G (row 163 2 u todo.length (Jt todo) :: yV mc mk :: bH Hl kv :: ah b8 [.map (some Hl)] 147 :: ah q (jQ dp s (.slice ra s.roots.length rc)) 157 :: eL dp D :: ah b3 (EI s (.slice ra s.roots.length rc)) 74 :: L) w)
  (m := 9 * (14 * pn) + (eP s.roots).length) sB
  ⟨[], eP s.roots, [], kv, 0, u, rfl, rfl, ⟨Bs.start hB, (fun c => .inl ⟨by simp, rfl⟩), by simp only [JV]; omega, Vy.iff ⟨.inl, fun h => h.elim id (fun ⟨c, h, _⟩ => by cases h)⟩⟩, hw⟩ ?_
 rintro m e w ⟨W, todo, mk, kv, T, u, rfl, rfl, ⟨hBI, hM, hTl, Vy⟩, hw⟩;obtain ⟨ua, uc, rfl⟩ := aP hw;have hWl := hBI.small hB hU Bu;refine z4 ?_;refine eJ rfl kR dO rfl ?_;refine z2 ?_;refine aE rfl (fun h7 => ?_) fun h7 => ?_
 ·
  obtain ⟨fI, c, rfl⟩ : ∃ fI c, todo = fI ++ [c] := by
   rcases List.eq_nil_or_concat todo with rfl | ⟨l, b, rfl⟩
   ·simp at h7
   exact ⟨l, b, by simp⟩
  obtain ⟨cn, lev⟩ := c;have hUc := hBI.uT (cn, lev) sM;have xA := hB.inn _ hUc;have PX := hU _ hUc;obtain ⟨n, rfl⟩ : ∃ n : Nat, cn = n := ⟨cn.toNat, by simp only at xA; omega⟩;simp only at xA PX;rw [Bu] at xA
  have hlen : (fI ++ [((n : Int), lev)]).length = fI.length + 1 := by simp
  rw [hlen] at hw hTl;rw [hlen];obtain ⟨-, tb, -, HA, htc, -⟩ := hY hw oM;subst HA;have Um : ∀ R, aG (row 163 2 (.slice (some ⟨tb, 0, none⟩) (fI.length + 1) uc) (fI.length + 1) (Jt (fI ++ [((n : Int), lev)])) :: R) (g7 2 (.slice (some ⟨tb, 0, none⟩) (fI.length + 1) uc) ((fI ++ [((n : Int), lev)]).map qZ)) := fun R => by
   have h := ckT (.slice (some ⟨tb, 0, none⟩) (fI.length + 1) uc) (fI ++ [((n : Int), lev)]) R;rw [hlen] at h;exact h
  have ZO : ((fI ++ [((n : Int), lev)]).map qZ)[fI.length]? = some (qZ ((n : Int), lev)) := by simp
  have VE : (((fI.length + 1 : Nat) : Int) - 1).toNat = fI.length := oM;obtain ⟨j, hj, hjT, hjW⟩ := hM.look ((n : Int), lev);refine z5 ?_;refine eJ rfl kR dO rfl ?_;refine z7 ?_;refine eY rfl dO g3 rfl rfl ⟨oM, oM⟩ ?_;refine bt rfl rfl (ar.many (cs := qZ ((n : Int), lev)) iX rfl (by rw [VE]; exact (((Um _).of sF).at hw).at ZO)) ?_;refine aF rfl JH hw rfl fun w b18 hw => ?_;refine aT (cs := qZ ((n : Int), lev)) (l' := qZ ((n : Int), lev)) rfl tV rfl rfl iX rfl (by intro u hu; simp [qZ] at hu; rcases hu with rfl | rfl <;> rfl) hw pK (by simp [qZ]) rfl rfl (fun w hw => ?_);refine z5 ?_;refine u1 rfl dO EH rfl sM rfl ⟨oM, oM⟩ ?_;rw [VE];have hw := hw.b [row 163 2 (.slice (some ⟨tb, 0, none⟩) (fI.length + 1) uc) _ _];have hw := Lu (rs := (fI ++ [((n : Int), lev)]).map qZ) hw sM (abK _) (j := fI.length) oM;have ach : ((fI ++ [((n : Int), lev)]).map qZ).take fI.length = fI.map qZ := by simp
  rw [ach] at hw;refine z4 ?_;refine bd [0, 1, 2, 3, 4, 5, 6] bJ kR ?_;replace hw := hw.drawn (w.drawn + 1);refine z1 ?_;refine lA (l := qZ ((n : Int), lev)) iX hw ?_;refine SQ (a := ((n : Int), lev)) (v0 := iQ j) rfl rfl tV iP xi q9 rfl rfl hw pK hj ?_;refine z1 ?_;refine aaE (a := ((n : Int), lev)) (u := iQ j) rfl rfl tV iP xi q9 rfl rfl hw pK hj (fun w st hw q' hq => ?_) fun w st hw => ?_
  ·have hq := bm (l := [2]) kR hq;simp only [bQ, dz, or_false] at hq;subst hq;exact Xo rfl iP xi q9 rfl rfl rfl hw pK
  refine z1 ?_;refine aaF (a := ((n : Int), lev)) (u := iQ j) (st := st) rfl tV rfl rfl rfl hw pK kR fun w hw => ?_;refine z4 ?_;refine lA (l := qZ ((n : Int), lev)) iX hw ?_;refine SQ (a := ((n : Int), lev)) (v0 := iQ ((j : Int) + 1)) rfl rfl tV iP xi q9 rfl rfl hw pK (by rw [Js, ao rfl]; rfl) ?_;refine z2 ?_;refine aE rfl (fun h8 => ?_) fun h8 => ?_
  ·
   refine z1 ?_;have hcW := hjW.2 oM;have hz := (hw.b [ah b18 _ _, row 163 2 _ _ _, yV mc _, bH Hl kv, ah b8 _ _, ah q _ _, eL dp D, ah b3 _ _]).tail;exact ⟨9 * (14 * pn - W.length) + fI.length, oM, [(6, _), (8, _), (9, _), (13, _), (14, _)], sB, W, fI, _, kv, T + 1, _, rfl, rfl, ⟨hBI.skip hcW, hM.put hjT (fun x => ⟨.inr, fun h => h.elim (fun h => h ▸ hcW) id⟩), oM, Vy⟩, hz⟩
  have hcW : ((n : Int), lev) ∉ W := fun h => h8 (by have := hjW.1 h; omega)
  have hb := yW (hw.b [ah q _ _, eL dp D]);refine z4 ?_;refine lA (l := qZ ((n : Int), lev)) iX hw ?_;refine al rfl zD rfl (A1 (n := n) (lev := lev) hb aW hL oM oM) rfl fun w adQ hv => ?_;obtain ⟨l, v, ev, b, A, rfl, hl8, Oz, UK, Ny, hw⟩ := RG hv;have gN : xh s D.bK ((n : Int), lev) = some l \/ (xh s D.bK ((n : Int), lev) = none /\ l = []) := by
   cases b with
   | false => exact .inl (UK rfl).1
   | true => exact .inr ⟨(Ny rfl).1, (Ny rfl).2.1⟩
  have aai := hBI.step hB hcW gN;have hW2 := aai.small hB hU Bu;rw [g5] at hW2;have hM2 := hM.put hjT (W' := ((n : Int), lev) :: W) (fun x => bQ);have e9 : (fI.map qZ).flatten ++ (l.map qZ).flatten = Jt (fI ++ l) := Xm fI l;have e8 : fI.length + (l.map qZ).length = (fI ++ l).length := by simp
  refine mN ?_;refine Bw rfl hI rfl Oz ?_;refine aC ?_;refine di rfl (fun h9 => ?_) fun h9 => ?_
  ·
   obtain ⟨rI, hl0, f, er, rfl, rfl⟩ := Ny h9;rw [show D6 s (n : Int) = B from hB.bad _ hUc rI] at hw;refine z3 ?_;refine fc rfl rfl wN rfl rfl (yx (hw.b [ah b8 _ _, bH Hl kv, Nz f B er]) (ke.of sF) Vy) rfl fun w adN hv => ?_;obtain ⟨xd, aaf, hw⟩ := hv;refine z4 ?_;refine Bz (m := fI.length) (rs := l.map qZ) rfl dO g3 ny ji rfl rfl (hw.b [row 163 2 (.slice (some ⟨tb, 0, none⟩) _ uc) _ _, row 163 2 v _ _]) .here (((ckT v l _).of sF).at (hw.b [row 163 2 v _ _])) (by intro u hu; obtain ⟨r, hr, hur⟩ := List.mem_flatten.1 hu; obtain ⟨c, _, rfl⟩ := dE.1 hr; simp [qZ] at hur; rcases hur with rfl | rfl <;> rfl) (by rw [bX]; simp only [maxLen]; omega) (by rw [bX]; omega) rfl (fun w S9 hw => ?_);refine z2 ?_;rw [e8, e9] at hw
   have hz := (hw.b [ah b18 _ _, row 163 2 v _ _, row 163 2 S9 _ _, yV mc _, bH Hl xd, ah b8 _ _, ah q _ _, eL dp D, ah b3 _ _]).tail.tail;refine ⟨9 * (14 * pn - (W.length + 1)) + (fI ++ l).length, by rw [de]; omega, [(6, _), (8, _), (9, _), (13, _), (14, S9)], sB, ((n : Int), lev) :: W, fI ++ l, _, xd, T + 1, _, rfl, rfl, ⟨aai, hM2, by rw [de, g5]; omega, aaf.iff ⟨fun _ => .inr ⟨_, iD, rI⟩, fun _ => trivial⟩⟩, hz⟩
  refine z4 ?_;refine Bz (m := fI.length) (rs := l.map qZ) rfl dO g3 ny ji rfl rfl (hw.b [row 163 2 (.slice (some ⟨tb, 0, none⟩) _ uc) _ _, row 163 2 v _ _]) .here (((ckT v l _).of sF).at (hw.b [row 163 2 v _ _])) (by intro u hu; obtain ⟨r, hr, hur⟩ := List.mem_flatten.1 hu; obtain ⟨c, _, rfl⟩ := dE.1 hr; simp [qZ] at hur; rcases hur with rfl | rfl <;> rfl) (by rw [bX]; simp only [maxLen]; omega) (by rw [bX]; omega) rfl (fun w S9 hw => ?_);refine z2 ?_;rw [e8, e9] at hw;have hz := (hw.b [A, ah b18 _ _, row 163 2 v _ _, row 163 2 S9 _ _, yV mc _, bH Hl kv, ah b8 _ _, ah q _ _, eL dp D, ah b3 _ _]).tail.tail.tail;have VA : b = false := h9;refine ⟨9 * (14 * pn - (W.length + 1)) + (fI ++ l).length, by rw [de]; omega, [(6, _), (8, _), (9, _), (13, _), (14, S9)], sB, ((n : Int), lev) :: W, fI ++ l, _, kv, T + 1, _, rfl, rfl, ⟨aai, hM2, by rw [de, g5]; omega, Vy.iff ⟨fun h => h.imp id (fun ⟨c, hc, hn⟩ => ⟨c, jN _ hc, hn⟩), fun h => h.imp id (fun ⟨c, hc, hn⟩ => ⟨c, (bQ.1 hc).resolve_left (fun e => by rw [e, (UK VA).1] at hn; cases hn), hn⟩)⟩⟩, hz⟩
 obtain rfl : todo = [] := Ae oM;refine z3 ?_;refine lD (v := .map (some Hl)) jl hw ?_;refine al rfl lR rfl (Kz (mm := Hl) hw) rfl fun w abV hv => ?_;obtain ⟨b1, rfl, hw⟩ := hv;obtain ⟨lk, Ax, K1⟩ := Vy.keys;have hb := hw.b [ah b1 _ _, bH Hl kv];refine al rfl uN rfl (Cm hb Ax) rfl fun w aaZ hv => ?_;have hw := hv;refine z4 ?_;exact cz rfl rfl rfl rfl (by
 have hF : ((∃ i : Nat, i < bn /\ ir s D.bK i = none) \/ ∃ c ∈ W, xh s D.bK c = none) ↔ Hj s D.bK W := by
  unfold Hj;rw [Ns];exact ⟨fun h => h.imp (fun ⟨i, h1, h2⟩ => ⟨i, oM, h2⟩) id, fun h => h.imp (fun ⟨i, h1, h2⟩ => ⟨i, oM, h2⟩) id⟩
 refine ⟨aaZ, lk, W, rfl, hBI.cls, K1.imp (fun h => ⟨fun h' => h.1 (hF.2 h'), h.2⟩) (fun h => ⟨hF.1 h.1, h.2⟩), ?_⟩;exact (hw.b [row 163 2 _ _ _, yV mc _, ah b8 _ _, ah q _ _, ah b3 _ _, row 3 1 aaZ _ _, eL dp D]).tail.tail.tail.tail.tail)
end
def tuC (b f : Int) (B : Nat) : List Value := [iQ b, iQ f, .int .u32 B]
structure Sl (l : bW) (b f : Int) (B : Nat) : Prop where
 bits : B ≠ 0
 fr : 0 <= f /\ f <= 4096
 bl : 0 <= b /\ b < ((l.length / 512 : Nat) : Int)
 all : ∀ k, B.testBit k = true -> f.toNat + k < 4096
theorem abZ (a : Nat) {k : Nat} (h : k < 32) : ((a : Nat) : Int).fdiv (2 ^ min (k : Int).toNat IntKind.u32.bits) = ((a / 2 ^ k : Nat) : Int) := by
 have e : min (k : Int).toNat IntKind.u32.bits = k := by rw [ez]; exact EW (by show k <= 32; omega)
 rw [e, show (2 ^ k : Int) = ((2 ^ k : Nat) : Int) by simp, Int.ofNat_fdiv]
theorem ab0 {r : Nat} (h : r < 8) : IntKind.u8.wrap (1 * 2 ^ min (r : Int).toNat IntKind.u8.bits) = ((2 ^ r : Nat) : Int) := by
 have : r = 0 \/ r = 1 \/ r = 2 \/ r = 3 \/ r = 4 \/ r = 5 \/ r = 6 \/ r = 7 := oM;rcases this with rfl | rfl | rfl | rfl | rfl | rfl | rfl | rfl <;> decide
theorem abR (x : UInt8) {n : Nat} : IntKind.u8.wrap (BitVec.ofInt IntKind.u8.bits (x.toNat : Int) ^^^ BitVec.ofInt IntKind.u8.bits (n : Int)).toNat = ((x ^^^ UInt8.ofNat n).toNat : Int) := by
 have e1 : BitVec.ofInt 8 (x.toNat : Int) = x.toBitVec := by rw [BitVec.ofInt_natCast]; exact BitVec.ofNat_toNat 8 x.toBitVec ▸ (BitVec.setWidth_eq x.toBitVec)
 have e2 : BitVec.ofInt 8 (n : Int) = (UInt8.ofNat n).toBitVec := by rw [BitVec.ofInt_natCast]; rfl
 show IntKind.u8.wrap (BitVec.ofInt 8 (x.toNat : Int) ^^^ BitVec.ofInt 8 (n : Int)).toNat = _
 rw [e1, e2, <-UInt8.toBitVec_xor];exact w8 (x ^^^ UInt8.ofNat n).toNat_lt
theorem Yb {B k : Nat} : B / 2 ^ k % 2 = 1 ↔ B.testBit k = true := by
 rw [Nat.testBit_eq_decide_div_mod_eq, decide_eq_true_eq]
section
variable {G : Gh} {L R : List aw} {w : World}
theorem H6 {v : Value} {l : bW} {b f : Int} {B : Nat} (hw : an G L w) (ka : aG L (dP v l)) (hl : l.length <= 524288) (hB : B < 2 ^ 32) :
  Calls prog 24 #[v, gQ (tuC b f B)] w (bU fun r w' => (r = .tuple #[nQ, .bool false] /\ an G L w') \/ (Sl l b f B /\ ∃ v', r = .tuple #[v', .bool true] /\ an G (row 5 1 v' l.length (cD (nF l b.toNat f.toNat B)) :: L) w')) := by
 obtain ⟨a, cap, rfl⟩ := ((ka.of sF).at hw).form;refine ad (args := [_, _]) func24 rfl ntmps24 rfl rfl ?_;refine z2 ?_;refine a9 rfl rfl rfl hw rfl fun w b3 hw => ?_;refine z7 ?_;refine lD (v := .int .u32 B) m0 hw ?_;refine z2 ?_;refine ay (d := 12) rfl (fun h1 => ?_) fun h1 => ?_
 ·
  refine z23 ?_;refine bY rfl ?_;refine z6 ?_;exact cz rfl rfl rfl rfl (.inl ⟨rfl, hw.tail⟩)
 refine z1 ?_;refine lD (v := iQ f) ag hw ?_;refine z3 ?_;refine ay (d := 17) rfl (fun h2 => ?_) fun h2 => ?_
 ·
  refine z18 ?_;refine bY rfl ?_;refine z6 ?_;exact cz rfl rfl rfl rfl (.inl ⟨rfl, hw.tail⟩)
 refine z1 ?_;refine lD (v := iQ f) ag hw ?_;refine z3 ?_;refine ay (d := 22) rfl (fun h3 => ?_) fun h3 => ?_
 ·
  refine VI ?_;refine bY rfl ?_;refine z6 ?_;exact cz rfl rfl rfl rfl (.inl ⟨rfl, hw.tail⟩)
 refine z1 ?_;refine lD (v := iQ b) ag hw ?_;refine z3 ?_;refine ay (d := 27) rfl (fun h4 => ?_) fun h4 => ?_
 ·
  refine z8 ?_;refine bY rfl ?_;refine z6 ?_;exact cz rfl rfl rfl rfl (.inl ⟨rfl, hw.tail⟩)
 refine z1 ?_;refine lD (v := iQ b) ag hw ?_;refine z2 ?_;refine re rfl rfl rfl oM oM ?_;refine z3 ?_;refine aE rfl (fun h5 => ?_) fun h5 => ?_
 ·
  refine z6 ?_;exact cz rfl rfl rfl rfl (.inl ⟨rfl, hw.tail⟩)
 obtain ⟨fn, rfl⟩ : ∃ fn : Nat, f = fn := ⟨f.toNat, oM⟩;obtain ⟨bn, rfl⟩ : ∃ bn : Nat, b = bn := ⟨b.toNat, oM⟩;obtain ⟨F, hF⟩ : ∃ F, F = 4096 * bn + fn := ⟨_, rfl⟩;refine z4 ?_;refine al rfl xU rfl (zk (l := l) hw (ka.of sF) oM) rfl fun w St hv => ?_;have hw := hv;obtain ⟨wa, wc, rfl⟩ := aP hw;obtain ⟨-, tb, -, HA, -, -⟩ := hY hw oM;subst HA;refine z8 ?_;refine bF (fun m e w => ∃ (k : Nat), k <= 32 /\ m = 32 - k /\ e = [(3, pQ b3), (6, .slice (some ⟨tb, 0, none⟩) l.length wc), (7, iQ k)] /\ (∀ j, j < k -> B.testBit j = true -> fn + j < 4096) /\ an G (row 5 1 (.slice (some ⟨tb, 0, none⟩) l.length wc) l.length (cD (jy l F B k)) :: ah b3 (tuC bn fn B) 77 :: L) w)
  (m := 32) sB
  ⟨0, oM, rfl, rfl, (fun j h => by omega), hw⟩ ?_
 rintro m e w ⟨k, hk, rfl, rfl, fx, hw⟩;refine z6 ?_;refine aE rfl (fun h6 => ?_) fun h6 => ?_
 ·
  have gK : k < 32 := oM;refine z6 ?_;refine lD (v := .int .u32 B) m0 hw ?_;refine z1 ?_;refine Ev (v := ((B / 2 ^ k : Nat) : Int)) rfl rfl rfl oM (abZ B gK) ?_;refine X3 rfl rfl rfl oM ?_;rw [show (((B / 2 ^ k : Nat) : Int).tmod 2) = ((B / 2 ^ k % 2 : Nat) : Int) from (Int.ofNat_tmod (B / 2 ^ k) 2).symm];refine z2 ?_;refine aE rfl (fun h7 => ?_) fun h7 => ?_
  ·
   have K0 : B.testBit k = true := Yb.1 oM;refine z3 ?_;refine lD (v := iQ fn) ag hw ?_;refine mN ?_;refine aE rfl (fun h8 => ?_) fun h8 => ?_
   ·
    refine z6 ?_;exact cz rfl rfl rfl rfl (.inl ⟨rfl, hw.tail.tail⟩)
   have WY : fn + k < 4096 := oM;have ei : (bn : Int) * 512 + ((fn : Int) + k) / 8 = ((512 * bn + (fn + k) / 8 : Nat) : Int) := oM;have er : ((fn : Int) + k) % 8 = (((fn + k) % 8 : Nat) : Int) := oM;have Ej := se l F B k;have Mo : 512 * bn + (fn + k) / 8 < l.length := oM;have HD : ∀ M, aG (row 5 1 (.slice (some ⟨tb, 0, none⟩) l.length wc) l.length (cD (jy l F B k)) :: M) (dP (.slice (some ⟨tb, 0, none⟩) l.length wc) (jy l F B k)) := fun M => by have h := (dP.row (T := 5) (v := .slice (some ⟨tb, 0, none⟩) l.length wc) (l := jy l F B k)).head M; rw [Ej] at h; exact h
   obtain ⟨x, hx⟩ : ∃ x, (jy l F B k).getD (512 * bn + (fn + k) / 8) 0 = x := ⟨_, rfl⟩;have RW : jy l F B (k + 1) = (jy l F B k).set (512 * bn + (fn + k) / 8) (x ^^^ UInt8.ofNat (2 ^ ((fn + k) % 8))) := by
    rw [jy, ao K0, yn, show (F + k) / 8 = 512 * bn + (fn + k) / 8 by omega, show (F + k) % 8 = (fn + k) % 8 by omega, hx]
   refine dS ?_;refine bd [0, 1, 2, 3, 4, 5, 6, 7, 8, 9, 10, 11, 12, 13, 14, 15, 16, 17, 18, 19, 20, 21] bJ kR ?_;replace hw := hw.drawn (w.drawn + 1);refine z2 ?_;refine lD (v := iQ bn) ag hw ?_;refine jH rfl rfl rfl oM ?_;refine z1 ?_;refine re rfl rfl rfl oM oM ?_;refine z1 ?_;rw [ei];refine z2 ?_;refine lD (v := iQ bn) ag hw ?_;refine jH rfl rfl rfl oM ?_;refine z1 ?_;refine re rfl rfl rfl oM oM ?_;refine z1 ?_;rw [ei];refine cR rfl aI bh rfl rfl ⟨oM, oM⟩ ?_;refine bt rfl rfl (ar.one (v := bv x) eC (by have h := (((HD _).of sF).at hw).at (i := ((512 * bn + (fn + k) / 8 : Nat) : Int)) ⟨oM, oM⟩; rw [ez, hx] at h; rw [ez]; exact h)) ?_;refine z1 ?_;refine SV rfl rfl rfl oM oM ?_;rw [er];refine Ir (v := ((2 ^ ((fn + k) % 8) : Nat) : Int)) rfl rfl rfl oM (ab0 oM) ?_;refine JI (v := ((x ^^^ UInt8.ofNat (2 ^ ((fn + k) % 8))).toNat : Int)) rfl rfl rfl (abR x) ?_;refine cR rfl aI bh rfl rfl ⟨oM, oM⟩ ?_;refine ND (j := 512 * bn + (fn + k) / 8) (xs' := cD (jy l F B (k + 1))) rfl tV rfl rfl eC rfl hw pK Mo (by simp; omega) (by rw [RW]; exact LA.symm) kR (fun w hw => ?_);refine z6 ?_;refine ⟨32 - (k + 1), oM, [(3, _), (6, _), (7, iQ (k + 1 : Nat))], sB, k + 1, oM, rfl, rfl, ?_, hw⟩;intro j hj htj;rcases qz j k with h | h
   ·exact fx j h htj
   have : j = k := oM;subst this; exact WY
  refine z6 ?_;have K0 : ¬ B.testBit k = true := fun h => h7 (by have := Yb.2 h; omega)
  have RW : jy l F B (k + 1) = jy l F B k := by rw [jy, aj K0]
  (try unfold sQ at hw); rw [<-RW] at hw
  refine ⟨32 - (k + 1), oM, [(3, _), (6, _), (7, iQ (k + 1 : Nat))], sB, k + 1, oM, rfl, rfl, ?_, hw⟩;intro j hj htj;rcases qz j k with h | h
  ·exact fx j h htj
  have : j = k := oM;subst this; exact absurd htj K0
 refine z8 ?_;exact cz rfl rfl rfl rfl (by
 have acG : k = 32 := oM;subst acG;refine .inr ⟨⟨oM, oM, oM, fun k h => ?_⟩, _, rfl, ?_⟩
 ·rw [ez];refine fx k (Classical.byContradiction fun hn => ?_) h;have h9 : B < 2 ^ k := Rh hB (N4 dM oM);rw [Wa h9] at h; cases h
 ·have hz := (hw.b [ah b3 _ _]).tail;unfold nF;rw [ez, ez, <-hF];exact hz)
end
abbrev sf (l : bW) : Dk := Dk.new (js l (l.length / 512))
theorem Qb {l : bW} (h : ld l) : (sf l).Ok := .new (by rw [ns]; exact ⟨h.2.1, h.2.2⟩) (Gs (by have := h.1; omega))
theorem MG (l : bW) : (sf l).fh.length = l.length / 512 := ns ..
theorem ti {l : bW} {i : Nat} (hi : i < l.length / 512) : (sf l).bK i = x5 l i := by
 show ((none : Option bW)).getD (j9 (js l (l.length / 512)) i) = _
 show j9 (js l (l.length / 512)) i = _
 unfold j9 js;rw [lP, dg, LI hi];rfl
theorem MF {l : bW} {i : Nat} (hi : l.length / 512 <= i) : (sf l).bK i = zb := by
 show j9 (js l (l.length / 512)) i = _
 unfold j9 js;rw [lP, Dp (by simp; exact hi)];rfl
section
variable {s : Su} {c : List Int} {pl : List (Int × Pg)} {rp : Rp} {l : bW} {b f : Int} {B : Nat}
theorem Ll (ht : Sl l b f B) : VH b (sf l).bK (sf (nF l b.toNat f.toNat B)).bK := fun i hi => by
 have hl := wX l b.toNat f.toNat B;rcases qz i (l.length / 512) with h | h
 ·rw [ti h, ti (by rw [hl]; exact h), Lm ht.all (by have := ht.bl; omega)]
 rw [MF h, MF (by rw [hl]; exact h)]
theorem eU.summed {Bk : Nat -> bW} (h : eU s Bk c pl rp) (hB : k8 s c b) : kG (Bk b.toNat) := by
 obtain ⟨h2, h3⟩ := jR h.load;obtain ⟨f1, f2, f3, f4, f5, f6⟩ := kA (df h.sup).1
 by_cases xA : mb s b
 ·obtain ⟨i, hi⟩ : ∃ i : Nat, gH (aL s.cf) s.gen + i = b := ⟨(b - gH (aL s.cf) s.gen).toNat, by unfold mb at xA; omega⟩;obtain ⟨x, hx⟩ := nf h2 i (by unfold mb at xA; omega);have h4 := (CC hx).2;rw [hi] at h4;exact h4
 have Mr := hB.resolve_left xA;have Jd : bG c (b - (aL s.cf).first + 1) := qA fun hn => Mr (by unfold fS; rw [aj hn])
 unfold fS at Mr;rw [ao Jd] at Mr
 unfold bG at Jd;obtain ⟨p, hp, -⟩ := (rU h3).1 (b - (aL s.cf).first + 1 - 1).toNat oM Mr;rw [show (((b - (aL s.cf).first + 1 - 1).toNat : Nat) : Int) + 1 = b - (aL s.cf).first + 1 by omega] at hp
 unfold gy at hp;split at hp
 ·rw [show (aL s.cf).first + (b - (aL s.cf).first + 1) - 1 = b by omega] at hp;cases hd : xC (b - (aL s.cf).first + 1) (Bk b.toNat) with
  | none => rw [hd] at hp; cases hp
  | some x => obtain ⟨p', g⟩ := x; exact (MJ hd).2
 cases hp
theorem Lj (h : eU s (sf l).bK c pl rp) (h8 : ld l) (hB : B < 2 ^ 32) (ht : Sl l b f B) (hb : k8 s c b) : ¬ kG ((sf (nF l b.toNat f.toNat B)).bK b.toNat) := by
 have h1 := h.summed hb;have s8 : b.toNat < l.length / 512 := by have := ht.bl; omega
 rw [ti s8] at h1;rw [ti (by rw [wX]; exact s8)];unfold kG at h1 ⊢
 exact Q1 (n := l.length / 512) (by have := h8.1; omega) s8 ht.bits hB ht.all h1
def ClU (s : Su) (c : List Int) (pl : List (Int × Pg)) (x : CK) : Prop := sK (dV s.cf.refs c pl).rd x /\ x.2 <= 12
theorem Qi {x : CK} (h : ClU s c pl x) : -1 <= x.2 /\ x.2 <= 12 := by
 obtain ⟨h1, h2⟩ := h;rcases h1 with ⟨h1, _⟩ | ⟨h1, _⟩ <;> omega
theorem Qh {Bk : Nat -> bW} (hs : eI s = 0) (h : KU s Bk b (sK (dV s.cf.refs c pl).rd)) : KU s Bk b (ClU s c pl) := by
 refine ⟨fun x hx => ⟨h.root x hx, ?_⟩, fun x hx => h.inn x hx.1, fun x hx => h.bad x hx.1, fun x hx k hk y hy => ⟨h.T9 x hx.1 k hk y hy, ?_⟩, h.gL⟩
 ·unfold eP at hx;obtain ⟨y, hy, rfl⟩ := dE.1 hx;obtain ⟨hy, hn⟩ := Dn.1 hy;have hc := (df hs).2.2.2 y hy;rcases hc with hc | hc
  ·have := hc.1; simp [this] at hn
  show y.2.aQ - 1 <= 12
  omega
 unfold xh at hk;split at hk
 ·cases hk
 split at hk
 ·cases hk
 split at hk
 ·cases hk
 cases hk;obtain ⟨z, _, rfl⟩ := dE.1 hy;have := hx.2
 show (if jU x.2 = 2 then x.2 - 1 else -1) <= 12
 split <;> omega
theorem eU.abW {s : Su} (h : eU s (sf l).bK c pl rp) (h8 : ld l) (hB : B < 2 ^ 32) (ht : Sl l b f B) : KU s (sf (nF l b.toNat f.toNat B)).bK b (ClU s c pl) :=
 Qh h.sup (h.KL (Ll ht) (Lj h h8 hB ht))
theorem eU.one {Bk : Nat -> bW} {c' : List Int} {pl' : List (Int × Pg)} {rp' : Rp} (h : eU s Bk c pl rp) (h' : eU s Bk c' pl' rp') : c' = c /\ pl' = pl /\ rp' = rp := by
 have h1 := h.load;rw [h'.load] at h1;cases h1;exact ⟨rfl, rfl, (qs.one h'.whole h.whole).1⟩
theorem eU.aa3 {Bk zJ : Nat -> bW} (h : eU s Bk c pl rp) (hl : jS s zJ = jS s Bk) : eU s zJ c pl rp := ⟨h.sup, hl.trans h.load, h.ok, h.whole⟩
theorem Qe {n : Int} (h : qN s.cf.refs c = 0) : 0 < fS c n ↔ fS c n ≠ 0 := by
 have h1 : 0 <= fS c n := by
  unfold fS;split
  ·rename_i ht;have hi : (n - 1).toNat < c.length := by unfold bG at ht; omega
   rw [lP, dm hi];exact (rT h _ (JW hi)).1
  exact rQ 0
 omega
end
section
variable {G : Gh} {L R : List aw} {w : World}
theorem yv {v : Value} {l : bW} (hw : an G L w) (ka : aG L (dP v l)) (nM : l.length <= 140737488355328) :
  Calls prog 21 #[v] w (bU fun r w' => (¬ ld l /\ r = .pointer none /\ an G L w') \/ (ld l /\ ∃ p, r = pQ p /\ an G (eL p (Dk.new (js l (l.length / 512))) :: L) w')) := by
 refine ad (args := [_]) func21 rfl ntmps21 rfl rfl ?_;refine z7 ?_;refine al rfl Io rfl (KD hw ka nM) rfl fun w v7 hv => ?_;have hz : ∃ (er : Int) (pp : Option Addr) (A : aw), v7 = .tuple #[.pointer pp, iQ er] /\ (er ≠ 0 -> ¬ ld l /\ A = aV []) /\ (er = 0 -> ld l /\ ∃ p, pp = some ⟨p, 0, none⟩ /\ A = eL p (Dk.new (js l (l.length / 512)))) /\ an G (A :: L) w := by
  rcases hv with ⟨h1, h2, h3⟩ | ⟨h1, p, h2, h3⟩
  ·exact ⟨1, none, aV [], h2, fun _ => ⟨h1, rfl⟩, (fun h => by cases h), an.bz (M := []) h3⟩
  exact ⟨0, _, _, h2, (fun h => absurd rfl h), fun _ => ⟨h1, p, rfl, rfl⟩, h3⟩
 obtain ⟨er, pp, A, rfl, UK, Ny, hw⟩ := hz;refine yb ?_;refine aE rfl (fun h1 => ?_) fun h1 => ?_
 ·
  refine z5 ?_;exact aK rfl rfl rfl (.inl ⟨(UK h1).1, rfl, hw.tail⟩)
 refine z7 ?_;exact aK rfl rfl rfl (by
 obtain ⟨h2, p, rfl, rfl⟩ := Ny (c6.1 h1);exact .inr ⟨h2, p, rfl, hw⟩)
theorem Cp {vq : Nat} {V : Va} {s : Su} {rv : Value} {B : Int} (hw : an G (cj vq V :: L) w) (aW : V.Ok) (hs : eI s = 0) (hB : 0 <= B /\ B <= 1000000) :
  Calls prog 25 #[pQ vq, gQ (EI s rv), iQ B] w (bU fun r w' => r = .bool (decide (mb s B \/ 0 < V.po.fL (B - (aL s.cf).first + 1))) /\ an G (cj vq V :: L) w') := by
 have hm := (df hs).1;obtain ⟨f1, f2, f3, f4, f5, f6⟩ := kA hm;have hbk : s.cf.blocks <= 65536 := hm.1.2;obtain ⟨g, hg⟩ : ∃ g : Nat, s.gen = g := ⟨s.gen.toNat, by have := (df hs).2.1; omega⟩;have hgl : g <= 1099511627776 := by have := (df hs).2.1; omega
 refine ad (args := [_, _, _]) func25 rfl ntmps25 rfl rfl ?_;refine z2 ?_;refine a9 rfl rfl rfl hw rfl fun w b4 hw => ?_;refine z5 ?_;refine bt rfl rfl (ar.tL (cs := Sg s.cf) iZ hw pK rfl rfl) ?_;refine al rfl GH rfl (H0 (c := s.cf) hw hm) rfl fun w NL hv => ?_;obtain ⟨rfl, hw⟩ := hv;refine z3 ?_;refine aF rfl pR hw rfl fun w b7 hw => ?_;refine aT (cs := oz (aL s.cf)) (l' := oz (aL s.cf)) rfl tV rfl rfl cw rfl (by intro u hu; simp [oz] at hu; rcases hu with rfl | rfl | rfl <;> rfl) hw pK sM rfl rfl (fun w hw => ?_);refine z3 ?_;refine bd [0, 1, 2, 3, 4, 5] bJ kR ?_;replace hw := hw.drawn (w.drawn + 1);refine lA (l := oz (aL s.cf)) cw hw ?_;refine z1 ?_;refine lD (v := iQ s.gen) ag hw ?_;rw [hg];refine dJ rfl GG rfl (HZ (g := g) hw hgl) (fun w Sw hv q' hq => ?_) fun w Sw hv => ?_
 ·
  obtain ⟨rfl, hw⟩ := hv;have hq := bm (l := [0]) kR hq;simp only [bQ, dz, or_false] at hq;subst hq;exact bx rfl rfl rfl (ar.cU (l := oz (aL s.cf)) cw hw pK rfl)
 obtain ⟨rfl, hw⟩ := hv;refine al rfl GI rfl (H2 (p := aL s.cf) hw oM) kR fun w v20 hv => ?_;obtain ⟨rfl, hw⟩ := hv;rw [<-GW, <-hg];have hbP : 2 <= gH (aL s.cf) s.gen /\ gH (aL s.cf) s.gen <= 65538 := by unfold gH; split <;> omega
 refine z9 ?_;refine cu (l1 := [4, 5, 6, 7, 8, 9, 10]) (l2 := []) rfl (d := 31) (gH (aL s.cf) s.gen <= B /\ B < gH (aL s.cf) s.gen + (aL s.cf).gL) rfl ?_ ?_
 ·
  refine ay (d := 24) rfl (fun h1 => ?_) fun h1 => ?_
  ·
   refine z3 ?_;refine lD (v := iQ (aL s.cf).gL) ag hw ?_;refine BA rfl rfl rfl oM ?_;refine z3 ?_;refine cQ ?_;exact dC
  refine z8 ?_;refine cQ ?_;exact dC
 refine aC ?_;refine aE rfl (fun h2 => ?_) fun h2 => ?_
 ·
  refine z5 ?_;exact aK rfl rfl rfl ⟨by have h9 : mb s B := h2; rw [decide_eq_true (Or.inl h9)], (by repeat (first | exact hw | replace hw := hw.tail))⟩
 have Oz : ¬ mb s B := h2;obtain ⟨m, hf, hw⟩ := iW (hw.b [cj vq V]);refine z2 ?_;refine bd [0, 1, 2, 3, 4, 5, 6, 7, 8, 9, 10, 11] bJ kR ?_;replace hw := hw.drawn (w.drawn + 1);refine z3 ?_;refine lD (v := .pointer (some ⟨m.q, 0, none⟩)) aZ hw ?_;refine z2 ?_;refine lD (v := iQ (aL s.cf).first) ag hw ?_;refine z2 ?_;refine al rfl dx rfl (kD (n := B - (aL s.cf).first + 1) (hw.b [iE m.q V.po]) aW.po) kR fun w v41 hv => ?_;obtain ⟨rfl, hw⟩ := hv;have hw := gR hf (hw.b [ah vq _ _, bH m.om _, oy m.S, row 284 2 m.av _ _, aV (m.eW.map kp), iE m.q _]);refine z4 ?_;exact aK rfl rfl rfl ⟨by
 refine congrArg Value.bool (cd.2 ⟨fun h => .inr h, fun h => h.resolve_left Oz⟩), (hw.b [ah b4 _ _, ah b7 _ _, cj vq V]).tail.tail⟩
theorem Ji {r : Value} {l : bW} (h : (¬ ld l /\ r = .pointer none /\ an G L w) \/ (ld l /\ ∃ p, r = pQ p /\ an G (eL p (Dk.new (js l (l.length / 512))) :: L) w)) :
  ∃ (pp : Option Addr) (A : aw), r = .pointer pp /\ (pp = none -> ¬ ld l) /\ (pp ≠ none -> ld l /\ ∃ p, pp = some ⟨p, 0, none⟩ /\ A = eL p (sf l)) /\ an G (A :: L) w := by
 rcases h with ⟨h1, h2, h3⟩ | ⟨h1, p, h2, h3⟩
 ·exact ⟨none, aV [], h2, fun _ => h1, (fun h => absurd rfl h), an.bz (M := []) h3⟩
 exact ⟨_, _, h2, (fun h => by cases h), fun _ => ⟨h1, p, rfl, rfl⟩, h3⟩
theorem Fh {s : Su} {D : Dk} {dp : Nat} {r : Value} (h : (∃ er, er ≠ 0 /\ r = .tuple #[.pointer none, gQ (iB wZ), iQ er] /\ ((eI s = 0 /\ (D.fh.length : Int) = s.cf.blocks) -> er = 18 /\ ∀ c l rp, ¬ eU s D.bK c l rp) /\ an G (eL dp D :: L) w) ∨
    (∃ c l vq rp, eU s D.bK c l rp /\ rp.bad = [] /\ (D.fh.length : Int) = s.cf.blocks /\ r = .tuple #[pQ vq, gQ (iB rp), iQ 0] /\ an G (cj vq (dV s.cf.refs c l) :: eL dp D :: L) w)) :
  ∃ (er : Int) (pp : Option Addr) (rp : Rp) (A : aw), r = .tuple #[.pointer pp, gQ (iB rp), iQ er] /\ (er ≠ 0 -> pp = none /\ ((eI s = 0 /\ (D.fh.length : Int) = s.cf.blocks) -> er = 18 /\ ∀ c l rp, ¬ eU s D.bK c l rp)) ∧
   (er = 0 -> ∃ c l vq, eU s D.bK c l rp /\ rp.bad = [] /\ (D.fh.length : Int) = s.cf.blocks /\ pp = some ⟨vq, 0, none⟩ /\ A = cj vq (dV s.cf.refs c l)) /\ an G (A :: eL dp D :: L) w := by
 rcases h with ⟨er, h1, h2, h3, h4⟩ | ⟨c, l, vq, rp, h1, h2, h3, h4, h5⟩
 ·exact ⟨er, none, wZ, aV [], h2, fun _ => ⟨rfl, h3⟩, (fun h => absurd h h1), an.bz (M := []) h4⟩
 exact ⟨0, _, rp, _, h4, (fun h => absurd rfl h), fun _ => ⟨c, l, vq, h1, h2, h3, rfl, rfl⟩, h5⟩
theorem Q0 {r : Value} {l : bW} {b f : Int} {B : Nat} (h : (r = .tuple #[nQ, .bool false] /\ an G L w) \/ (Sl l b f B /\ ∃ v', r = .tuple #[v', .bool true] /\ an G (row 5 1 v' l.length (cD (nF l b.toNat f.toNat B)) :: L) w)) :
  ∃ (v' : Value) (ok : Bool) (A : aw), r = .tuple #[v', .bool ok] /\ (ok = true -> Sl l b f B /\ A = row 5 1 v' l.length (cD (nF l b.toNat f.toNat B))) /\ an G (A :: L) w := by
 rcases h with ⟨h1, h2⟩ | ⟨h1, v', h2, h3⟩
 ·exact ⟨_, false, aV [], h1, (fun h => by cases h), an.bz (M := []) h2⟩
 exact ⟨v', true, _, h2, fun _ => ⟨h1, rfl⟩, h3⟩
theorem LX {b T : Nat} {x : Int} {R : List aw} : aG (ah b [iQ x] T :: R) (qx (sQ b 1 1) (bg [x])) := fun g w hw =>
 .inr ⟨b, 0, 1, rfl, g8 _, Rd.jE hw .here⟩
theorem OT {v rv : Value} {l : bW} {s : Su} {b f : Int} {B : Nat} (hw : an G L w) (ke : aG L XZ) (RI : aG L EvK) (ka : aG L (dP v l)) (nM : l.length <= 140737488355328) (kr : aG L (g7 4 rv (s.roots.map eK))) (hn : s.roots.length <= 140737488355328) (hB : B < 2 ^ 32) :
  Calls prog 5 #[v, gQ (EI s rv), gQ (tuC b f B)] w (bU fun r w' => r = .bool true /\ an G L w') := by
 obtain ⟨ia, ic, rfl⟩ := (ka.at hw).form;obtain ⟨ra, rc, h0, -, -⟩ := (kr.at hw).form;rw [bX] at h0;subst h0;refine ad (args := [_, _, _]) func5 rfl ntmps5 rfl rfl ?_;refine z2 ?_;refine a9 rfl rfl rfl hw rfl fun w b4 hw => ?_;refine a9 rfl rfl rfl hw rfl fun w b5 hw => ?_;refine z5 ?_;refine al rfl DZ rfl (Gk hw (RI.of sF)) rfl fun w ED hv => ?_;obtain ⟨rfl, hw⟩ := hv;refine jG rfl rfl ?_;refine aC ?_;refine di rfl (fun h1 => ?_) fun h1 => ?_
 ·
  cases h1
 refine z8 ?_;refine ay (d := 23) rfl (fun h2 => ?_) fun h2 => ?_
 ·
  refine z6 ?_;refine bY rfl ?_;refine z5 ?_;exact aK rfl rfl rfl ⟨by first | rfl | simp, (by repeat (first | exact hw | replace hw := hw.tail))⟩
 refine z1 ?_;refine lD (v := .slice ra s.roots.length rc) fN hw ?_;refine eJ rfl kR dw rfl ?_;refine z3 ?_;refine aE rfl (fun h3 => ?_) fun h3 => ?_
 ·
  refine z5 ?_;exact aK rfl rfl rfl ⟨by first | rfl | simp, (by repeat (first | exact hw | replace hw := hw.tail))⟩
 have ad6 : l.length <= 524288 := oM;have hn : s.roots.length <= 1000 := oM;refine z4 ?_;refine al rfl wK rfl (yv (l := l) hw (ka.of sF) oM) rfl fun w v30 hv => ?_;obtain ⟨pp, A, rfl, UK, Ny, hw⟩ := Ji hv;refine z6 ?_;refine wW rfl kR yH rfl ?_;refine aC ?_;refine di rfl (fun h4 => ?_) fun h4 => ?_
 ·
  refine z5 ?_;exact aK rfl rfl rfl ⟨by first | rfl | simp, (by repeat (first | exact hw | replace hw := hw.tail))⟩
 have Mj : pp ≠ none := fun h => by rw [h] at h4; cases h4
 obtain ⟨h8, p, rfl, rfl⟩ := Ny Mj;have aW := Qb h8;refine z4 ?_;refine lA (l := EI s (.slice ra s.roots.length rc)) eR hw ?_;refine al rfl yE rfl (A2 (s := s) (D := sf l) (hw.b [eL p (sf l)]) aW (kr.of sF) hn rfl (ke.of sF) (RI.of sF)) rfl fun w St hv => ?_;obtain ⟨er, pp, rp, A, rfl, hE0, Xa, hw⟩ := Fh hv;refine z4 ?_;refine aF rfl ft hw rfl fun w b9 hw => ?_;refine z1 ?_;refine aT (cs := iB rp) (l' := iB rp) rfl tV rfl rfl aM rfl (ku _) hw pK sM rfl rfl fun w hw => ?_;refine z8 ?_;refine aE rfl (fun h5 => ?_) fun h5 => ?_
 ·
  refine z3 ?_;refine wW rfl kR jh rfl ?_;refine z3 ?_;exact aK rfl rfl rfl ⟨by rw [(hE0 h5).1]; rfl, (by repeat (first | exact hw | replace hw := hw.tail))⟩
 have h5 := c6.1 h5;obtain ⟨c, pl, vq, hF, OI, s8, rfl, rfl⟩ := Xa h5;subst h5;refine z4 ?_;refine lA (l := EI s (.slice ra s.roots.length rc)) eR hw ?_;refine al rfl Bg rfl (Dc (s := s) (D := sf l) (B := 0) (U := ClU s c pl) (hw.b [eL p (sf l)]) aW (kr.of sF) hn rfl (ke.of sF) hF.sup s8 (Qh hF.sup (hF.Na 0)) (fun x => Qi)) rfl fun w v47 hv => ?_;obtain ⟨vb, lb, W, rfl, hWc, gn, hw⟩ := hv;obtain ⟨-, rfl⟩ := gn.resolve_right (fun h => hF.Rx hWc h.1);obtain ⟨ba, bc, rfl⟩ := aP hw;refine yb ?_;refine ay (d := 52) rfl (fun h6 => ?_) fun h6 => ?_
 ·
  exact absurd rfl h6
 refine z1 ?_;refine eJ rfl kR bp rfl ?_;refine z3 ?_;refine ay (d := 57) rfl (fun h7 => ?_) fun h7 => ?_
 ·
  exact absurd h7 sM
 refine z1 ?_;refine wW rfl kR jh rfl ?_;refine z2 ?_;refine di rfl (fun h8' => ?_) fun h8' => ?_
 ·
  exact absurd h8' sM
 refine z5 ?_;refine lD (v := .slice ra s.roots.length rc) fN hw ?_;refine al rfl my rfl (nr (l := s.roots) (hw.b [cj vq _]) (m6 hF.ok) (kr.of sF) hn (RI.of sF)) rfl fun w X7 hv => ?_;obtain ⟨rp2, er2, rfl, ⟨hW2, abz⟩, hw⟩ := hv;obtain ⟨rfl, rfl⟩ := qs.one hF.whole hW2;refine z3 ?_;refine aF rfl ft hw rfl fun w U2 hw => ?_;refine aT (cs := iB rp) (l' := iB rp) rfl tV rfl rfl aM rfl (ku _) hw pK sM rfl rfl fun w hw => ?_;refine z8 ?_;refine ay (d := 70) rfl (fun h9 => ?_) fun h9 => ?_
 ·
  exact absurd rfl h9
 refine lA (l := iB rp) aM hw ?_;refine lA (l := iB rp) aM hw ?_;refine al rfl j6 rfl (kQ (a := ⟨rp, nQ⟩) (b := ⟨rp, nQ⟩) hw (BI OI _) (BI OI _)) rfl fun w v73 hv => ?_;obtain ⟨rfl, hw⟩ := hv;refine fo rfl rfl ?_;refine z2 ?_;refine aE rfl (fun uV => ?_) fun uV => ?_
 ·
  exact absurd rfl uV
 refine z4 ?_;refine lA (l := tuC b f B) s3 hw ?_;refine al rfl GM rfl (H6 (l := l) hw (ka.of sF) oM hB) rfl fun w v79 hv => ?_;obtain ⟨v', ok, A, rfl, hT, hw⟩ := Q0 hv;refine mN ?_;refine jG rfl rfl ?_;refine aC ?_;refine di rfl (fun Hp => ?_) fun Hp => ?_
 ·
  refine z5 ?_;exact aK rfl rfl rfl ⟨by first | rfl | simp, (by repeat (first | exact hw | replace hw := hw.tail))⟩
 obtain ⟨ht, rfl⟩ := hT (by simpa using Hp);have K2 := wX l b.toNat f.toNat B;have R0 := ht.bl;have hM := hF.abW h8 hB ht;have aae := Ll ht;have aa8 := Lj hF h8 hB ht;obtain ⟨l2, acE⟩ : ∃ l2, nF l b.toNat f.toNat B = l2 := ⟨_, rfl⟩;rw [acE] at hw K2 hM aae aa8;have h82 : ld l2 := by unfold ld; rw [K2]; exact h8
 have abl := Qb h82;have aag : ((sf l2).fh.length : Int) = s.cf.blocks := by rw [MG, K2, <-MG]; exact s8
 have HD : ∀ M, aG (row 5 1 v' l.length (cD l2) :: M) (dP v' l2) := fun M => by have h := (dP.row (T := 5) (v := v') (l := l2)).head M; rw [K2] at h; exact h
 refine z4 ?_;refine al rfl wK rfl (yv (l := l2) hw ((HD _).of sF) oM) rfl fun w v85 hv => ?_;obtain ⟨pp, A, rfl, ac3, ac2, hw⟩ := Ji hv;refine z6 ?_;refine wW rfl kR yH rfl ?_;refine aC ?_;refine di rfl (fun OL => ?_) fun OL => ?_
 ·
  exact absurd h82 (ac3 (by simpa using OL))
 have Mj : pp ≠ none := fun h => by rw [h] at OL; cases OL
 obtain ⟨-, p2, rfl, rfl⟩ := ac2 Mj;refine z4 ?_;refine lA (l := EI s (.slice ra s.roots.length rc)) eR hw ?_;refine al rfl yE rfl (A2 (s := s) (D := sf l2) (hw.b [eL p2 (sf l2)]) abl (kr.of sF) hn rfl (ke.of sF) (RI.of sF)) rfl fun w v91 hv => ?_;obtain ⟨er3, pp3, rp3, A3, rfl, hE3, hE4, hw⟩ := Fh hv;refine z4 ?_;refine aF rfl ft hw rfl fun w NA hw => ?_;refine z1 ?_;refine aT (cs := iB rp3) (l' := iB rp3) rfl tV rfl rfl aM rfl (ku _) hw pK sM rfl rfl fun w hw => ?_;refine z5 ?_;refine lA (l := EI s (.slice ra s.roots.length rc)) eR hw ?_;refine al rfl Bg rfl (Dc (s := s) (D := sf l2) (B := b) (U := ClU s c pl) (hw.b [eL p2 (sf l2)]) abl (kr.of sF) hn rfl (ke.of sF) hF.sup aag hM (fun x => Qi)) rfl fun w v98 hv => ?_;obtain ⟨vb2, lb2, Wt, rfl, hWt, Ys, hw⟩ := hv;refine yb ?_;refine aE rfl (fun h13 => ?_) fun h13 => ?_
 ·
  exact absurd rfl h13
 refine z5 ?_;refine lA (l := EI s (.slice ra s.roots.length rc)) eR hw ?_;refine z1 ?_;refine lD (v := iQ b) ag hw ?_;refine al rfl Bf rfl (Cp (s := s) (B := b) (hw.b [cj vq _]) (m6 hF.ok) hF.sup oM) rfl fun w adR hv => ?_;obtain ⟨rfl, hw⟩ := hv;refine aC ?_;refine aE rfl (fun YE => ?_) fun YE => ?_
 ·
  have hbg : k8 s c b := YE.imp id (Qe hF.ok.1).1;obtain ⟨SA, Ej⟩ := hF.Ze aae hbg (aa8 hbg);have qF : er3 ≠ 0 := fun h => by
   obtain ⟨c', l', vq', h1, -⟩ := hE4 h;have h2 := h1.load;rw [SA] at h2; cases h2
  obtain ⟨rfl, h18⟩ := hE3 qF;obtain ⟨rfl, -⟩ := h18 ⟨hF.sup, aag⟩;obtain ⟨-, rfl⟩ := Ys.resolve_left (fun h => h.1 (Ej Wt hWt));refine z5 ?_;refine ay (d := 110) rfl (fun h15 => ?_) fun h15 => ?_
  ·
   refine z1 ?_;refine wW rfl kR jh rfl ?_;rw [show ((none : Option Addr).isNone) = decide (1 = 1) from rfl];refine z2 ?_;refine ay (d := 114) rfl (fun h16 => ?_) fun h16 => ?_
   ·
    refine z2 ?_;refine lD (v := iQ b) ag hw ?_;refine fG (cs := [iQ b]) rfl bp cm gZ dM rfl rfl rfl hw rfl fun w afh hw => ?_;refine al rfl nh rfl (oL (l := [b]) (l' := [b]) hw (uk.of sF) (LX.of sF) sM sM) rfl fun w adM hv => ?_;obtain ⟨rfl, hw⟩ := hv;refine z4 ?_;exact aK rfl rfl rfl ⟨by first | rfl | simp, (by repeat (first | exact hw | replace hw := hw.tail))⟩
   exact absurd rfl h16
  exact absurd rfl h15
 have Oz : ¬ k8 s c b := fun h => YE (h.imp id (Qe hF.ok.1).2)
 obtain ⟨Aw, hnf⟩ := hF.other aae Oz;have hF2 := hF.aa3 Aw;have h30 : er3 = 0 := qA fun h => ((hE3 h).2 ⟨hF.sup, aag⟩).2 c pl rp hF2
 obtain ⟨c2, pl2, vq2, hF3, adq, -, rfl, rfl⟩ := hE4 h30;obtain ⟨e1, e2, e3⟩ := hF2.one hF3;have e1 := e1.symm;have e2 := e2.symm;have e3 := e3.symm;subst e1 e2 e3;subst h30;obtain ⟨-, rfl⟩ := Ys.resolve_right (fun h => hnf Wt hWt h.1);obtain ⟨ba2, bc2, rfl⟩ := aP (hw.b [row 3 1 vb2 _ _]);have abk := m6 hF.ok;have gN := hF.len;have hpb : (aL s.cf).pages <= 65536 := by have h9 := kA (df hF.sup).1; have uV := (df hF.sup).1.1.2; omega
 obtain ⟨m1, RW, hw⟩ := iW (hw.b [cj vq _]);obtain ⟨m2, RV, hw⟩ := iW (hw.b [cj vq2 _]);refine z2 ?_;refine bd [0, 1, 2, 3, 4, 5, 6, 7, 8, 9, 10, 11, 12, 13, 14, 15, 16, 17, 18, 19, 20, 22, 23, 24, 25, 21, 26, 27, 28, 29] bJ kR ?_;replace hw := hw.drawn (w.drawn + 1);refine z3 ?_;refine ay (d := 123) rfl (fun SC => ?_) fun SC => ?_
 ·
  refine lA (l := iB rp) aM hw ?_;refine lA (l := iB rp) aM hw ?_;refine al rfl j6 rfl (kQ (a := ⟨rp, nQ⟩) (b := ⟨rp, nQ⟩) hw (BI OI _) (BI OI _)) kR fun w adJ hv => ?_;obtain ⟨rfl, hw⟩ := hv;refine z2 ?_;refine ay (d := 128) rfl (fun h18 => ?_) fun h18 => ?_
  ·
   refine z1 ?_;refine eJ rfl kR bp rfl ?_;refine z3 ?_;refine ay (d := 133) rfl (fun h19 => ?_) fun h19 => ?_
   ·
    refine z1 ?_;refine VM rfl kR jh rfl ?_;rw [show ((some (⟨vq2, 0, none⟩ : Addr)).isSome) = decide (1 = 1) from rfl];refine z2 ?_;refine ay (d := 137) rfl (fun h20 => ?_) fun h20 => ?_
    ·
     refine z1 ?_;refine Bx rfl rfl ?_;refine z1 ?_;refine lD (v := .pointer (some ⟨m2.q, 0, none⟩)) aZ hw ?_;refine z1 ?_;refine Bx rfl rfl ?_;refine z1 ?_;refine lD (v := .pointer (some ⟨m1.q, 0, none⟩)) aZ hw ?_;refine dJ rfl jZ rfl (rA (hw.b [iE m2.q _]) abk.po) (fun w Zd hv q' hq => ?_) fun w Zd hv => ?_
     ·
      have hw : an G (row 3 1 Zd c.length (bg c) :: _) _ := hv;have hq := bm (l := [25]) kR hq;simp only [bQ, dz, or_false] at hq;subst hq;exact bx rfl rfl rfl (ar.bL (v := .pointer (some ⟨m1.q, 0, none⟩)) aZ hw pK rfl)
     have hw : an G (row 3 1 Zd c.length (bg c) :: _) _ := hv;refine al rfl jZ rfl (rA (hw.b [iE m1.q _]) abk.po) kR fun w abU hv => ?_;have hw : an G (row 3 1 abU c.length (bg c) :: _) _ := hv;refine al rfl nh rfl (oL (l := c) (l' := c) hw (uk.of sF) (uk.of sF) oM oM) kR fun w adG hv => ?_;obtain ⟨rfl, hw⟩ := hv;refine z4 ?_;exact aK rfl rfl rfl ⟨by first | rfl | simp, (by repeat (first | exact hw | replace hw := hw.tail))⟩
    exact absurd rfl h20
   exact absurd rfl h19
  exact absurd rfl h18
 exact absurd rfl SC
end
section
open Go.ChangeShapes Go.WideShapes Go.RowKit
theorem abH : prog.cellsOf 69 = 4 := by kernel_rfl
theorem adf : prog.bytesOf 69 = 32 := by kernel_rfl
theorem abI : prog.cellsOf 72 = 3 := by kernel_rfl
theorem ade : prog.cellsOf 31 = 1 := by kernel_rfl
theorem adb : prog.cellsOf 75 = 1 := by kernel_rfl
section
variable {H : Type} {enc : TypeId × Value -> H} {W : World} {n : Nat} {cs : List Value} {x : DataW H × List MemPlace}
theorem TT {v : Value} (hv : ∃ a len cap, v = .slice a len cap /\ ∀ x, a = some x -> x.spot = none) (h : DataW.trod enc prog W 0 (fun _ => true) true n 55 v.cells.toList = some x) (Sy : ∀ q ∈ DataW.weights prog 55 x.1, q <= reachBytes) :
  ∃ l, aG [VG W] (dP v l) /\ l.length <= 140737488351232 := by
 obtain ⟨a, len, cap, rfl, ha⟩ := hv;obtain ⟨v, l, iT, hs, hb⟩ := Ob aI iN coU boU h Sy;obtain rfl : Value.slice a len cap = v := by simpa [Value.cells] using iT
 exact ⟨l, hs.pI, hb⟩
theorem TS (h : DataW.trod enc prog W 0 (fun _ => true) true n 72 cs = some x) : ∃ c : Cf, cs = Sg c := by
 obtain ⟨xs, m, rfl, rfl, hl, xx, hf⟩ := DataW.trod_struct underlying72 h;have hl4 : cs.length = 3 := hl.trans abI
 match cs, hl4 with
 | [a, b, c], _ =>
  match xs, (show xs.length = 3 from xx) with
  | [x0, x1, x2], _ =>
   have h0 : DataW.trod enc prog W 0 (fun _ => true) true m 3 (([a, b, c].drop 0).take (prog.cellsOf 3)) = some x0 := hf 0 _ rfl;have h1 : DataW.trod enc prog W 0 (fun _ => true) true m 3 (([a, b, c].drop 1).take (prog.cellsOf 3)) = some x1 := hf 1 _ rfl;have h2 : DataW.trod enc prog W 0 (fun _ => true) true m 3 (([a, b, c].drop 2).take (prog.cellsOf 3)) = some x2 := hf 2 _ rfl;rw [coI] at h0 h1 h2;simp only [NX, JY, LJ, NW] at h0 h1 h2
   obtain ⟨i, hi, -, -⟩ := DataW.trod_int cP h0;obtain ⟨j, hj, -, -⟩ := DataW.trod_int cP h1;obtain ⟨k, hk, -, -⟩ := DataW.trod_int cP h2;simp only [List.cons.injEq, and_true] at hi hj hk;subst hi; subst hj; subst hk;exact ⟨⟨i, j, k⟩, rfl⟩
theorem Rt (h : DataW.trod enc prog W 0 (fun _ => true) true n 69 cs = some x) : ∃ r : Int × Tr, cs = eK r := by
 obtain ⟨xs, m, rfl, rfl, hl, xx, hf⟩ := DataW.trod_struct underlying69 h;have hl4 : cs.length = 4 := hl.trans abH
 match cs, hl4 with
 | [a, b, c, d], _ =>
  match xs, (show xs.length = 2 from xx) with
  | [x0, x1], _ =>
   have h0 : DataW.trod enc prog W 0 (fun _ => true) true m 3 (([a, b, c, d].drop 0).take (prog.cellsOf 3)) = some x0 := hf 0 _ rfl;have h1 : DataW.trod enc prog W 0 (fun _ => true) true m 62 (([a, b, c, d].drop 1).take (prog.cellsOf 62)) = some x1 := hf 1 _ rfl;rw [coI] at h0;rw [coT] at h1
   simp only [NX, JY, LJ, NW] at h0 h1;obtain ⟨i, hi, -, -⟩ := DataW.trod_int cP h0;obtain ⟨t, ht⟩ := Rs h1;simp only [List.cons.injEq, and_true] at hi
   simp only [br, List.cons.injEq, and_true] at ht;obtain ⟨rfl, rfl, rfl⟩ := ht;subst hi;exact ⟨(i, t), rfl⟩
theorem Oa (h : DataW.trod enc prog W 0 (fun _ => true) true n 31 cs = some x) (Sy : ∀ q ∈ DataW.weights prog 31 x.1, q <= reachBytes) : ∃ (v : Value) (l : List (Int × Tr)), cs = [v] /\ g7 4 v (l.map eK) W /\ l.length <= 140737488355328 := by
 obtain ⟨v, rows, rfl, hb, hs, hr⟩ := E6 dw abH dM adf h Sy;obtain ⟨l, rfl, -⟩ := Zl (f := eK) (Q := fun _ => True) rows fun r hm => by
  obtain ⟨m, y, h1, _⟩ := hr r hm;obtain ⟨t, rfl⟩ := Rt h1;exact ⟨t, rfl, trivial⟩
 exact ⟨v, l, rfl, Zg (fun r hr => by obtain ⟨t, -, rfl⟩ := dE.1 hr; rfl) hs, by rw [bX] at hb; simp [reachBytes] at hb; omega⟩
theorem Zs {v : Value} {r : Reach} {b0 : Nat} (hv : Value.okWide prog W r b0 74 v) (h : DataW.trod enc prog W 0 (fun _ => true) true n 74 v.cells.toList = some x) (Sy : ∀ q ∈ DataW.weights prog 74 x.1, q <= reachBytes) :
  ∃ (s : Su) (rv : Value), v = gQ (EI s rv) /\ aG [VG W] (g7 4 rv (s.roots.map eK)) /\ s.roots.length <= 140737488355328 := by
 have hu := underlying74;obtain ⟨ca, rfl, _⟩ := okWide_struct hu hv;obtain ⟨xs, m, rfl, rfl, hl, xx, hf⟩ := DataW.trod_struct hu h;have K2 : ca.toList.length = 6 := hl.trans kR
 match Vx : ca.toList, K2 with
 | [a, b, c, d, e, f], _ =>
  have B3 : (Value.agg ca).cells.toList = [a, b, c, d, e, f] := Vx
  match xs, (show xs.length = 4 from xx) with
  | [x0, x1, x2, x3], _ =>
   have h0 : DataW.trod enc prog W 0 (fun _ => true) true m 3 (((Value.agg ca).cells.toList.drop 0).take (prog.cellsOf 3)) = some x0 := hf 0 _ rfl;have h1 : DataW.trod enc prog W 0 (fun _ => true) true m 72 (((Value.agg ca).cells.toList.drop 1).take (prog.cellsOf 72)) = some x1 := hf 1 _ rfl;have h2 : DataW.trod enc prog W 0 (fun _ => true) true m 3 (((Value.agg ca).cells.toList.drop 4).take (prog.cellsOf 3)) = some x2 := hf 2 _ rfl;have h3 : DataW.trod enc prog W 0 (fun _ => true) true m 31 (((Value.agg ca).cells.toList.drop 5).take (prog.cellsOf 31)) = some x3 := hf 3 _ rfl;rw [B3, coI] at h0 h2;rw [B3, abI] at h1
   rw [B3, ade] at h3;simp only [NX, JY, LJ, NW] at h0 h1 h2 h3
   obtain ⟨i, hi, -, -⟩ := DataW.trod_int cP h0;obtain ⟨cf, RY⟩ := TS h1;obtain ⟨k, hk, -, -⟩ := DataW.trod_int cP h2;simp only [DataW.weights, hu, cH, gE, DataW.weightsEach, pz] at Sy;obtain ⟨v3, l3, hv3, hs3, hb3⟩ := Oa h3 fun q hq => Sy q (by simp [hq])
   simp only [List.cons.injEq, and_true] at hi hk hv3;simp only [Sg, List.cons.injEq, and_true] at RY
   obtain ⟨rfl, rfl, rfl⟩ := RY;subst hi; subst hk; subst hv3;refine ⟨⟨i, cf, k, l3⟩, f, ?_, hs3.pI, hb3⟩
   congr 1
   apply Array.ext';exact Vx
theorem aaC {v : Value} {r : Reach} {b0 : Nat} (hv : Value.okWide prog W r b0 77 v) (h : DataW.trod enc prog W 0 (fun _ => true) true n 77 v.cells.toList = some x) : ∃ (b f : Int) (B : Nat), v = gQ (tuC b f B) /\ B < 2 ^ 32 := by
 have hu := underlying77;obtain ⟨ca, rfl, _⟩ := okWide_struct hu hv;obtain ⟨xs, m, rfl, rfl, hl, xx, hf⟩ := DataW.trod_struct hu h;have K2 : ca.toList.length = 3 := hl.trans kR
 match Vx : ca.toList, K2 with
 | [a, b, c], _ =>
  have B3 : (Value.agg ca).cells.toList = [a, b, c] := Vx
  match xs, (show xs.length = 3 from xx) with
  | [x0, x1, x2], _ =>
   have h0 : DataW.trod enc prog W 0 (fun _ => true) true m 3 (((Value.agg ca).cells.toList.drop 0).take (prog.cellsOf 3)) = some x0 := hf 0 _ rfl;have h1 : DataW.trod enc prog W 0 (fun _ => true) true m 3 (((Value.agg ca).cells.toList.drop 1).take (prog.cellsOf 3)) = some x1 := hf 1 _ rfl;have h2 : DataW.trod enc prog W 0 (fun _ => true) true m 75 (((Value.agg ca).cells.toList.drop 2).take (prog.cellsOf 75)) = some x2 := hf 2 _ rfl;rw [B3, coI] at h0 h1;rw [B3, adb] at h2
   simp only [NX, JY, LJ, NW] at h0 h1 h2;obtain ⟨i, hi, -, -⟩ := DataW.trod_int cP h0;obtain ⟨j, hj, -, -⟩ := DataW.trod_int cP h1;obtain ⟨k, hk, -, hwf⟩ := DataW.trod_int ou h2;have C7 : 0 <= k /\ k < 4294967296 := by
    have h9 : (decide (IntKind.u32.min <= k) && decide (k <= IntKind.u32.max)) = true := hwf;simp only [rR, decide_eq_true_eq] at h9;have e1 : IntKind.u32.min = 0 := by decide
    have e2 : IntKind.u32.max = 4294967295 := by decide
    omega
   simp only [List.cons.injEq, and_true] at hi hj hk;subst hi; subst hj; subst hk;refine ⟨i, j, k.toNat, ?_, oM⟩
   congr 1
   apply Array.ext';rw [Vx, tuC, Int.toNat_of_nonneg C7.1]
end
end
end Go.Proofs.YtjbkgbilbnccnaaGreatDoor.X
