/- The ground and the walks of this claim, part 4: XGift XIt2 XPairs XScan2 XLed XLed2 XFsck XFsck2 XFixed XCut1 XCut2 XCut3 XVa8 XVa9 XVa10 XVa11 XVa12 XCut4 XCut5 XCut6 XPut6 XFixed2 XLaw22 XOpen2 XGro1 XFloat. -/
import Derived.Test.YteifbglognfgdaaGreatDoorY3
namespace Go.Proofs.YteifbglognfgdaaGreatDoor.X
open _root_.Go.Proofs.Tryz _root_.Go.Proofs.YteifbglognfgdaaGreatDoor.Tryz
set_option linter.unusedVariables false
set_option linter.unusedSimpArgs false
set_option maxRecDepth 20000
set_option maxHeartbeats 8000000
def GD (P : Program) (G : Gh) (l n : Nat) (IX : Nat -> List Value -> List az -> List az -> Prop) (J : Nat -> az) (Jx : az) : Prop :=
 ∀ k args zf M w, k < n -> IX k args zf M -> ar G (J k :: (zf ++ M)) w -> Ki P l args w fun v w' => (v = .bool true /\ ar G (J (k + 1) :: M) w') \/ (v = .bool false /\ ar G (Jx :: M) w')
def W7 (P : Program) (gf : FuncId) (lb : List Value) (G : Gh) (L : List az) (w : World) (n : Nat) (IX : Nat -> List Value -> List az -> List az -> Prop) (Lx : List az) : Prop :=
 ∀ (l : Nat) (J : Nat -> az) (Jx : az) (w' : World), GD P G l n IX J Jx -> ar G (J 0 :: L) w' -> Calls P gf (.func (.yield l) #[] #[] :: lb).toArray w' (dv fun _ MM => ar G (J n :: Lx) MM \/ ar G (Jx :: Lx) MM)
section
variable {P : Program} {n : Nat} {K F : mK} {E : List (Nat × mK)} {e e₀ : gj} {w : World} {G : Gh} {L Lx : List az}
theorem Rq {gop : Operand} {ps : Array Tmp} {assign body : Code} {gf : FuncId} {lb : List Value} {m : Nat} {IX : Nat -> List Value -> List az -> List az -> Prop}
  (J : Nat -> az) (Jr : az) (Je : List (Nat × az))
  (hg : ev e gop = some (.func (.func gf) #[] lb.toArray)) (hf : aw P gf) (ft : ps.toList.all (Nat.blt · n) = true)
  (hs : hC e₀ e) (S8 : marks e₀ = []) (hw : ar G (J 0 :: L) w) (hlen : ∀ k args zf M, IX k args zf M -> ps.toList.length = args.length) (qu : W7 P gf lb G L w m IX Lx)
  (To : ∀ (l D : Nat) (o : Obj) (k : Nat) (args : List Value) (zf M : List az) (w : World), k < m -> IX k args zf M -> ar G (J k :: pt l o :: dY D :: (zf ++ M)) w →
   X P n (some l) assign (fun Ht xC => ∃ L1, ar G (pt l o :: L1) xC /\ ∀ (o' : Obj) (Bh : World), ar G (pt l o' :: L1) Bh →
    X P n (some l) body (fun _ w => ar G (J (k + 1) :: pt l o' :: dY D :: M) w) (Pd G Je (pt l o' :: dY D :: M)) (fun _ w => ar G (Jr :: pt l o' :: dY D :: M) w) Ht Bh) [] (fun _ _ => False) (psE ps.toList args e₀) w)
  (Th : ∀ (D : Nat) (w : World), ar G (J m :: dY D :: Lx) w -> K ((1000000000, pQ D) :: e) w)
  (Ye : ∀ (D : Nat) (w : World), ar G (Jr :: dY D :: Lx) w -> F ((1000000000, pQ D) :: e) w)
  (hex : ∀ (id : Nat) (A : az), (id, A) ∈ Je -> ∃ K', uQ E id = some K' /\ ∀ (D : Nat) (w : World), ar G (A :: dY D :: Lx) w -> K' ((1000000000, pQ D) :: e) w) :
  X P n none (.rangeFunc gop ps assign body) K E F e w := fun a ha => by
 refine wpIn_rangeFunc (F := Fw none) ?_;intro fn _;obtain ⟨D, hD⟩ : ∃ D, D = w.heap.size := ⟨_, rfl⟩;obtain ⟨rec, zd⟩ : ∃ rec : LoopState -> Option Code -> Obj, rec = fun st pe => aai fn a.tmps ps assign body D st pe := ⟨_, rfl⟩
 have Dg : ar G (pt (D + 1) (rec .ready none) :: dY D :: J 0 :: L) ((w.alloc (.deferred (some []))).alloc (rec .ready none)) := by
  have h1 := hw.push (.deferred (some []));have h2 := h1.push (rec .ready none);simp only [Array.size_push] at h2;rw [hD];exact h2
 obtain ⟨W1, hW1⟩ : ∃ W1, (w.alloc (.deferred (some []))).alloc (rec .ready none) = W1 := ⟨_, rfl⟩;rw [hW1] at Dg;have hev := ha.ev hg;obtain ⟨ff, Vv, MX, hf3⟩ := hf;refine ⟨D + 1, [{ target := .collected D, args := #[] }], W1, { target := .fn (.func gf) lb.toArray, args := #[.func (.yield (D + 1)) #[] #[]] }, W1, gf,
  (.func (.yield (D + 1)) #[] #[] :: lb).toArray, W1, ?_, ?_, fun _ _ => trivial, ?_, (fun hd => by cases hd), ?_⟩
 ·rw [<-hW1, zd, hD]; exact run_enterLoop_outer _ _ _ _ _
 ·simp only [resolve, hev];simp [Deferred.ofValue, Act.eval]
 ·simp only [invoke, callFunc, Sem.run_bind, Sem.run_pure, Result.andThen_ok, program, Sem.run, Vv, MX, hf3];simp
 have Fl : ∀ (st : LoopState) (pe : Option Code) (A : az) (lT : World), st ≠ .busy -> ar G (pt (D + 1) (rec st pe) :: dY D :: A :: Lx) lT -> ∃ pz, (Instr.endLoop (D + 1)).run P lT = .ok pe pz /\ ar G (A :: dY D :: Lx) pz := fun st pe A lT gD h => by
  have h1 := h.eQ;rw [zd] at h1;have h2 := run_endLoop (P := P) (r := { state := st, pending := pe, fn, tmps := a.tmps, params := ps, assign, body, defers := D }) h1 gD;exact ⟨_, h2, ((mz h _).tail).pick (.there .here)⟩
 have QC : dT n ((1000000000, pQ D) :: e) { a with defers := [{ target := .collected D, args := #[] }] ++ a.defers } := by
  refine ⟨?_, ha.size, ha.small, fun t v hv => ?_⟩
  ·simp [marks, YX, ha.defers]
  rcases lj hv with ⟨h1, _⟩ | ⟨_, h2⟩
  ·exact absurd h1.symm (wh hv)
  exact ha.get t v h2
 have YP : dT n e₀ { tmps := a.tmps, defers := [] } := ⟨by rw [S8]; rfl, ha.size, ha.small, fun t v hv => ha.get t v (hs t v hv)⟩;obtain ⟨Jk, VG⟩ : ∃ Jk : Nat -> az, Jk = fun k h => all [pt (D + 1) (rec .ready none), dY D, J k] h := ⟨_, rfl⟩
 obtain ⟨Jx, YR⟩ : ∃ Jx : az, Jx = fun h => all [pt (D + 1) (rec .done (some .ret)), dY D, Jr] h \/ ∃ id A, (id, A) ∈ Je /\ all [pt (D + 1) (rec .done (some (.exit id))), dY D, A] h := ⟨_, rfl⟩
 have hy : GD P G (D + 1) m IX Jk Jx := fun k args zf M w' hk pD hS => by
  rw [VG] at hS;obtain ⟨hh, h1, h2⟩ := iA hS;have VF : ar G (pt (D + 1) (rec .ready none) :: dY D :: J k :: (zf ++ M)) w' := h2 _ h1;have hl := hlen k args zf M pD;have ma := VF.eQ;rw [zd] at ma
  refine ⟨fn, _, assign, body, run_yield (r := { state := .ready, pending := none, fn, tmps := a.tmps, params := ps, assign, body, defers := D }) ma (by simpa using hl.symm), ?_⟩;refine roundIn_of_wpIn (F := Fw none) trivial ?_;have Tq : ((ps.zip args.toArray).foldl (fun tmps x => tmps.setIfInBounds x.1 x.2) a.tmps) = (ps.toList.zip args).foldl (fun t x => t.setIfInBounds x.1 x.2) a.tmps := by
   rw [<-Array.foldl_toList, Array.toList_zip]
  have hX := To (D + 1) D (rec .ready none) k args zf M w' hk pD (VF.AZ (As := [J k]) (.cons (.there (.there .here)) .nil)) _ (Gz ps.toList args e₀ _ YP ft hl)
  show assign.wpIn (Fw (some (D + 1))) 0 P _ { tmps := ((ps.zip args.toArray).foldl (fun tmps x => tmps.setIfInBounds x.1 x.2) a.tmps), defers := [] } w'
  rw [Tq];refine wpIn_mono hX fun ex A3 xC hq => ?_
  cases ex <;> simp only [rE, uQ] at hq <;> simp only [Exit.then]
  case exit => obtain ⟨K', h, _⟩ := hq; cases h
  case ret => obtain ⟨_, _, h⟩ := hq; exact h
  case normal =>
   obtain ⟨Ht, Tp, L1, hS1, Tj⟩ := hq;have LS := hS1.eQ;rw [zd] at LS;refine ⟨_, run_beginRound (r := { state := .ready, pending := none, fn, tmps := a.tmps, params := ps, assign, body, defers := D }) LS rfl, ?_⟩;refine wpIn_mono (Tj (rec .busy none) _ (by rw [zd]; exact mz hS1 _) A3 Tp) fun ex Y9 Bh hq => ?_
   have NO : ∀ (jump : Option Code) (A : az), ar G (A :: pt (D + 1) (rec .busy none) :: dY D :: M) Bh -> ∃ lT, (Instr.endRound (D + 1) jump).run P Bh = .ok (.bool jump.isNone) lT /\ ar G (pt (D + 1) (rec (if jump.isNone then .ready else .done) jump) :: dY D :: A :: M) lT := fun jump A h => by
    have h := h.AZ (As := [pt (D + 1) _, dY D]) (.cons (.there .here) (.cons (.there .here) .nil));have h1 := h.eQ;rw [zd] at h1;refine ⟨_, run_endRound (r := { state := .busy, pending := none, fn, tmps := a.tmps, params := ps, assign, body, defers := D }) jump h1, ?_⟩;rw [zd]; exact mz h _
   cases ex <;> simp only [rE] at hq <;> simp only [roundPost]
   case normal =>
    obtain ⟨_, _, h⟩ := hq;obtain ⟨lT, h3, h4⟩ := NO none _ h;exact ⟨_, lT, h3, _, rfl, .inl ⟨rfl, by rw [VG]; exact rT (M := [_, _, _]) h4 fun _ h => h⟩⟩
   case ret =>
    obtain ⟨_, _, h⟩ := hq;obtain ⟨lT, h3, h4⟩ := NO (some .ret) _ h;exact ⟨_, lT, h3, _, rfl, .inr ⟨rfl, by rw [YR]; exact rT (M := [_, _, _]) h4 fun _ h => .inl h⟩⟩
   case exit id =>
    obtain ⟨K', nS, _, _, h⟩ := hq;obtain ⟨A, hA, rfl⟩ := IF nS;obtain ⟨lT, h3, h4⟩ := NO (some (.exit id)) _ h;exact ⟨_, lT, h3, _, rfl, .inr ⟨rfl, by rw [YR]; exact rT (M := [_, _, _]) h4 fun _ h => .inr ⟨id, A, hA, h⟩⟩⟩
 have h0 : ar G (Jk 0 :: L) W1 := by rw [VG]; exact rT (M := [_, _, _]) Dg fun _ h => h
 refine Calls.fw (Calls.mono (qu (D + 1) Jk Jx W1 hy h0) fun en lT ⟨v, hv, hR⟩ => ?_) none _;subst hv
 show ∃ jump pz, _
 rcases hR with hR | hR
 ·rw [VG] at hR;obtain ⟨hh, h1, h2⟩ := iA hR;obtain ⟨pz, h3, h4⟩ := Fl _ _ _ lT sM (h2 _ h1);exact ⟨none, pz, h3, _, QC, Th D pz h4⟩
 rw [YR] at hR;obtain ⟨hh, h1 | ⟨id, A, hA, h1⟩, h2⟩ := iA hR
 ·obtain ⟨pz, h3, h4⟩ := Fl _ _ _ lT sM (h2 _ h1);exact ⟨some .ret, pz, h3, wpIn_ret ⟨_, QC, Ye D pz h4⟩⟩
 obtain ⟨pz, h3, h4⟩ := Fl _ _ _ lT sM (h2 _ h1);obtain ⟨K', nS, hK⟩ := hex id A hA;exact ⟨some (.exit id), pz, h3, wpIn_exit ⟨K', nS, _, QC, hK D pz h4⟩⟩
end
def W8 (vq : Nat) (V : Va) (its : List It) (k : Nat) (args : List Value) (zf M : List az) : Prop := ∃ (x : bT) (R : List az), its[k]? = some x.it /\ args = [gQ x.cells] /\ zf = bn x /\ bz x.it.key /\ bz x.it.value /\ dg (aZ vq V) M R
theorem ar.N2 {G : Gh} {R M N : List az} {w : World} (h : ar G (aT (M ++ N) :: R) w) : ar G (M ++ (aT N :: R)) w := by
 have h1 := h.cD;rw [je] at h1;exact h1.mono fun x hx => by
  have key : ∀ (M : List az) (x : sE), all (M ++ (N ++ R)) x -> all (M ++ aT N :: R) x := fun M => by
   induction M with
   | nil => exact fun x hx => (kg N R x).2 hx
   | cons A M ih => exact fun x hx => jk ih hx
  exact key M x hx
theorem BL (l : List Int) : bG l = (l.map fun c => [iQ c]).flatten := by
 induction l with
 | nil => rfl
 | cons x l ih => simp only [bG, cG, C9, UI] at ih ⊢; rw [ih]
theorem aan (v : Value) (l : List Int) {R : List az} : aX (row 3 1 v l.length (bG l) :: R) (gC 1 v (l.map fun c => [iQ c])) := by
 rw [BL];exact (gC.row sM (fun r hr => by obtain ⟨c, _, rfl⟩ := dd.1 hr; rfl)).head R
section
variable {G : Gh} {L R : List az} {w : World}
theorem SE {vq b4 b3 b5 kk : Nat} {V : Va} {t : Tr} {r : yE} {its : List It} (aJ : V.Ok) (hs : t.root ≠ 0 -> mw V.rd kk t.root /\ ∃ r', mD V.rd kk t.root r') (iE : its = if t.root = 0 then [] else lX V.rd r.rg (t.root, kk)) (Fj : t.root ≠ 0 -> qe V.rd kk t.root <= 1000000000) (hl : ∀ n p i, V.rd n = some p -> (gL (nt p i) r.rg).lo.length <= 24) (hr : r.Ok L) :
  W7 prog 137 [pQ b4, pQ b3, pQ b5] G (ag b4 (aC t) 62 :: ag b3 [pQ vq] 28 :: ag b5 r.cells 64 :: aZ vq V :: L) w its.length (W8 vq V its) (ag b4 (aC t) 62 :: ag b3 [pQ vq] 28 :: ag b5 r.cells 64 :: aZ vq V :: L) := by
 intro lo Jo Jx w hy hw;refine al (args := [_, _, _, _]) func137 rfl ntmps137 rfl rfl ?_;refine Ul ?_;refine z4 ?_;refine lD (v := iQ t.root) ai hw ?_;refine z2 ?_;refine aS rfl (fun h1 => ?_) fun h1 => ?_
 ·
  refine rm ?_;exact j7 rfl rfl (.inl (by
 rw [ah h1] at iE;subst iE;exact hw))
 obtain ⟨q9, r', vw⟩ := hs h1;have Fj := Fj h1;rw [ae h1] at iE;refine z4 ?_;refine lD (v := iQ t.root) ai hw ?_;refine hY (cs := [iQ t.root]) rfl bP cT k9 dM rfl rfl rfl hw rfl fun w Rf hw => ?_;refine z3 ?_;refine Uo ?_;refine z1 ?_;have hw := jE (z := 1) (m := 1) hw rfl mL;have hw := hw.b [Jo 0, row 3 1 _ _ _, ag b4 _ _, ag b3 _ _, ag b5 _ _, aZ vq V];have hw : ar G (Jo 0 :: row 3 1 (.slice (some ⟨Rf, 0, none⟩) 1 1) [(t.root, kk)].length (bG ([(t.root, kk)].map (·.1))) :: ag b4 (aC t) 62 :: ag b3 [pQ vq] 28 :: ag b5 r.cells 64 :: aZ vq V :: L) w := hw;refine cO (fun m e w => ∃ (st : List (Int × Nat)) (k : Nat) (tv : Value), m = qY V.rd st /\ e = [(0, .func (.yield lo) #[] #[]), (1, pQ b4), (2, pQ b3), (3, pQ b5), (5, tv)] /\ ((∀ x ∈ st, mw V.rd x.2 x.1 /\ ∃ r', mD V.rd x.2 x.1 r') /\ its.drop k = sK V.rd r.rg st /\ k <= its.length /\ qY V.rd st <= 1000000000) /\ ar G (Jo k :: row 3 1 tv st.length (bG (st.map (·.1))) :: ag b4 (aC t) 62 :: ag b3 [pQ vq] 28 :: ag b5 r.cells 64 :: aZ vq V :: L) w)
  (m := qY V.rd [(t.root, kk)]) sB
  ⟨[(t.root, kk)], 0, _, rfl, rfl, ⟨by intro x hx; simp at hx; subst hx; exact ⟨q9, r', vw⟩, by rw [iE]; simp [sK], fo _, by simpa [qY] using Fj⟩, hw⟩ ?_
 rintro m e w ⟨st, k, tv, rfl, rfl, ⟨gD, ud, Tb, hns⟩, hw⟩;obtain ⟨ta, tc, rfl⟩ := aM (hw.pick (A := row 3 1 tv _ _) pK);refine z7 ?_;refine aS rfl (fun h2 => ?_) fun h2 => ?_
 ·
  obtain ⟨kG, x, rfl⟩ : ∃ kG x, st = kG ++ [x] := ⟨st.dropLast, st.getLast (by intro h; subst h; simp at h2), (PX _).symm⟩;obtain ⟨n, kn⟩ := x;obtain ⟨T3, rn, uO⟩ := gD (n, kn) sM;simp only at T3 uO;obtain ⟨p, py, aaP, aaK, Yx⟩ := Nw (r := r.rg) T3 uO (fun p i hp => hl n p i hp);have aat : ∀ x ∈ kG, mw V.rd x.2 x.1 /\ ∃ r', mD V.rd x.2 x.1 r' := fun x hx => gD x (oT _ hx)
  have hl9 := Lo V.rd kG;have adl : qY V.rd (kG ++ [(n, kn)]) = qY V.rd kG + qe V.rd kn n := by rw [Af]; simp [qY]
  have hnp := Lm V.rd kn n;have YB : its.drop k = lX V.rd r.rg (n, kn) ++ sK V.rd r.rg kG := by rw [ud, H4]; simp [sK]
  have hlen : (kG ++ [(n, kn)]).length = kG.length + 1 := by simp
  rw [hlen] at hw;rw [hlen];have WA : (bG ((kG ++ [(n, kn)]).map (·.1)))[kG.length]? = some (iQ n) := by simp [bG]
  have hw := hw.b [row 3 1 (.slice ta _ tc) _ _];obtain ⟨-, tb, -, CN, XZ, -⟩ := ij hw oM;have SW : ∀ R, aX (row 3 1 (.slice (some ⟨tb, 0, none⟩) (kG.length + 1) tc) (kG.length + 1) (bG ((kG ++ [(n, kn)]).map (·.1))) :: R) (tF (.slice (some ⟨tb, 0, none⟩) (kG.length + 1) tc) (bG ((kG ++ [(n, kn)]).map (·.1)))) := fun R => by
   have h := Bu (v := .slice (some ⟨tb, 0, none⟩) (kG.length + 1) tc) (c := (kG ++ [(n, kn)]).map (·.1)) (R := R);rw [bA, hlen] at h;exact h
  rw [CN] at hw;rw [CN];have hw := hw.b [row 3 1 (.slice (some ⟨tb, 0, none⟩) _ tc) _ _, Jo k];have YV : (((kG.length + 1 : Nat) : Int) - 1).toNat = kG.length := oM;refine z9 ?_;refine mZ (fun e w => ∃ (b7 : Nat) (p' : bm), e = [(0, .func (.yield lo) #[] #[]), (1, pQ b4), (2, pQ b3), (3, pQ b5), (5, .slice (some ⟨tb, 0, none⟩) (kG.length + 1) tc), (6, iQ (((kG.length + 1 : Nat) : Int) - 1)), (7, pQ b7), (8, iQ 0)] /\ (V.rd n = some p'.pg /\ p'.Sm) /\ ar G (row 3 1 (.slice (some ⟨tb, 0, none⟩) (kG.length + 1) tc) (kG.length + 1) (bG ((kG ++ [(n, kn)]).map (·.1))) :: ag b7 p'.cells 75 :: aR p' :: Jo k :: ag b4 (aC t) 62 :: ag b3 [pQ vq] 28 :: ag b5 r.cells 64 :: aZ vq V :: L) w) ?_ ?_
  ·
   refine IZ [0, 1, 2, 3, 4] 5 [6, 7, 8, 9, 10, 11] 9 [5, 6, 7, 8, 10, 11] bK kR ?_;replace hw := hw.drawn (w.drawn + 1);refine lD (v := pQ vq) au hw ?_;refine z2 ?_;refine fk rfl bP cT rfl rfl ⟨oM, oM⟩ ?_;refine bt rfl rfl (aj.one (v := iQ n) ai ((((SW _).of sF).at hw).at (by rw [YV]; exact WA))) ?_;refine aH ?_;refine ⟨?_, ?_⟩
   ·
    refine an rfl cu rfl (fO (n := n) (hw.b [aZ vq V]) aJ) kR fun w TU hv => ?_;obtain ⟨p', er, A, rfl, kP, iu, hw⟩ := hv;obtain ⟨Dh, rfl, rfl, ft⟩ := iu.resolve_left (fun h => by rw [h.1] at py; cases py);refine z3 ?_;refine qy rfl bf hw (fun w b7 hw q' hq => ?_) fun w b7 hw => ?_
    ·
     have hq := a9 (l := [4, 0]) kR hq;simp only [bB, cW, or_false] at hq;rcases hq with rfl | rfl
     ·exact aV rfl rfl rfl (aj.one (v := iQ n) ai ((((SW _).of sF).at hw).at (by rw [YV]; exact WA)))
     exact aV rfl rfl rfl (aj.bx (v := pQ vq) au hw pK rfl)
    refine aL (cs := p'.cells) (l' := p'.cells) rfl tV rfl rfl ad rfl kP hw pK (by simp [bm.cells]) rfl kR fun w hw => ?_;refine z2 ?_;exact ⟨[(0, _), (1, _), (2, _), (3, _), (5, _), (6, _), (7, _), (8, _)], sB, b7, p', rfl, ⟨Dh, ft⟩, hw.b [row 3 1 (.slice (some ⟨tb, 0, none⟩) _ tc) _ _, ag b7 _ _, aR p', Jo k, ag b4 _ _, ag b3 _ _, ag b5 _ _, aZ vq V]⟩
   refine qy rfl bf hw (fun w b7 hw q' hq => ?_) fun w b7 hw => ?_
   ·
    have hq := a9 (l := [4, 0]) kR hq;simp only [bB, cW, or_false] at hq;rcases hq with rfl | rfl
    ·exact aV rfl rfl rfl (aj.one (v := iQ n) ai ((((SW _).of sF).at hw).at (by rw [YV]; exact WA)))
    exact aV rfl rfl rfl (aj.bx (v := pQ vq) au hw pK rfl)
   refine an rfl cu rfl (fO (n := n) (hw.b [aZ vq V]) aJ) kR fun w TU hv => ?_;obtain ⟨p', er, A, rfl, kP, iu, hw⟩ := hv;obtain ⟨Dh, rfl, rfl, ft⟩ := iu.resolve_left (fun h => by rw [h.1] at py; cases py);refine z3 ?_;refine aL (cs := p'.cells) (l' := p'.cells) rfl tV rfl rfl ad rfl kP hw pK (by simp [bm.cells]) rfl kR fun w hw => ?_;refine z2 ?_;exact ⟨[(0, _), (1, _), (2, _), (3, _), (5, _), (6, _), (7, _), (8, _)], sB, b7, p', rfl, ⟨Dh, ft⟩, hw.b [row 3 1 (.slice (some ⟨tb, 0, none⟩) _ tc) _ _, ag b7 _ _, aR p', Jo k, ag b4 _ _, ag b3 _ _, ag b5 _ _, aZ vq V]⟩
  clear hw;rintro e w ⟨b7, p', rfl, ⟨Dh, ft⟩, hw⟩;rw [py] at Dh;cases Dh;have tD := Va.yP aJ n _ py;have Yi := (fP tD).1;have kA : p'.pg.items.length = p'.l.length := by simp [bm.pg]
  obtain ⟨ia, ic, Qm⟩ := ft.form hw pK;refine z4 ?_;refine rX rfl bP Oo rfl sM rfl ⟨oM, oM⟩ ?_;rw [YV];have hw := Jc hw (j := kG.length) oM;have X0 : (bG ((kG ++ [(n, kn)]).map (·.1))).take kG.length = bG (kG.map (·.1)) := by simp [bG]
  rw [X0] at hw;refine z8 ?_;refine aS rfl (fun h3 => ?_) fun h3 => ?_
  ·
   exact absurd rfl h3
  refine z5 ?_;refine lD (v := iQ p'.kind) ai hw ?_;refine z2 ?_;refine aS rfl (fun h4 => ?_) fun h4 => ?_
  ·
   obtain ⟨j, hkj, hir, q8, hnu⟩ := Yx h4;have LM := Cv p'.pg r.rg p'.pg.items.length;refine z3 ?_;refine lA (l := p'.cells) ad hw ?_;refine lA (l := r.cells) bj hw ?_;refine an rfl DK rfl (F4 (p := p') (r := r) hw (aB ft pK) (hr.of sF) oM (fun i => hl n _ i py)) rfl fun w v43 hv => ?_;have hw : ar G (row 3 1 v43 (fA p'.pg r.rg p'.l.length).length (bG (fA p'.pg r.rg p'.l.length)) :: _) _ := hv
   (try unfold sQ at hw); rw [<-kA] at hw
   obtain ⟨wa, wc, rfl⟩ := aM hw;refine vB (m := kG.length) (rs := (fA p'.pg r.rg p'.pg.items.length).map fun c => [iQ c]) rfl bP cT qR k9 rfl rfl hw pK (((aan _ _).of sF).at hw) (by rw [<-BL]; intro u hu; obtain ⟨c, _, rfl⟩ := dd.1 hu; rfl) (by rw [bA]; simp only [maxLen]; omega) (by rw [bA]; omega) rfl (fun w v44 hw => ?_);rw [bA, <-BL] at hw;refine z3 ?_;have hz := (hw.b [row 3 1 (.slice wa _ wc) _ _, ag b7 _ _, aR p', Jo k, row 3 1 v44 _ _, ag b4 _ _, ag b3 _ _, ag b5 _ _, aZ vq V]).tail.tail.tail;have Iw := KF p'.pg r.rg j;have e1 : bG (kG.map (·.1)) ++ bG (fA p'.pg r.rg p'.pg.items.length) = bG ((kG ++ kT p'.pg r.rg j).map (·.1)) := by rw [il, Iw]; simp [bG]
   have e2 : kG.length + (fA p'.pg r.rg p'.pg.items.length).length = (kG ++ kT p'.pg r.rg j).length := by rw [<-Iw]; simp
   rw [e1, e2] at hz;refine ⟨qY V.rd (kG ++ kT p'.pg r.rg j), by rw [Af]; omega, [(0, _), (1, _), (2, _), (3, _), (5, v44)], sB, kG ++ kT p'.pg r.rg j, k, v44, rfl, rfl, ⟨fun x hx => ?_, by rw [YB, hir, H4], Tb, by rw [Af]; omega⟩, hz⟩;rcases eu.1 hx with hx | hx
   ·exact aat x hx
   exact q8 x hx
  have Hg : p'.pg.kind = 1 := aaP.resolve_right h4;rw [aaK Hg] at YB;refine z4 ?_;refine bt rfl rfl (aj.bx (v := .slice ia p'.l.length ic) ao hw pK (by rw [<-Qm]; rfl)) ?_;refine z4 ?_;have hz := ar.cD (M := fi p') (hw.b [aR p', Jo k, ag b7 _ _, row 3 1 (.slice (some ⟨tb, 0, none⟩) _ tc) _ _, ag b4 _ _, ag b3 _ _, ag b5 _ _, aZ vq V]);simp only [fi, j4, jG, Qm] at hz
  have hz := (hz.b [row 5 1 p'.d _ _, Jo k, row 114 4 (.slice ia p'.l.length ic) p'.l.length (p'.l.map bT.cells).flatten, aT (p'.l.flatMap bn)]).tail;have e0 : p'.l.flatMap bn = (p'.l.drop 0).flatMap bn := by rw [List.drop_zero]
  rw [e0] at hz;clear hw;have hw := hz;clear hz;refine cO (fun m e w => ∃ (j k' : Nat), j <= p'.l.length /\ m = p'.l.length - j /\ e = [(0, .func (.yield lo) #[] #[]), (1, pQ b4), (2, pQ b3), (3, pQ b5), (5, .slice (some ⟨tb, 0, none⟩) kG.length tc), (46, .slice ia p'.l.length ic), (47, iQ p'.l.length), (48, iQ j)] /\ (its.drop k' = ((p'.pg.items.drop j).filter fun y => decide (lH r.rg y.key)) ++ sK V.rd r.rg kG /\ k' <= its.length) /\ ar G (Jo k' :: row 114 4 (.slice ia p'.l.length ic) p'.l.length (p'.l.map bT.cells).flatten :: aT ((p'.l.drop j).flatMap bn) :: ag b7 p'.cells 75 :: row 3 1 (.slice (some ⟨tb, 0, none⟩) kG.length tc) kG.length (bG (kG.map (·.1))) :: ag b4 (aC t) 62 :: ag b3 [pQ vq] 28 :: ag b5 r.cells 64 :: aZ vq V :: L) w)
   (m := p'.l.length) sB
   ⟨0, k, fo _, rfl, rfl, ⟨YB, Tb⟩, hw⟩ ?_
  rintro m e w ⟨j, k', hj, rfl, rfl, ⟨Vu, hkj⟩, hw⟩;refine z5 ?_;refine aS rfl (fun h5 => ?_) fun h5 => ?_
  ·
   have Te : j < p'.l.length := oM;obtain ⟨x, hx⟩ : ∃ x, p'.l[j]? = some x := ⟨_, cV Te⟩;have vu : (p'.l.map bT.cells)[j]? = some x.cells := by rw [dB, hx]; rfl
   have CM : p'.pg.items[j]? = some x.it := by show (p'.l.map bT.it)[_]? = _; rw [dB, hx]; rfl
   have NC := ft.it x (ed hx);have ot : ∀ R, x.Ok (row 5 1 x.kv x.it.key.length (dV x.it.key) :: row 5 1 x.vv x.it.value.length (dV x.it.value) :: R) := fun R => ⟨vH rfl .here, vH rfl (.there .here), NC.1, NC.2⟩
   have CR : ∀ R, aX (row 114 4 (.slice ia p'.l.length ic) p'.l.length (p'.l.map bT.cells).flatten :: R) (gC 4 (.slice ia p'.l.length ic) (p'.l.map bT.cells)) := fun R => (gC.row sM (fun r hr => by obtain ⟨x, -, rfl⟩ := dd.1 hr; rfl)).head R
   rw [dG hx, ku] at hw;have hw := ar.N2 (M := bn x) (hw.b [aT (bn x ++ _)]);simp only [bn, j4, jG] at hw
   obtain ⟨xa, xc, xa2, xc2, xO, MO, Vh⟩ := (ot _).form hw;obtain ⟨ib, io, Fo⟩ := (((CR _).of sF).at hw).nn (by rw [bA]; omega);rw [dG CM, Ji] at Vu;cases Fo;refine z5 ?_;refine dD rfl aG aY rfl rfl ⟨oM, oM⟩ ?_;refine bt rfl rfl (aj.many (cs := x.cells) aI rfl (by have h := (((CR _).of sF).at hw).at vu; rw [fQ]; exact h)) ?_;refine aN rfl fV hw rfl fun w qk hw => ?_;refine aL (cs := x.cells) (l' := x.cells) rfl tV rfl rfl aI rfl (by rw [Vh]; intro u hu; simp at hu; rcases hu with rfl | rfl | rfl | rfl <;> rfl) hw pK (by simp [bT.cells]) rfl rfl (fun w hw => ?_);refine z3 ?_;refine lA (l := r.cells) bj hw ?_;refine z1 ?_;refine lD (v := x.kv) ay hw ?_;refine an rfl uC rfl (wE (r := r) (k := x.it.key) hw (hr.of sF) ((ot _).k.of sF)) rfl fun w v55 hv => ?_;obtain ⟨rfl, hw⟩ := hv;refine z1 ?_;refine aE (d := 56) rfl (fun h6 => ?_) fun h6 => ?_
   ·
    rw [ah (decide_eq_true h6), j4] at Vu;have hik : its[k']? = some x.it := by rw [<-List.head?_drop, Vu]; rfl
    have we : k' < its.length := (nU.1 hik).1;have Qx : its.drop (k' + 1) = ((p'.pg.items.drop (j + 1)).filter fun y => decide (lH r.rg y.key)) ++ sK V.rd r.rg kG := by
     rw [dG hik] at Vu;exact (List.cons.inj Vu).2
    refine z1 ?_;refine lA (l := x.cells) aI hw ?_;have hz : ar G (Jo k' :: (bn x ++ (ag qk x.cells 114 :: aT ((p'.l.drop (j + 1)).flatMap bn) :: row 114 4 (.slice (some ⟨ib, io, none⟩) p'.l.length ic) p'.l.length (p'.l.map bT.cells).flatten :: ag b7 p'.cells 75 :: row 3 1 (.slice (some ⟨tb, 0, none⟩) kG.length tc) kG.length (bG (kG.map (·.1))) :: ag b4 (aC t) 62 :: ag b3 [pQ vq] 28 :: ag b5 r.cells 64 :: aZ vq V :: L))) w := hw.b [Jo k', row 5 1 x.kv _ _, row 5 1 x.vv _ _];have pD : W8 vq V its k' [gQ x.cells] (bn x) (ag qk x.cells 114 :: aT ((p'.l.drop (j + 1)).flatMap bn) :: row 114 4 (.slice (some ⟨ib, io, none⟩) p'.l.length ic) p'.l.length (p'.l.map bT.cells).flatten :: ag b7 p'.cells 75 :: row 3 1 (.slice (some ⟨tb, 0, none⟩) kG.length tc) kG.length (bG (kG.map (·.1))) :: ag b4 (aC t) 62 :: ag b3 [pQ vq] 28 :: ag b5 r.cells 64 :: aZ vq V :: L) := ⟨x, ag qk x.cells 114 :: aT ((p'.l.drop (j + 1)).flatMap bn) :: row 114 4 (.slice (some ⟨ib, io, none⟩) p'.l.length ic) p'.l.length (p'.l.map bT.cells).flatten :: ag b7 p'.cells 75 :: row 3 1 (.slice (some ⟨tb, 0, none⟩) kG.length tc) kG.length (bG (kG.map (·.1))) :: ag b4 (aC t) 62 :: ag b3 [pQ vq] 28 :: ag b5 r.cells 64 :: L, hik, rfl, rfl, NC.1, NC.2, pK⟩;refine p9 rfl rfl rfl (hy k' _ _ _ w we pD hz) rfl fun w v59 hv => ?_;obtain ⟨bq, rfl, ue, Be⟩ := oN hv;refine nY rfl rfl ?_;refine z2 ?_;refine fm rfl (fun h7 => ?_) fun h7 => ?_
    ·
     refine z1 ?_;exact j7 rfl rfl (.inr (by
 have hz := Be (by simpa using h7);have hz := hz.b [ag qk _ _, aT _, row 114 4 _ _ _, ag b7 _ _, row 3 1 (.slice (some ⟨tb, 0, none⟩) _ tc) _ _, Jx];exact hz.tail.tail.tail.tail.tail))
    refine z5 ?_;have hz := ue (by simpa using h7);have hz := (hz.b [ag qk _ _, Jo _, row 114 4 _ _ _, aT _]).tail;exact ⟨p'.l.length - (j + 1), oM, [(0, _), (1, _), (2, _), (3, _), (5, _), (46, _), (47, _), (48, iQ (j + 1 : Nat))], sB, j + 1, k' + 1, oM, rfl, rfl, ⟨Qx, we⟩, hz⟩
   refine z6 ?_;refine nb rfl ?_;refine z5 ?_;rw [ae (by simpa using h6)] at Vu;exact ⟨p'.l.length - (j + 1), oM, [(0, _), (1, _), (2, _), (3, _), (5, _), (46, _), (47, _), (48, iQ (j + 1 : Nat))], sB, j + 1, k', oM, rfl, rfl, ⟨Vu, hkj⟩, (hw.b [ag qk _ _, row 5 1 x.kv _ _, row 5 1 x.vv _ _, Jo _, row 114 4 _ _ _, aT _]).tail.tail.tail⟩
  refine z1 ?_;have WN : j = p'.l.length := oM;rw [show p'.pg.items.drop j = [] from u0 oM, List.filter_nil, jG] at Vu;have hz := (hw.b [row 114 4 _ _ _, aT _, ag b7 _ _, Jo k', row 3 1 (.slice (some ⟨tb, 0, none⟩) _ tc) _ _]).tail.tail.tail;exact ⟨qY V.rd kG, oM, [(0, _), (1, _), (2, _), (3, _), (5, _)], sB, kG, k', _, rfl, rfl, ⟨aat, Vu, hkj, oM⟩, hz⟩
 refine z1 ?_;exact j7 rfl rfl (.inl (by
 have hz : st = [] := yS oM;subst hz;have wg : k = its.length := by
  have := congrArg List.length ud;rw [iC] at this;simp [sK] at this
  omega
 subst wg;exact (hw.b [row 3 1 (.slice ta _ tc) _ _]).tail))
end
abbrev paJ (vq b3 b8 : Nat) (V : Va) (its : List It) (k : Nat) : az := ex fun ol : List pH => ex fun ov : Value => dH (ol.map pH.pr = (its.take k).map (PY V.rd)) (aT [ag b8 [ov] 58, row 66 2 ov ol.length (ol.map pH.cells).flatten, aT (ol.flatMap dO), ag b3 [pQ vq] 28])
theorem Sj {G : Gh} {L : List az} {w : World} {vq b3 b8 : Nat} {V : Va} {its : List It} {k : Nat} {ol : List pH} {ov : Value} (h : ol.map pH.pr = (its.take k).map (PY V.rd))
  (hw : ar G (ag b8 [ov] 58 :: row 66 2 ov ol.length (ol.map pH.cells).flatten :: aT (ol.flatMap dO) :: ag b3 [pQ vq] 28 :: L) w) : ar G (paJ vq b3 b8 V its k :: L) w :=
 ar.jq ol (ar.jq ov (ar.iR h (ar.bH (M := [_, _, _, _]) hw)))
theorem OI {G : Gh} {L : List az} {w : World} {vq b3 b8 : Nat} {V : Va} {its : List It} {k : Nat} (hw : ar G (paJ vq b3 b8 V its k :: L) w) : ∃ (ol : List pH) (ov : Value), ol.map pH.pr = (its.take k).map (PY V.rd) /\ ar G (ag b8 [ov] 58 :: row 66 2 ov ol.length (ol.map pH.cells).flatten :: aT (ol.flatMap dO) :: ag b3 [pQ vq] 28 :: L) w := by
 obtain ⟨ol, hw⟩ := hw.iv;obtain ⟨ov, hw⟩ := hw.iv;obtain ⟨h, hw⟩ := hw.dx;exact ⟨ol, ov, h, hw.cD⟩
section
variable {G : Gh} {L R : List az} {w : World}
theorem yr {vq kk : Nat} {V : Va} {t : Tr} {r : yE} {its : List It} (hw : ar G (aZ vq V :: L) w) (aJ : V.Ok) (hs : t.root ≠ 0 -> mw V.rd kk t.root /\ ∃ r', mD V.rd kk t.root r') (iE : its = if t.root = 0 then [] else lX V.rd r.rg (t.root, kk)) (Fj : t.root ≠ 0 -> qe V.rd kk t.root <= 1000000000) (hl : ∀ n p i, V.rd n = some p -> (gL (nt p i) r.rg).lo.length <= 24) (hr : r.Ok L) (Hf : ∀ x ∈ its, (fa V.rd x).1 = 0) (hle : its.length <= 1000000000) :
  Calls prog 40 #[pQ vq, gQ (aC t), gQ r.cells] w (dv fun u w' => ∃ (v : Value) (l : List pH), u = .tuple #[v, iQ 0] /\ l.map pH.pr = its.map (PY V.rd) /\ ar G (row 66 2 v l.length (l.map pH.cells).flatten :: aT (l.flatMap dO) :: aZ vq V :: L) w') := by
 refine al (args := [_, _, _]) func40 rfl ntmps40 rfl rfl ?_;refine z2 ?_;refine bE rfl rfl rfl hw rfl fun w b3 hw => ?_;refine bE rfl rfl rfl hw rfl fun w b4 hw => ?_;refine bE rfl rfl rfl hw rfl fun w b5 hw => ?_;refine aN rfl x9 hw rfl fun w b6 hw => ?_;refine aN rfl rk hw rfl fun w b7 hw => ?_;refine z3 ?_;refine aN rfl x9 hw rfl fun w b8 hw => ?_;refine z4 ?_;refine lD (v := pQ vq) au hw ?_;refine lA (l := aC t) aF hw ?_;refine lA (l := r.cells) bj hw ?_;refine an rfl Gk rfl (Hv (vq := vq) (t := t) (r := r) hw) rfl fun w Uv hv => ?_;obtain ⟨c3, c4, c5, rfl, hw⟩ := hv;refine z2 ?_;have hw := cf (ar.bH (M := ([] : List pH).flatMap dO) hw) 66 2;have hz := hw.b [ag b8 _ _, row 66 2 (nQ) 0 [], aT _, ag b3 _ _, ag c4 _ _, ag c3 _ _, ag c5 _ _, aZ vq V, ag b4 _ _, ag b5 _ _, ag b6 _ _, ag b7 _ _];clear hw;have hw := Sj (V := V) (its := its) (k := 0) (ol := []) (ov := nQ) rfl hz;refine Rq (e₀ := [(3, pQ b3), (6, pQ b6), (7, pQ b7), (8, pQ b8)]) (fun k => paJ vq b3 b8 V its k) (fun _ => False) [] rfl B6 rfl sG rfl hw (fun k args zf M h => by obtain ⟨x, R, _, rfl, _⟩ := h; rfl) (SE (w := w) aJ hs iE Fj hl (hr.of sF)) ?_ ?_ ?_ ?_
 ·
  clear hw;intro l D1 o k args zf M w hk pD hw;obtain ⟨x, R, hx, rfl, rfl, X8, Qm, hpk⟩ := pD;have Kn := ed hx;have NC := Hf _ Kn;have hw : ar G (paJ vq b3 b8 V its k :: pt l o :: dY D1 :: row 5 1 x.kv x.it.key.length (dV x.it.key) :: row 5 1 x.vv x.it.value.length (dV x.it.value) :: M) w := hw;have hw := hw.pick (.there (.there (.there (.there (.there hpk)))));have ot : ∀ R, x.Ok (row 5 1 x.kv x.it.key.length (dV x.it.key) :: row 5 1 x.vv x.it.value.length (dV x.it.value) :: R) := fun R => ⟨vH rfl .here, vH rfl (.there .here), X8, Qm⟩
  obtain ⟨ol, ov, Qq, hw⟩ := OI (hw.b [paJ vq b3 b8 V its k, aZ vq V, pt l _, dY D1]);have Yn := congrArg List.length Qq;rw [bA, bA, fK, Nc (Nat.le_of_lt hk)] at Yn;have hw := hw.b [aZ vq V, ag b8 _ _, row 66 2 _ _ _, aT _, ag b3 _ _, pt l _, dY D1];obtain ⟨oa, oc, rfl⟩ := aM (hw.pick (A := row 66 2 ov _ _) pK);obtain ⟨xa, xc, xa2, xc2, xO, MO, Vh⟩ := (ot _).form (hw.b [row 5 1 x.kv _ _, row 5 1 x.vv _ _]);refine z1 ?_;refine aN rfl fV hw rfl fun w b9 hw => ?_;refine aL (cs := x.cells) (l' := x.cells) rfl tV rfl rfl aI rfl (by rw [Vh]; intro u hu; simp at hu; rcases hu with rfl | rfl | rfl | rfl <;> rfl) hw pK (by simp [bT.cells]) rfl rfl (fun w hw => ?_);refine aH ?_;refine ⟨_, hw.pick (A := pt l o) pK, fun o' w hw => ?_⟩;refine z3 ?_;refine lD (v := pQ vq) au hw ?_;refine lA (l := x.cells) aI hw ?_;refine an rfl yC rfl (AS (x := x) (hw.b [aZ vq V]) aJ ((ot _).of sF)) rfl fun w v20 hv => ?_;obtain ⟨u, rfl, hw⟩ := hv;rw [NC];obtain ⟨ua, uc, rfl⟩ := aM hw;refine KA ?_;refine aS rfl (fun h1 => ?_) fun h1 => ?_
  ·
   exact absurd rfl h1
  refine z2 ?_;refine lD (v := .slice oa ol.length oc) iK hw ?_;refine z1 ?_;refine bt rfl rfl (aj.bx (v := .slice xa x.it.key.length xc) ay hw pK (by rw [<-xO]; rfl)) ?_;refine z1 ?_;refine aQ (v := .agg #[.slice xa x.it.key.length xc, .slice ua (fa V.rd x.it).2.length uc]) rfl rfl (fun w => kR) ?_;refine hY (cs := [.slice xa x.it.key.length xc, .slice ua (fa V.rd x.it).2.length uc]) rfl jl rB Cq dM rfl rfl rfl hw rfl fun w HO hw => ?_;refine gP (m := ol.length) (k := 1) (news := [.slice xa x.it.key.length xc, .slice ua (fa V.rd x.it).2.length uc]) rfl jl rB Mw Cq rfl rfl hw pK (Rd.nP hw pK) rfl (by
    intro z hz; simp only [bB, cW, or_false] at hz;rcases hz with rfl | rfl <;> rfl) mL oM rfl (fun w TT hw => ?_)
  obtain ⟨na, nc, rfl⟩ := aM hw;refine bS (l' := [.slice na (ol.length + 1) nc]) rfl tV rfl rfl iK rfl hw pK rfl rfl rfl fun w hw => ?_;refine aH ?_;rw [xO] at hw;have hz := (hw.b [ag HO _ _, ag b9 _ _, row 5 1 x.vv _ _, aT (ol.flatMap dO), row 5 1 (.slice xa _ xc) _ _, row 5 1 (.slice ua (fa V.rd x.it).2.length uc) _ _, ag b8 _ _, row 66 2 _ _ _]).tail.tail.tail;have hz := ar.lM (ar.lM hz);have e1 : (ol.flatMap dO ++ [row 5 1 (.slice xa x.it.key.length xc) x.it.key.length (dV x.it.key)]) ++ [row 5 1 (.slice ua (fa V.rd x.it).2.length uc) (fa V.rd x.it).2.length (dV (fa V.rd x.it).2)] = (ol ++ [(⟨PY V.rd x.it, .slice xa x.it.key.length xc, .slice ua (fa V.rd x.it).2.length uc⟩ : pH)]).flatMap dO := by simp [dO, PY]
  have e2 : (ol.map pH.cells).flatten ++ [.slice xa x.it.key.length xc, .slice ua (fa V.rd x.it).2.length uc] = ((ol ++ [(⟨PY V.rd x.it, .slice xa x.it.key.length xc, .slice ua (fa V.rd x.it).2.length uc⟩ : pH)]).map pH.cells).flatten := by simp [pH.cells]
  have e3 : ol.length + 1 = (ol ++ [(⟨PY V.rd x.it, .slice xa x.it.key.length xc, .slice ua (fa V.rd x.it).2.length uc⟩ : pH)]).length := by simp
  rw [e1, e2, e3] at hz;have hz := hz.b [aZ vq V, ag b8 _ _, row 66 2 _ _ _, aT _, ag b3 _ _, pt l _, dY D1];have hz := ar.yK hz (.there (.there (.there (.there (.there (.there hpk))))));have hz := Sj (V := V) (its := its) (k := k + 1) (by rw [cP hx, il, il, Qq]; rfl) hz;exact hz
 ·
  clear hw;intro D1 w hw;obtain ⟨ol, ov, Qq, hw⟩ := OI hw;rw [uZ] at Qq;obtain ⟨oa, oc, rfl⟩ := aM (hw.pick (A := row 66 2 ov _ _) pK);refine z2 ?_;refine lD (v := .slice oa ol.length oc) iK hw ?_;refine bS rfl tV rfl rfl iK rfl hw pK rfl rfl rfl fun w hw => ?_;refine bS rfl tV rfl rfl aD rfl hw pK rfl rfl rfl fun w hw => ?_;refine z2 ?_;refine bX rfl ?_;refine iq hw pK fun w hw => ?_;exact y6 rfl ⟨_, rfl, (aj.bx iK hw pK rfl)⟩ ⟨_, rfl, (aj.bx aD hw pK rfl)⟩ ⟨.slice oa ol.length oc, ol, rfl, Qq, (hw.b [ag b8 _ _, ag b3 _ _, ag c4 _ _, ag c3 _ _, ag c5 _ _, ag b4 _ _, ag b5 _ _, ag b6 _ _, ag b7 _ _]).tail.tail.tail.tail.tail.tail.tail.tail.tail⟩
 ·
  clear hw; intro D w hw; exact (iA hw).elim fun _ h => h.1.elim
 intro id A hA; cases hA
end
theorem vY {rd : Int -> Option Pg} : ∀ {k : Nat} {n : Int}, mw rd k n -> ∀ y ∈ lW rd k n, (fa rd y).1 = 0
 | 0, n, h => by
  obtain ⟨p, hp, h1, h2⟩ := h;intro y hy;rw [lW, hp] at hy;exact h2 y hy
 | k + 1, n, h => by
  obtain ⟨p, hp, h1, h2⟩ := h;intro y hy;rw [lW, hp] at hy;obtain ⟨x, hx, hy⟩ := G2.1 hy;exact vY (h2 x hx) y hy
theorem Sq {a : bN} {m : Nat} (h : a.length <= m) : (ju a []).length <= m := by
 unfold ju;split
 ·exact fo _
 exact h
theorem Sl {V : Va} (aJ : V.Ok) {n : Int} {p : Pg} {i : Nat} (hp : V.rd n = some p) : (gL (nt p i) pJ).lo.length <= 24 := by
 refine Sq ?_;unfold nt jU;cases hx : p.items[i]? with
 | none => simp
 | some x => exact zb (Va.yP aJ n p hp) x (ed hx)
def C8 : yE := ⟨pJ, nQ, nQ⟩
theorem OG (L : List az) : C8.Ok L := ⟨Db, Db, n', n'⟩
theorem E9 {rd : Int -> Option Pg} {k : Nat} {n : Int} (h : mD rd k n pJ) : lX rd pJ (n, k) = lW rd k n := by
 unfold lX;exact List.filter_eq_self.2 fun y hy => decide_eq_true (tZ h y hy)
section
variable {G : Gh} {L R : List az} {w : World}
theorem A8.swap {P : Program} {gf : FuncId} {lb : List Value} {A B : az} {Lx : List az} {n : Nat} {IX : Nat -> List Value -> List az -> Prop} (h : A8 P gf lb G (A :: B :: L) w n IX (A :: B :: Lx)) : A8 P gf lb G (B :: A :: L) w n IX (B :: A :: Lx) := fun l J Jx w' hy hw => by
 have hz : ar G (J 0 :: A :: B :: L) w' := hw.AZ (As := [J 0, A]) (.cons .here (.cons (.there .here) .nil));refine Calls.mono (h l J Jx w' hy hz) fun en MM ⟨v, hv, hR⟩ => ⟨v, hv, ?_⟩
 rcases hR with hR | hR
 ·exact .inl (hR.AZ (As := [J n, B]) (.cons .here (.cons (.there .here) .nil)))
 exact .inr (hR.AZ (As := [Jx, B]) (.cons .here (.cons (.there .here) .nil)))
theorem Wo {v : Value} {l : List pH} {L R R' : List az} (hle : l.length <= 1000000000) (p1 : dg (row 66 2 v l.length (l.map pH.cells).flatten) L R) (p2 : dg (aT (l.flatMap dO)) L R') : TM L v l := by
 have key : ∀ x ∈ l, ∃ B C, l.flatMap dO = B ++ (dO x ++ C) := fun x hx => by
  obtain ⟨B, C, rfl⟩ := PS hx;exact ⟨B.flatMap dO, C.flatMap dO, by simp⟩
 refine ⟨((gC.row sM (fun r hr => by obtain ⟨x, -, rfl⟩ := dd.1 hr; rfl)).head _).pick p1, fun x hx => ?_, fun x hx => ?_, hle⟩
 ·obtain ⟨B, C, e⟩ := key x hx;exact ((aX.lp (A := dO x) (vH rfl .here) e).head _).pick p2
 obtain ⟨B, C, e⟩ := key x hx;exact ((aX.lp (A := dO x) (vH rfl (.there .here)) e).head _).pick p2
theorem JY {vq : Nat} {V : Va} {t : Tr} (hw : ar G (aZ vq V :: L) w) (aJ : V.Ok) (ht : jC t \/ ∃ M, w8 V.rd t M) :
  Calls prog 25 #[pQ vq, gQ (aC t), gQ C8.cells] w (dv fun u w' => ∃ (b1 b2 : Nat) (v : Value) (l : List pH), u = .func (.func 104) #[] #[pQ b2] /\ (l.map pH.pr = cL V.rd t /\ l.length <= 1000000000) /\ ar G (ag b2 [.func (.func 105) #[] #[pQ b1]] 133 :: ag b1 [v] 58 :: row 66 2 v l.length (l.map pH.cells).flatten :: aT (l.flatMap dO) :: aZ vq V :: L) w') := by
 obtain ⟨kk, we⟩ : ∃ kk, kk = (t.aK - 1).toNat := ⟨_, rfl⟩;have gD : t.root ≠ 0 -> ∃ M, w8 V.rd t M := fun h => ht.resolve_left fun hn => h hn.1
 have hs : t.root ≠ 0 -> mw V.rd kk t.root /\ ∃ r', mD V.rd kk t.root r' := fun h => by
  obtain ⟨M, hM⟩ := gD h;rw [we]; exact ⟨hM.sound, _, hM.keys⟩
 obtain ⟨its, iE⟩ : ∃ its, its = if t.root = 0 then [] else lX V.rd C8.rg (t.root, kk) := ⟨_, rfl⟩
 have CQ : its = if t.root = 0 then [] else lW V.rd kk t.root := by
  rw [iE]
  by_cases h : t.root = 0
  ·rw [ah h, ah h]
  obtain ⟨M, hM⟩ := gD h;rw [ae h, ae h, we];exact E9 hM.keys
 have Fj : t.root ≠ 0 -> qe V.rd kk t.root <= 1000000000 := fun h => by
  obtain ⟨M, hM⟩ := gD h;have h1 := hM.num;have h2 := Va.tW aJ hM.nd hM.th;rw [we]; omega
 have Hf : ∀ x ∈ its, (fa V.rd x).1 = 0 := fun x hx => by
  rw [CQ] at hx
  by_cases h : t.root = 0
  ·rw [ah h] at hx; simp at hx
  rw [ae h] at hx; exact vY (hs h).1 x hx
 have ud : cL V.rd t = its.map (PY V.rd) := by
  unfold cL;rw [CQ, <-we]
  by_cases h : t.root = 0
  ·rw [ah h, ah h]; rfl
  rw [ae h, ae h, zi]
 have hle : its.length <= 1000000000 := by
  have e := congrArg List.length ud;rw [bA] at e;rw [<-e];unfold cL
  by_cases h : t.root = 0
  ·rw [ah h]; simp
  obtain ⟨M, hM⟩ := gD h;rw [ae h];have h1 := hM.items;have h2 := hM.many;have h3 := Va.tW aJ hM.nd hM.th;omega
 refine al (args := [_, _, _]) func25 rfl ntmps25 rfl rfl ?_;refine z2 ?_;refine bE rfl rfl rfl hw rfl fun w b4 hw => ?_;refine bE rfl rfl rfl hw rfl fun w b5 hw => ?_;refine z5 ?_;refine lA (l := aC t) aF hw ?_;refine lA (l := C8.cells) bj hw ?_;refine an rfl wO rfl (yr (kk := kk) (r := C8) (its := its) (hw.b [aZ vq V]) aJ hs iE Fj (fun n p i hp => Sl aJ hp) (OG _) Hf hle) rfl fun w Xm hv => ?_;obtain ⟨v, l, rfl, hl, hw⟩ := hv;have oW := congrArg List.length hl;rw [bA, bA] at oW;obtain ⟨oa, oc, rfl⟩ := aM hw;refine z9 ?_;refine an rfl nL rfl (nW hw) rfl fun w Xl hv => ?_;obtain ⟨b1, rfl, hw⟩ := hv;refine an rfl HF rfl (JX hw) rfl fun w TV hv => ?_;obtain ⟨b2, rfl, hw⟩ := hv;refine z3 ?_;exact br rfl rfl rfl ⟨b1, b2, .slice oa l.length oc, l, rfl, ⟨by rw [hl, ud], oM⟩, (hw.b [ag b4 _ _, ag b5 _ _]).tail.tail⟩
theorem Ve {b1 b2 : Nat} {v : Value} {l : List pH} (hle : l.length <= 1000000000) (oW : ∀ x ∈ l, bz x.pr.1 /\ bz x.pr.2) :
  A8 prog 104 [pQ b2] G (ag b2 [.func (.func 105) #[] #[pQ b1]] 133 :: ag b1 [v] 58 :: row 66 2 v l.length (l.map pH.cells).flatten :: aT (l.flatMap dO) :: L) w l.length (abe l)
   (ag b2 [.func (.func 105) #[] #[pQ b1]] 133 :: ag b1 [v] 58 :: row 66 2 v l.length (l.map pH.cells).flatten :: aT (l.flatMap dO) :: L) :=
 Vd (gf := 105) (lb := [pQ b1]) mH oW fun X w =>
  A8.swap (JE (L := X :: row 66 2 v l.length (l.map pH.cells).flatten :: aT (l.flatMap dO) :: L) (Wo hle (.there .here) (.there (.there .here))) fun b c => Wo hle (.there (.there (.there .here))) (.there (.there (.there (.there .here)))))
end
def gO (A : List Int) : List Int := A.foldl (fun D k => if k ∈ D then D else D ++ [k]) []
theorem AD (A : List Int) (k : Int) : gO (A ++ [k]) = if k ∈ gO A then gO A else gO A ++ [k] := by
 unfold gO; rw [List.foldl_append]; rfl
theorem AB : ∀ (n : Nat) (A : List Int), A.length = n -> (∀ a, a ∈ gO A ↔ a ∈ A) /\ (gO A).Nodup := by
 intro n
 induction n with
 | zero => intro A h; rw [yS h]; exact ⟨fun a => by simp [gO], by simp [gO]⟩
 | succ n ih =>
  intro A h;obtain ⟨B, k, rfl⟩ : ∃ B k, A = B ++ [k] := ⟨A.dropLast, A.getLast (by intro he; subst he; simp at h), (PX _).symm⟩;obtain ⟨h1, h2⟩ := ih B (by simpa using h);rw [AD]
  by_cases hk : k ∈ gO B
  ·rw [ah hk];refine ⟨fun a => ?_, h2⟩;rw [h1, eu];exact ⟨.inl, fun h => h.elim id fun h => by simp at h; subst h; exact (h1 _).1 hk⟩
  rw [ae hk];refine ⟨fun a => by rw [eu, eu, h1], ?_⟩;rw [Nf];exact ⟨h2, by simp, fun a ha b hb => by simp at hb; subst hb; intro e; subst e; exact hk ha⟩
theorem vS {A : List Int} {a : Int} : a ∈ gO A ↔ a ∈ A := (AB _ A rfl).1 a
theorem yq (A : List Int) : (gO A).Nodup := (AB _ A rfl).2
def OL (A : List Int) : KV := (gO A).map fun n => (n, iQ ((A.count n : Nat) : Int))
theorem Lp (A : List Int) : (OL A).map (·.1) = gO A := by simp [OL, Function.comp_def]
theorem Am (A : List Int) (k : Int) : fD (OL A) k = if k ∈ A then some (iQ ((A.count k : Nat) : Int)) else none := by
 by_cases h : k ∈ A
 ·rw [ah h];exact Ij (by rw [Lp]; exact yq A) (dd.2 ⟨k, vS.2 h, rfl⟩)
 rw [ae h, Ns, Lp, vS]; exact h
theorem oD (A : List Int) (k : Int) : (fD (OL A) k).getD (iQ 0) = iQ ((A.count k : Nat) : Int) := by
 rw [Am]
 by_cases h : k ∈ A
 ·rw [ah h]; rfl
 rw [ae h, UM h]; rfl
theorem LD {f : Int -> Value} {k : Int} {v : Value} : ∀ {D : List Int}, D.Nodup -> oh (D.map fun n => (n, f n)) k v = if k ∈ D then D.map fun n => (n, if n = k then v else f n) else (D.map fun n => (n, f n)) ++ [(k, v)]
 | [], _ => by simp [oh]
 | d :: D, h => by
  rw [xH] at h;have ih := LD (f := f) (k := k) (v := v) h.2;simp only [cG, oh]
  by_cases hk : k = d
  ·subst hk;rw [ah rfl, ah (fp ..), ah rfl]
   congr 1
   refine PU fun n hn => ?_
   rw [ae (by intro e; subst e; exact h.1 hn)]
  rw [ae hk, ih]
  by_cases hD : k ∈ D
  ·rw [ah hD, ah (gF _ hD), ae (fun e => hk e.symm)]
  rw [ae hD, ae (by simp [hk, hD])]; rfl
theorem Sp (A : List Int) (k : Int) : oh (OL A) k (iQ ((A.count k : Nat) + 1 : Int)) = OL (A ++ [k]) := by
 unfold OL;rw [LD (yq A), AD];have hc : ∀ n, n ≠ k -> (A ++ [k]).count n = A.count n := fun n hn => by rw [List.count_append, List.count_singleton]; simp [Ne.symm hn]
 have Hg : (A ++ [k]).count k = A.count k + 1 := by rw [List.count_append, List.count_singleton]; simp
 by_cases hk : k ∈ gO A
 ·rw [ah hk, ah hk];refine PU fun n hn => ?_
  by_cases he : n = k
  ·subst he; rw [ah rfl, Hg]; rfl
  rw [ae he, hc n he]
 rw [ae hk, ae hk, il]
 congr 1
 ·refine PU fun n hn => ?_
  rw [hc n (by intro e; subst e; exact hk hn)]
 rw [cG, Hg]; rfl
structure M0 (rd : Int -> Option Pg) (roots W st A : List Int) : Prop where
 nd : (W ++ st).Nodup
 mem : ∀ a, a ∈ A ↔ a ∈ W \/ a ∈ st
 min : ∀ U : Int -> Prop, (∀ r ∈ roots, U r) -> (∀ n, U n -> ∀ k ∈ fX rd n, U k) -> ∀ a ∈ A, U a
theorem M0.start (rd : Int -> Option Pg) (roots : List Int) : M0 rd roots [] [] [] := ⟨by simp, fun a => by simp, fun U _ _ a h => by simp at h⟩
theorem M0.arrow {rd : Int -> Option Pg} {roots W st A : List Int} {k : Int} (h : M0 rd roots W st A) (hk : ∀ U : Int -> Prop, (∀ r ∈ roots, U r) -> (∀ n, U n -> ∀ k ∈ fX rd n, U k) -> U k) : M0 rd roots W (if A.count k = 0 then st ++ [k] else st) (A ++ [k]) := by
 have Qr : ∀ U : Int -> Prop, (∀ r ∈ roots, U r) -> (∀ n, U n -> ∀ k ∈ fX rd n, U k) -> ∀ a ∈ A ++ [k], U a := fun U h1 h2 a ha => by
  rcases eu.1 ha with ha | ha
  ·exact h.min U h1 h2 a ha
  simp at ha; subst ha; exact hk U h1 h2
 by_cases hm : k ∈ A
 ·rw [ae (by have := UB.2 hm; omega)];refine ⟨h.nd, fun a => ?_, Qr⟩;rw [eu, <-h.mem a];exact ⟨fun h => h.elim id fun h => by simp at h; subst h; exact hm, .inl⟩
 rw [ah (UM hm)];refine ⟨?_, fun a => ?_, Qr⟩
 ·rw [<-je, Nf];refine ⟨h.nd, by simp, fun a ha b hb => ?_⟩;simp at hb; subst hb; intro e; subst e;exact hm ((h.mem a).2 (eu.1 ha))
 rw [eu, eu, h.mem a, or_assoc]
theorem M0.visit {rd : Int -> Option Pg} {roots W st A : List Int} {n : Int} (h : M0 rd roots W (st ++ [n]) A) : M0 rd roots (W ++ [n]) st A := by
 refine ⟨?_, fun a => ?_, h.min⟩
 ·have h1 := h.nd;rw [je];refine (List.Perm.nodup_iff ?_).1 h1;exact List.Perm.append_left W (List.perm_append_comm)
 rw [h.mem a, eu, eu]
 constructor
 ·rintro (h | h | h)
  ·exact .inl (.inl h)
  ·exact .inr h
  exact .inl (.inr h)
 rintro ((h | h) | h)
 ·exact .inl h
 ·exact .inr (.inr h)
 exact .inr (.inl h)
theorem M0.led {rd : Int -> Option Pg} {roots W A : List Int} (h : M0 rd roots W [] A) (ha : A = roots ++ W.flatMap (fX rd)) : QV rd roots W A := by
 have h1 := h.nd;rw [my] at h1;exact ⟨h1, ha, fun a hx => ((h.mem a).1 hx).resolve_right sM, fun n hn => (h.mem n).2 (.inl hn), fun U hr hc n hn => h.min U hr hc n ((h.mem n).2 (.inl hn))⟩
theorem M0.sub {rd : Int -> Option Pg} {roots W st A U : List Int} (h : M0 rd roots W st A) (h1 : ∀ r ∈ roots, r ∈ U) (h2 : ∀ n ∈ U, ∀ k ∈ fX rd n, k ∈ U) : ∀ a ∈ A, a ∈ U := h.min (· ∈ U) h1 h2
theorem Qg {rd : Int -> Option Pg} (h : GJ rd) (n : Int) : (fX rd n).length <= 8 := by
 unfold fX;cases hr : rd n with
 | none => simp
 | some p => exact LH (h n p hr)
theorem E6 {rd : Int -> Option Pg} (h : GJ rd) : ∀ W : List Int, (W.flatMap (fX rd)).length <= 8 * W.length
 | [] => by simp
 | n :: W => by
  have h1 := E6 h W;have h2 := Qg h n;rw [ku, cj, jO]; omega
theorem uU (A : List Int) (k : Int) : (A ++ [k]).count k = A.count k + 1 := by rw [List.count_append, List.count_singleton]; simp
section
variable {G : Gh} {L R : List az} {w : World}
theorem Mk {vq : Nat} {V : Va} {lv : Value} {ts : List Tr} {U : List Int} (hw : ar G (aZ vq V :: L) w) (aJ : V.Ok) (kl : aX L (gC 3 lv (ts.map aC))) (oW : ts.length <= 1000) (Vn : ∀ t ∈ ts, 0 <= t.root) (Ug : ∀ r ∈ dz ts, r ∈ U) (Ts : ∀ n ∈ U, V.rd n ≠ none) (Uf : ∀ n ∈ U, ∀ k ∈ fX V.rd n, k ∈ U) :
  Calls prog 58 #[pQ vq, lv] w (dv fun u w' => ∃ m W A, u = .tuple #[.map (some m), iQ 0] /\ QV V.rd (dz ts) W A /\ ar G (cX m (OL A) :: aZ vq V :: L) w') := by
 obtain ⟨la, lc, LW, -, -⟩ := (kl.at hw.tail).form;rw [bA] at LW;subst LW;refine al (args := [_, _]) func58 rfl ntmps58 rfl rfl ?_;refine z7 ?_;refine Rv rfl hw rfl fun w mm hw => ?_;refine yb ?_;refine dQ rfl kR aU rfl ?_;refine z3 ?_;have hw := cf hw 3 1;have hz := hw.b [cX mm _, row 3 1 (nQ) _ _, aZ vq V];clear hw;have hw : ar G (cX mm (OL []) :: row 3 1 (nQ) ([] : List Int).length (bG []) :: aZ vq V :: L) w := hz;refine cO (fun m e w => ∃ (j : Nat) (st A : List Int) (tv : Value), j <= ts.length /\ m = ts.length - j /\ e = [(0, pQ vq), (6, .map (some mm)), (7, tv), (16, .slice la ts.length lc), (17, iQ ts.length), (18, iQ j)] /\ (M0 V.rd (dz ts) [] st A /\ A = dz (ts.take j)) /\ ar G (cX mm (OL A) :: row 3 1 tv st.length (bG st) :: aZ vq V :: L) w)
  (m := ts.length) sB
  ⟨0, [], [], _, fo _, rfl, rfl, ⟨M0.start _ _, rfl⟩, hw⟩ ?_
 rintro m e w ⟨j, st, A, tv, hj, rfl, rfl, ⟨Hf, hA⟩, hw⟩;have hAl : A.length <= 1000 := by rw [hA]; have := Cz (ts.take j); rw [fK] at this; omega
 have adf : st.length <= 65536 := by
  have := Va.tW aJ (met := st) (by have := Hf.nd; simpa using this) (fun n hn => Ts n (Hf.sub Ug Uf n ((Hf.mem n).2 (.inr hn))));exact this
 refine z5 ?_;refine aS rfl (fun h1 => ?_) fun h1 => ?_
 ·
  have Te : j < ts.length := oM;obtain ⟨t, ht⟩ : ∃ t, ts[j]? = some t := ⟨_, cV Te⟩;have vu : (ts.map aC)[j]? = some (aC t) := by rw [dB, ht]; rfl
  have Di := Vn t (ed ht);have gJ := List.count_le_length (a := t.root) (l := A);have hA1 : dz (ts.take (j + 1)) = A ++ (if 0 < t.root then [t.root] else []) := by rw [cP ht, Jg, hA]
  obtain ⟨lb, lo, hla⟩ := ((kl.of sF).at hw).nn (by rw [bA]; omega);cases hla;refine z5 ?_;refine dD rfl aU bV rfl rfl ⟨oM, oM⟩ ?_;refine bt rfl rfl (aj.many (cs := aC t) aF rfl (by rw [fQ]; exact ((kl.of sF).at hw).at vu)) ?_;refine aN rfl mu hw rfl fun w b9 hw => ?_;refine aL (cs := aC t) (l' := aC t) rfl tV rfl rfl aF rfl (by intro u hu; simp [aC] at hu; rcases hu with rfl | rfl | rfl <;> rfl) hw pK (by simp [aC]) rfl rfl (fun w hw => ?_);refine z5 ?_;refine lD (v := iQ t.root) ai hw ?_;refine z2 ?_;refine aS rfl (fun h2 => ?_) fun h2 => ?_
  ·
   refine z5 ?_;have Uh : dz (ts.take (j + 1)) = A := by rw [hA1, ae oM, my]
   exact ⟨ts.length - (j + 1), oM, [(0, _), (6, _), (7, _), (16, _), (17, _), (18, iQ (j + 1 : Nat))], sB, j + 1, st, A, _, oM, rfl, rfl, ⟨Hf, Uh.symm⟩, (hw.b [ag b9 _ _]).tail⟩
  have Uh : dz (ts.take (j + 1)) = A ++ [t.root] := by rw [hA1, ah oM]
  have NH : t.root ∈ dz ts := by
   unfold dz;exact G1.2 ⟨dd.2 ⟨t, ed ht, rfl⟩, by simp; omega⟩
  have Vs := Hf.arrow (k := t.root) (fun U h1 _ => h1 _ NH);refine z5 ?_;refine lD (v := iQ t.root) ai hw ?_;refine zO (v0 := iQ ((A.count t.root : Nat) : Int)) rfl iW kY Ea rfl rfl hw pK (oD _ _) ?_;refine z1 ?_;refine Ru rfl tV iW kY rfl rfl rfl hw pK rfl fun w hw => ?_;rw [Sp] at hw;refine z5 ?_;refine lD (v := iQ t.root) ai hw ?_;refine zO (v0 := iQ ((A.count t.root : Nat) + 1 : Int)) rfl iW kY Ea rfl rfl hw pK (by rw [oD, uU]; rfl) ?_;refine z2 ?_;refine aS rfl (fun h3 => ?_) fun h3 => ?_
  ·
   have h0 : A.count t.root = 0 := oM;rw [ah h0] at Vs;refine z3 ?_;refine lD (v := iQ t.root) ai hw ?_;refine hY (cs := [iQ t.root]) rfl bP cT k9 dM rfl rfl rfl hw rfl fun w b38 hw => ?_;refine gP (m := st.length) (k := 1) (news := [iQ t.root]) rfl bP cT qR k9 rfl rfl hw pK (Rd.nP hw pK) rfl (by intro u hu; simp at hu; subst hu; rfl) mL oM rfl (fun w RC hw => ?_);refine z6 ?_;have e1 : bG st ++ [iQ t.root] = bG (st ++ [t.root]) := by simp [bG]
   have e2 : st.length + 1 = (st ++ [t.root]).length := by simp
   rw [e1, e2] at hw;exact ⟨ts.length - (j + 1), oM, [(0, _), (6, _), (7, RC), (16, _), (17, _), (18, iQ (j + 1 : Nat))], sB, j + 1, st ++ [t.root], A ++ [t.root], _, oM, rfl, rfl, ⟨Vs, Uh.symm⟩, (hw.b [ag b38 _ _, ag b9 _ _, cX mm _, row 3 1 RC _ _]).tail.tail⟩
  have h0 : ¬ A.count t.root = 0 := oM;rw [ae h0] at Vs;refine z5 ?_;exact ⟨ts.length - (j + 1), oM, [(0, _), (6, _), (7, _), (16, _), (17, _), (18, iQ (j + 1 : Nat))], sB, j + 1, st, A ++ [t.root], _, oM, rfl, rfl, ⟨Vs, Uh.symm⟩, (hw.b [ag b9 _ _, cX mm _, row 3 1 tv _ _]).tail⟩
 have WN : j = ts.length := oM;rw [WN, uZ] at hA;refine z3 ?_;refine cO (fun m e w => ∃ (W st A : List Int) (tv : Value), m = 65536 - W.length /\ e = [(0, pQ vq), (6, .map (some mm)), (7, tv)] /\ (M0 V.rd (dz ts) W st A /\ A = dz ts ++ W.flatMap (fX V.rd)) /\ ar G (cX mm (OL A) :: row 3 1 tv st.length (bG st) :: aZ vq V :: L) w)
  (m := 65536) sB
  ⟨[], st, A, _, rfl, rfl, ⟨Hf, by rw [hA]; simp⟩, hw⟩ ?_
 rintro m e w ⟨W, st, A, tv, rfl, rfl, ⟨Hf, hA⟩, hw⟩;obtain ⟨ta, tc, rfl⟩ := aM (hw.pick (A := row 3 1 tv _ _) pK);refine z7 ?_;refine aS rfl (fun h4 => ?_) fun h4 => ?_
 ·
  obtain ⟨kG, n, rfl⟩ : ∃ kG x, st = kG ++ [x] := ⟨st.dropLast, st.getLast (by intro h; subst h; simp at h4), (PX _).symm⟩;have hnU : n ∈ U := Hf.sub Ug Uf n ((Hf.mem n).2 (.inr sM));obtain ⟨p, py⟩ : ∃ p, V.rd n = some p := Xw.1 (Ts n hnU);have LW := Hf.visit;have hWl : (W ++ [n]).length + kG.length <= 65536 := by
   have := Va.tW aJ (met := (W ++ [n]) ++ kG) LW.nd (fun n hn => Ts n (LW.sub Ug Uf n ((LW.mem n).2 (eu.1 hn))));rw [cj] at this;exact this
  have we : fX V.rd n = aA p := by unfold fX; rw [py]
  have NI := Cz ts;have hWk := E6 (Va.yP aJ) W;have hAl : A.length <= 1000 + 8 * W.length := by rw [hA, cj]; omega
  rw [cj, jt] at hWl;have hlen : (kG ++ [n]).length = kG.length + 1 := by simp
  rw [hlen] at hw;rw [hlen];have WA : (bG (kG ++ [n]))[kG.length]? = some (iQ n) := by simp [bG]
  have hw := hw.b [row 3 1 (.slice ta _ tc) _ _];obtain ⟨-, tb, -, CN, XZ, -⟩ := ij hw oM;have SW : ∀ R, aX (row 3 1 (sQ tb (kG.length + 1) tc) (kG.length + 1) (bG (kG ++ [n])) :: R) (tF (sQ tb (kG.length + 1) tc) (bG (kG ++ [n]))) := fun R => by
   have h := Bu (v := sQ tb (kG.length + 1) tc) (c := kG ++ [n]) (R := R);rw [hlen] at h;exact h
  rw [CN] at hw;rw [CN];have hw := hw.b [row 3 1 (sQ tb _ tc) _ _, cX mm _];have YV : (((kG.length + 1 : Nat) : Int) - 1).toNat = kG.length := oM;refine W9 ?_;refine fk rfl bP cT rfl rfl ⟨oM, oM⟩ ?_;refine bt rfl rfl (aj.one (v := iQ n) ai ((((SW _).of sF).at hw).at (by rw [YV]; exact WA))) ?_;refine an rfl cu rfl (fO (n := n) (hw.b [aZ vq V]) aJ) rfl fun w v53 hv => ?_;obtain ⟨p', er, A', rfl, kP, iu, hw⟩ := hv;obtain ⟨Dh, rfl, rfl, ft⟩ := iu.resolve_left (fun h => by rw [h.1] at py; cases py);refine z3 ?_;refine aN rfl bf hw rfl fun w mT hw => ?_;refine aL (cs := p'.cells) (l' := p'.cells) rfl tV rfl rfl ad rfl kP hw pK (by simp [bm.cells]) rfl kR fun w hw => ?_;rw [py] at Dh
  obtain rfl : p = p'.pg := Option.some.inj Dh;refine z8 ?_;refine aS rfl (fun h5 => ?_) fun h5 => ?_
  ·
   exact absurd rfl h5
  refine z5 ?_;refine rX rfl bP Oo rfl sM rfl ⟨oM, oM⟩ ?_;rw [YV];have hw := hw.b [row 3 1 (sQ tb _ tc) _ _];have hw := Jc hw (j := kG.length) oM;have X0 : (bG (kG ++ [n])).take kG.length = bG kG := by simp [bG]
  rw [X0] at hw;refine z4 ?_;refine lA (l := p'.cells) ad hw ?_;refine an rfl sy rfl (uu (p := p') hw (aB ft pK)) rfl fun w v63 hv => ?_;have hw : ar G (row 3 1 v63 (aA p'.pg).length (bG (aA p'.pg)) :: _) _ := hv;have hk8 := LH (Va.yP aJ n _ py);obtain ⟨ka, kc, rfl⟩ := aM hw;refine z4 ?_;have hz := hw.b [row 3 1 (.slice ka _ kc) _ _, cX mm _, row 3 1 (sQ tb _ tc) _ _, ag mT _ _, aR p', aZ vq V];clear hw;have hw := hz;clear hz;refine cO (fun m e w => ∃ (j : Nat) (Ov A' : List Int) (tv : Value), j <= (aA p'.pg).length /\ m = (aA p'.pg).length - j /\ e = [(0, pQ vq), (6, .map (some mm)), (7, tv), (63, .slice ka (aA p'.pg).length kc), (64, iQ (aA p'.pg).length), (65, iQ j)] /\ (M0 V.rd (dz ts) (W ++ [n]) Ov A' /\ A' = A ++ (aA p'.pg).take j) /\ ar G (row 3 1 (.slice ka (aA p'.pg).length kc) (aA p'.pg).length (bG (aA p'.pg)) :: cX mm (OL A') :: row 3 1 tv Ov.length (bG Ov) :: ag mT p'.cells 75 :: aR p' :: aZ vq V :: L) w)
   (m := (aA p'.pg).length) sB
   ⟨0, kG, A, _, fo _, rfl, rfl, ⟨LW, by simp⟩, hw⟩ ?_
  rintro m e w ⟨j, Ov, A', tv, hj, rfl, rfl, ⟨Vr, hA'⟩, hw⟩;refine z5 ?_;refine aS rfl (fun h6 => ?_) fun h6 => ?_
  ·
   have Te : j < (aA p'.pg).length := oM;obtain ⟨k, hk⟩ : ∃ k, (aA p'.pg)[j]? = some k := ⟨_, cV Te⟩;have NL : (bG (aA p'.pg))[j]? = some (iQ k) := by simp [bG, hk]
   have Uh : A ++ (aA p'.pg).take (j + 1) = A' ++ [k] := by rw [cP hk, hA', je]
   have hA3 : A'.length <= 1000 + 8 * W.length + 8 := by rw [hA', cj, fK]; omega
   have gJ := List.count_le_length (a := k) (l := A');have kO : (W ++ [n]).length + Ov.length <= 65536 := by
    have := Va.tW aJ (met := (W ++ [n]) ++ Ov) Vr.nd (fun n hn => Ts n (Vr.sub Ug Uf n ((Vr.mem n).2 (eu.1 hn))));rw [cj] at this;exact this
   have Vq := Vr.arrow (k := k) (fun U h1 h2 => h2 n (Vr.min U h1 h2 n ((Vr.mem n).2 (.inl sM))) k (by rw [we]; exact ed hk));obtain ⟨kb, ko, hka⟩ := (((Bu (v := .slice ka (aA p'.pg).length kc) (c := aA p'.pg)).of sF).at hw).nn (by rw [cC]; omega);cases hka;refine z5 ?_;refine fk rfl bP cT rfl rfl ⟨oM, oM⟩ ?_;refine bt rfl rfl (aj.one (v := iQ k) ai ((((Bu (v := .slice (some ⟨kb, ko, none⟩) (aA p'.pg).length kc) (c := aA p'.pg)).of sF).at hw).at (by rw [fQ]; exact NL))) ?_;refine z6 ?_;refine zO (v0 := iQ ((A'.count k : Nat) : Int)) rfl iW kY Ea rfl rfl hw pK (oD _ _) ?_;refine z1 ?_;refine Ru rfl tV iW kY rfl rfl rfl hw pK rfl fun w hw => ?_;rw [Sp] at hw;refine z5 ?_;refine zO (v0 := iQ ((A'.count k : Nat) + 1 : Int)) rfl iW kY Ea rfl rfl hw pK (by rw [oD, uU]; rfl) ?_;refine z2 ?_;refine aS rfl (fun h7 => ?_) fun h7 => ?_
   ·
    have h0 : A'.count k = 0 := oM;rw [ah h0] at Vq;refine z3 ?_;refine hY (cs := [iQ k]) rfl bP cT k9 dM rfl rfl rfl hw rfl fun w b79 hw => ?_;refine gP (m := Ov.length) (k := 1) (news := [iQ k]) rfl bP cT qR k9 rfl rfl hw pK (Rd.nP hw pK) rfl (by intro u hu; simp at hu; subst hu; rfl) mL oM rfl (fun w v80 hw => ?_);refine z6 ?_;have e1 : bG Ov ++ [iQ k] = bG (Ov ++ [k]) := by simp [bG]
    have e2 : Ov.length + 1 = (Ov ++ [k]).length := by simp
    rw [e1, e2] at hw;exact ⟨(aA p'.pg).length - (j + 1), oM, [(0, _), (6, _), (7, v80), (63, _), (64, _), (65, iQ (j + 1 : Nat))], sB, j + 1, Ov ++ [k], A' ++ [k], _, oM, rfl, rfl, ⟨Vq, Uh.symm⟩, (hw.b [ag b79 _ _, row 3 1 (.slice (some ⟨kb, ko, none⟩) _ kc) _ _, cX mm _, row 3 1 v80 _ _]).tail⟩
   have h0 : ¬ A'.count k = 0 := oM;rw [ae h0] at Vq;refine z5 ?_;exact ⟨(aA p'.pg).length - (j + 1), oM, [(0, _), (6, _), (7, _), (63, _), (64, _), (65, iQ (j + 1 : Nat))], sB, j + 1, Ov, A' ++ [k], _, oM, rfl, rfl, ⟨Vq, Uh.symm⟩, hw.b [row 3 1 (.slice (some ⟨kb, ko, none⟩) _ kc) _ _]⟩
  refine z1 ?_;have WN : j = (aA p'.pg).length := oM;rw [WN, uZ] at hA';refine ⟨65536 - (W ++ [n]).length, by rw [cj, jt]; omega, [(0, _), (6, _), (7, _)], sB, W ++ [n], Ov, A', _, rfl, rfl, ⟨Vr, ?_⟩, (hw.b [row 3 1 (.slice ka _ kc) _ _, ag mT _ _, aR p']).tail.tail.tail⟩;rw [hA', hA, Ac, je];simp [we]
 refine z8 ?_;exact eK rfl rfl rfl rfl (by
 have hz : st = [] := yS oM;subst hz;exact ⟨mm, W, A, rfl, Hf.led hA, (hw.b [row 3 1 (.slice ta _ tc) _ _]).tail⟩)
end
def TB (N : Nat) (A vis : List Int) : List Int := (List.range N).map fun i : Nat => if (i : Int) + 1 ∈ vis then ((A.count ((i : Int) + 1) : Nat) : Int) else 0
theorem VP (N : Nat) (A vis : List Int) : (TB N A vis).length = N := by simp [TB]
theorem VO (N : Nat) (A : List Int) : TB N A [] = List.replicate N 0 := by
 unfold TB;refine List.ext_getElem? fun i => ?_
 rw [dB, List.getElem?_replicate]
 by_cases h : i < N
 ·rw [R3 h, ah h]; simp
 rw [Jm (by simpa using Nat.le_of_not_lt h), ae h]; rfl
theorem VN {N : Nat} {A vis : List Int} {k : Int} (h : 1 <= k /\ k <= N) : (TB N A vis).set (k - 1).toNat ((A.count k : Nat) : Int) = TB N A (k :: vis) := by
 obtain ⟨j, rfl⟩ : ∃ j : Nat, k = (j : Int) + 1 := ⟨(k - 1).toNat, oM⟩;have e : (((j : Int) + 1) - 1).toNat = j := oM;rw [e];refine List.ext_getElem? fun i => ?_
 rw [List.getElem?_set, VP];unfold TB;rw [dB, dB]
 by_cases h1 : i < N
 ·rw [R3 h1]
  by_cases h2 : j = i
  ·subst h2; rw [ah rfl, ah h1]; simp
  rw [ae h2];simp only [RW, bB]
  congr 1
  have : ((i : Int) + 1 = (j : Int) + 1 \/ (i : Int) + 1 ∈ vis) ↔ (i : Int) + 1 ∈ vis := ⟨fun h => h.elim (fun h => by omega) id, .inr⟩;simp only [this]
 have : (List.range N)[i]? = none := Jm (by simpa using Nat.le_of_not_lt h1);rw [this]
 by_cases h2 : j = i
 ·rw [ah h2, ae oM]; rfl
 rw [ae h2]; rfl
def Pj (N : Nat) (A : List Int) : List Int := (List.range N).map fun i : Nat => ((A.count ((i : Int) + 1) : Nat) : Int)
theorem D6 (N : Nat) (A : List Int) : (Pj N A).length = N := by simp [Pj]
theorem VQ {N : Nat} {A vis : List Int} (h : ∀ k ∈ A, k ∈ vis) : TB N A vis = Pj N A := by
 unfold TB Pj;refine PU fun i hi => ?_
 split
 ·rfl
 rename_i hn;rw [UM fun hm => hn (h _ hm)]; rfl
theorem RU (n : Nat) : rep n (iQ 0) = bG (List.replicate n 0) := by simp [rep, bG, List.map_replicate]
theorem SC {G : Gh} {R : List az} {w : World} {it m : Nat} {kv : KV} {vis : List Int} (hw : ar G (G5 it m kv vis :: R) w) : ar G (cX m kv :: R) w := by
 obtain ⟨es, ck, sq, vs, hf, _, _, _, hw⟩ := BI hw;exact qo hf hw.tail
section
variable {G : Gh} {L R : List az} {w : World}
theorem F8 {vq : Nat} {V : Va} {lv : Value} {ts : List Tr} {U : List Int} (hw : ar G (aZ vq V :: L) w) (aJ : V.Ok) (kl : aX L (gC 3 lv (ts.map aC))) (oW : ts.length <= 1000) (Vn : ∀ t ∈ ts, 0 <= t.root) (Ug : ∀ r ∈ dz ts, r ∈ U) (Ts : ∀ n ∈ U, V.rd n ≠ none) (Uf : ∀ n ∈ U, ∀ k ∈ fX V.rd n, k ∈ U) :
  Calls prog 26 #[pQ vq, lv] w (dv fun u w' => ∃ v W A, u = .tuple #[v, iQ 0] /\ QV V.rd (dz ts) W A /\ ar G (row 3 1 v V.po.c.length (bG (Pj V.po.c.length A)) :: aZ vq V :: L) w') := by
 obtain ⟨la, lc, LW, -, -⟩ := (kl.at hw.tail).form;have hN := aJ.po.len;refine al (args := [_, _]) func26 rfl ntmps26 rfl rfl ?_;refine z9 ?_;refine an rfl J8 rfl (Mk hw aJ kl oW Vn Ug Ts Uf) rfl fun w QY hv => ?_;obtain ⟨mm, W, A, rfl, He, hw⟩ := hv;obtain ⟨m, hf, hw⟩ := lg (hw.b [aZ vq V]);refine KA ?_;refine aS rfl (fun h1 => ?_) fun h1 => ?_
 ·
  exact absurd rfl h1
 refine z6 ?_;refine lD (v := .pointer (some ⟨m.q, 0, none⟩)) bp hw ?_;refine an rfl AY rfl (NY (hw.b [gZ m.q V.po])) rfl fun w MN hv => ?_;obtain ⟨rfl, hw⟩ := hv;have hw := ie hf (hw.b [ag vq _ _, cX m.om _, pI m.S, row 170 2 m.av _ _, aT (m.fu.map kM), gZ m.q V.po]);refine KC rfl bP cT qR HS rfl rfl ⟨oM, oM⟩ oM oM hw rfl fun w Re hw => ?_;simp only [fQ] at hw;simp only [fQ];rw [RU] at hw
 refine z6 ?_;refine ZU rfl iW rfl hw pK rfl fun w it hw => ?_;have hw := jE (z := 1) (m := V.po.c.length) (hw.b [ag Re _ _]) (by rw [cC]; simp) mL;rw [<-VO V.po.c.length A] at hw;refine z2 ?_;refine cO (fun m e w => ∃ (vis : List Int), m = (gO A).length - vis.length /\ e = [(8, sQ Re V.po.c.length V.po.c.length), (27, pQ it)] /\ (vis.Nodup /\ ∀ k ∈ vis, k ∈ A) /\ ar G (row 3 1 (sQ Re V.po.c.length V.po.c.length) V.po.c.length (bG (TB V.po.c.length A vis)) :: G5 it mm (OL A) vis :: aZ vq V :: L) w)
  (m := (gO A).length) sB
  ⟨[], rfl, rfl, ⟨List.nodup_nil, by simp⟩, hw⟩ ?_
 rintro m e w ⟨vis, rfl, rfl, ⟨hvn, hvA⟩, hw⟩;refine z2 ?_;refine abh rfl rfl hw pK rfl (fun w jv hw => ?_) fun w k v hk BO hw => ?_
 ·
  refine z3 ?_;refine nb rfl ?_;refine z8 ?_;exact eK rfl rfl rfl rfl (by
 have Vj : ∀ k ∈ A, k ∈ vis := fun k hk => jv k _ (by rw [Am, ah hk])
 rw [VQ Vj] at hw;exact ⟨_, W, A, rfl, He, (SC (hw.b [G5 it mm _ _])).tail⟩)
 rw [Am] at hk;have hkA : k ∈ A := Classical.byContradiction fun h => by rw [ae h] at hk; cases hk
 rw [ah hkA] at hk;obtain rfl := Option.some.inj hk;have hk : fD (OL A) k = some (iQ ((A.count k : Nat) : Int)) := by rw [Am, ah hkA]
 have Ua : 1 <= k /\ k <= (V.po.c.length : Int) := Va.OF (Ts k (He.min (· ∈ U) Ug Uf k (He.sub k hkA)));have hvl := ET (xH.2 ⟨BO, hvn⟩) (m := gO A) (fun x hx => vS.2 ((bB.1 hx).elim (fun h => h ▸ hkA) (hvA x)));rw [jO] at hvl;refine z3 ?_;refine eg rfl ?_;refine z4 ?_;refine Z' rfl rfl hw pK hk ?_;refine yb ?_;refine fk rfl bP cT rfl rfl ⟨oM, oM⟩ ?_;refine Rn (j := (k - 1).toNat) (xs' := bG (TB V.po.c.length A (k :: vis))) rfl tV rfl rfl ai rfl hw pK oM sM (by rw [<-VN Ua]; simp [bG, tS]) rfl (fun w hw => ?_);refine aH ?_;exact ⟨(gO A).length - (vis.length + 1), oM, [(8, _), (27, _)], sB, k :: vis, rfl, rfl, ⟨xH.2 ⟨BO, hvn⟩, fun x hx => (bB.1 hx).elim (fun h => h ▸ hkA) (hvA x)⟩, hw⟩
end
def TX (Ds : List Nat) : gj := Ds.map fun D => (1000000000, pQ D)
theorem BB (Ds : List Nat) : marks (TX Ds) = Ds.map fun D => (pQ D : Value) := by
 induction Ds with
 | nil => rfl
 | cons D Ds ih => simp only [TX, cG, marks, Nat.beq_refl, cond] at ih ⊢; rw [ih]
theorem sJ (Ds : List Nat) (e : gj) : hC (TX Ds) e := by
 induction Ds with
 | nil => exact hC.nil e
 | cons D Ds ih => exact hC.mark ih
theorem xl {P : Program} {n : Nat} {fn : Func} {Q : Value -> World -> Prop} {e : gj} {G : Gh} : ∀ {Ds : List Nat} {L R : List az} {w : World}, ar G L w -> dg (aT (Ds.map fun D => dY D)) L R -> (∀ w', ar G R w' -> p8 P n fn Q e [] w') -> p8 P n fn Q e (Ds.map fun D => (pQ D : Value)) w
 | [], L, R, w, hw, hp, h => h w (hw.drop hp)
 | D :: Ds, L, R, w, hw, hp, h => by
  have h1 := (hw.pick hp).C1;exact iq h1 .here fun w' h2 => xl h2 .here h
theorem FV {rd : Int -> Option Pg} (hr : GJ rd) : ∀ {k : Nat} {n : Int}, ∀ x ∈ oZ rd k n, x.1.length <= 24
 | 0, n, x, hx => by
  rw [oZ] at hx;cases h : rd n with
  | none => rw [h] at hx; cases hx
  | some p =>
   rw [h] at hx;obtain ⟨y, hy, rfl⟩ := dd.1 hx;exact zb (hr n p h) y hy
 | k + 1, n, x, hx => by
  rw [oZ] at hx;cases h : rd n with
  | none => rw [h] at hx; cases hx
  | some p =>
   rw [h] at hx;obtain ⟨y, hy, h2⟩ := G2.1 hx;exact FV hr x h2
theorem wA {rd : Int -> Option Pg} (hr : GJ rd) {t : Tr} : ∀ x ∈ cL rd t, x.1.length <= 24 /\ x.2.length <= 3840 := fun x hx => by
 unfold cL at hx;split at hx
 ·cases hx
 exact ⟨FV hr x hx, zj x hx⟩
theorem HV {V : Va} (aJ : V.Ok) {t : Tr} (h : sj V.rd t = 0) : (0 <= t.items /\ t.items <= 524288) /\ ((cL V.rd t).length : Int) = t.items /\ 0 <= t.root := by
 rcases uw (Va.yP aJ) h with h1 | ⟨M, h1⟩
 ·have h2 := h1;unfold jC at h2;have e : cL V.rd t = [] := by unfold cL; rw [ah h2.1]
  exact ⟨oM, by rw [e]; simp; omega, oM⟩
 have h2 := Va.tW aJ h1.nd h1.th;have h3 := h1.many;have h4 := h1.form;unfold ni at h4;have h5 := h1.items;have h7 := Va.OF (h1.th _ h1.root);have e : cL V.rd t = oZ V.rd (t.aK - 1).toNat t.root := by unfold cL; rw [ae h4.1]
 exact ⟨oM, by rw [e]; exact h5, oM⟩
theorem H6 {rd : Int -> Option Pg} (hr : GJ rd) : ∀ {ts : List Tr}, (∀ t ∈ ts, sj rd t = 0) -> ∃ U : List Int, (∀ r ∈ dz ts, r ∈ U) /\ (∀ n ∈ U, rd n ≠ none) /\ ∀ n ∈ U, ∀ k ∈ fX rd n, k ∈ U
 | [], _ => ⟨[], by simp [dz], by simp, by simp⟩
 | t :: ts, h => by
  obtain ⟨U, h1, h2, h3⟩ := H6 hr fun t ht => h t (gF _ ht)
  have CO : dz (t :: ts) = (if 0 < t.root then [t.root] else []) ++ dz ts := by
   unfold dz;rw [cG, Ji]
   by_cases h0 : 0 < t.root
   ·rw [ah (decide_eq_true h0), ah h0]; rfl
   rw [ae (by simpa using h0), ae h0]; rfl
  rcases uw hr (h t (fp ..)) with hn | ⟨M, hM⟩
  ·unfold jC at hn;refine ⟨U, ?_, h2, h3⟩;rw [CO, ae oM]; exact h1
  refine ⟨M ++ U, fun r hr => ?_, fun n hn => ?_, fun n hn k hk => ?_⟩
  ·rw [CO] at hr;rcases eu.1 hr with hr | hr
   ·split at hr
    ·simp at hr; subst hr; exact oT _ hM.root
    cases hr
   exact qV _ (h1 r hr)
  ·rcases eu.1 hn with hn | hn
   ·exact hM.th n hn
   exact h2 n hn
  rcases eu.1 hn with hn | hn
  ·exact oT _ (hM.kids n hn k hk)
  exact qV _ (h3 n hn k hk)
theorem JW {N : Nat} {A : List Int} {i : Nat} (h : i < N) : (Pj N A)[i]? = some ((A.count ((i : Int) + 1) : Nat) : Int) := by
 unfold Pj;rw [dB, R3 h]; rfl
theorem xy {c A : List Int} : Pj c.length A = c ↔ yF c A := by
 constructor
 ·intro h i x hx;have hi := (nU.1 hx).1;have h1 := JW (A := A) hi;rw [h, hx] at h1;exact (Option.some.inj h1).symm
 intro h;refine List.ext_getElem? fun i => ?_
 by_cases hi : i < c.length
 ·obtain ⟨x, hx⟩ : ∃ x, c[i]? = some x := ⟨_, cV hi⟩;rw [JW hi, hx, h i x hx]
 rw [Jm (by rw [D6]; omega), Jm oM]
def lO (A : List Int) (k : Nat) : List Int := ((List.range k).map fun i : Nat => (i : Int) + 1).filter fun n => decide (n ∈ A)
theorem KD (A : List Int) (k : Nat) : lO A (k + 1) = lO A k ++ if (k : Int) + 1 ∈ A then [(k : Int) + 1] else [] := by
 unfold lO;rw [List.range_succ, il, G3]
 congr 1
 by_cases h : (k : Int) + 1 ∈ A <;> simp [h]
theorem Uu (A : List Int) (k : Nat) : (lO A k).length <= k := by
 have := Nh (fun n => decide (n ∈ A)) ((List.range k).map fun i : Nat => (i : Int) + 1);rw [bA, R0] at this;exact this
theorem Ut {A : List Int} {k : Nat} {n : Int} : n ∈ lO A k ↔ n ∈ A /\ 1 <= n /\ n <= k := by
 unfold lO;rw [G1, dd]
 constructor
 ·rintro ⟨⟨i, hi, rfl⟩, h⟩;rw [sL] at hi;exact ⟨by simpa using h, oM, oM⟩
 rintro ⟨h1, h2, h3⟩;exact ⟨⟨(n - 1).toNat, by rw [sL]; omega, oM⟩, by simpa using h1⟩
theorem Pv (A : List Int) (k : Nat) : (lO A k).Nodup := by
 unfold lO;refine List.Nodup.sublist List.filter_sublist ?_
 induction k with
 | zero => simp
 | succ k ih =>
  rw [List.range_succ, il, Nf];refine ⟨ih, by simp, fun a ha b hb => ?_⟩;obtain ⟨i, hi, rfl⟩ := dd.1 ha;rw [sL] at hi;simp at hb
  omega
theorem OB {rd : Int -> Option Pg} {ts us : List Tr} {W W' : List Int} (h : W.Perm W') : C7 rd ts us W = C7 rd ts us W' := by
 have e1 : ∀ k, jP rd k W = jP rd k W' := fun k => by unfold jP; rw [(h.filter _).length_eq]
 have e2 : pE rd W = pE rd W' := by unfold pE; rw [(h.filter _).length_eq]
 unfold C7;rw [h.length_eq, e1, e1, e2]
theorem QV.perm {rd : Int -> Option Pg} {roots W A W' A' : List Int} (h : QV rd roots W A) (h' : QV rd roots W' A') : W.Perm W' /\ A.Perm A' := by
 have key : ∀ {W A W' A' : List Int}, QV rd roots W A -> QV rd roots W' A' -> ∀ n ∈ W, n ∈ W' := fun {W A W' A'} h h' => by
  refine h.min (· ∈ W') (fun r hr => h'.sub r (by rw [h'.arr]; exact oT _ hr)) fun n hn k hk => h'.sub k ?_
  rw [h'.arr];exact qV _ (G2.2 ⟨n, hn, hk⟩)
 have hp : W.Perm W' := (List.perm_ext_iff_of_nodup h.nd h'.nd).2 fun a => ⟨key h h' a, key h' h a⟩
 refine ⟨hp, ?_⟩;rw [h.arr, h'.arr];exact List.Perm.append_left _ (hp.flatMap_right _)
theorem sD.one {rd : Int -> Option Pg} {c : List Int} {ts : List Tr} {rp rp' : Rp} {er er' : Int} (h : sD rd c ts rp er) (h' : sD rd c ts rp' er') : rp = rp' /\ er = er' := by
 rcases h with ⟨⟨t, ht, hc⟩, rfl, rfl⟩ | ⟨hc, W, A, hl, h⟩ <;> rcases h' with ⟨⟨t', ht', YJ⟩, rfl, rfl⟩ | ⟨YJ, W', A', NK, h'⟩
 ·exact ⟨rfl, rfl⟩
 ·exact absurd (YJ t ht) hc
 ·exact absurd (hc t' ht') YJ
 obtain ⟨p1, p2⟩ := hl.perm NK;have Tm : yF c A ↔ yF c A' := by
  unfold yF
  constructor
  ·intro h i x hx; rw [<-h i x hx, p2.count_eq]
  intro h i x hx; rw [<-h i x hx, p2.count_eq]
 rcases h with ⟨hf, rfl, rfl⟩ | ⟨hf, rfl, rfl⟩ <;> rcases h' with ⟨Q6, rfl, rfl⟩ | ⟨Q6, rfl, rfl⟩
 ·exact ⟨OB p1, rfl⟩
 ·exact absurd (Tm.1 hf) Q6
 ·exact absurd (Tm.2 Q6) hf
 exact ⟨rfl, rfl⟩
section
variable {G : Gh} {L R : List az} {w : World}
theorem kH {vq : Nat} {V : Va} {lv : Value} {l : List (Int × Tr)} (hw : ar G (aZ vq V :: L) w) (aJ : V.Ok) (kl : aX L (gC 4 lv (l.map dR))) (oW : l.length <= 1000) (Q0 : aX L EvK) :
  Calls prog 9 #[pQ vq, lv] w (dv fun r w' => ∃ rp er, r = .tuple #[gQ (mY.cells ⟨rp, nQ⟩), iQ er] /\ (sD V.rd V.po.c (l.map (·.2)) rp er /\ rp.bad = []) /\ ar G (aZ vq V :: L) w') := by
 obtain ⟨ra, rc, hrv, -, -⟩ := (kl.at hw.tail).form;rw [bA] at hrv;subst hrv;have hN := aJ.po.len;refine al (args := [_, _]) func9 rfl ntmps9 rfl rfl ?_;refine z2 ?_;refine aN rfl jW hw rfl fun w b4 hw => ?_;refine z5 ?_;refine dQ rfl kR fz rfl ?_;refine aQ (v := .agg #[iQ l.length, iQ 0, iQ 0, iQ 0, iQ 0, iQ 0, iQ 0, nQ]) rfl rfl (fun w => kR) ?_;refine aN rfl jW hw rfl fun w b6 hw => ?_;refine aL (cs := [iQ l.length, iQ 0, iQ 0, iQ 0, iQ 0, iQ 0, iQ 0, nQ]) (l' := [iQ l.length, iQ 0, iQ 0, iQ 0, iQ 0, iQ 0, iQ 0, nQ]) rfl tV rfl rfl ct rfl (by intro u hu; simp at hu; rcases hu with rfl | rfl | rfl | rfl <;> rfl) hw pK sM rfl rfl (fun w hw => ?_);refine z9 ?_;refine dQ rfl kR fz rfl ?_;refine z3 ?_;have hw := cf (ar.bH (M := ([] : List Nat).map fun D => dY D) hw) 62 3;have hw := hw.b [row 62 3 (nQ) _ _, ag b6 _ _, ag b4 _ _, aT _, aZ vq V];refine cO (fun m e w => ∃ (i : Nat) (Ds : List Nat) (tv : Value), i <= l.length /\ m = l.length - i /\ e = (0, pQ vq) :: (4, pQ b4) :: (6, pQ b6) :: (7, tv) :: (21, .slice ra l.length rc) :: (22, iQ l.length) :: (23, iQ i) :: TX Ds /\ ((∀ t ∈ ((l.map (·.2)).take i), sj V.rd t = 0) /\ (0 <= gX (((l.map (·.2)).take i).map Tr.items) /\ gX (((l.map (·.2)).take i).map Tr.items) <= 524288 * i) /\ (0 <= gX (((l.map (·.2)).take i).map fun t => ew (cL V.rd t)) /\ gX (((l.map (·.2)).take i).map fun t => ew (cL V.rd t)) <= 2013265920 * i)) /\ ar G (row 62 3 tv i (((l.map (·.2)).take i).map aC).flatten :: ag b6 [iQ l.length, iQ 0, iQ 0, iQ 0, iQ 0, iQ (gX (((l.map (·.2)).take i).map Tr.items)), iQ (gX (((l.map (·.2)).take i).map fun t => ew (cL V.rd t))), nQ] 40 :: ag b4 (mY.cells ⟨GZ, nQ⟩) 40 :: aT (Ds.map fun D => dY D) :: aZ vq V :: L) w)
  (m := l.length) sB
  ⟨0, [], _, fo _, rfl, rfl, ⟨(fun t ht => by simp at ht), ⟨by simp [gX], by simp [gX]⟩, ⟨by simp [gX], by simp [gX]⟩⟩, hw⟩ ?_
 rintro m e w ⟨i, Ds, tv, hi, rfl, rfl, ⟨tD, qu, O9⟩, hw⟩;obtain ⟨ta, tc, rfl⟩ := aM hw;refine z5 ?_;refine aS rfl (fun h1 => ?_) fun h1 => ?_
 ·
  have uP : i < l.length := oM;obtain ⟨x, hx⟩ : ∃ x, l[i]? = some x := ⟨_, cV uP⟩;have vu : (l.map dR)[i]? = some (dR x) := by rw [dB, hx]; rfl
  have hxt : (l.map (·.2))[i]? = some x.2 := by rw [dB, hx]; rfl
  obtain ⟨rb, ro, rfl⟩ := ((kl.of sF).at hw).nn (by rw [bA]; omega);refine z5 ?_;refine dD rfl fz jR rfl rfl ⟨oM, oM⟩ ?_;refine bt rfl rfl (aj.many (cs := dR x) yj rfl (by rw [fQ]; exact ((kl.of sF).at hw).at vu)) ?_;refine aN rfl M1 hw rfl fun w b9 hw => ?_;refine aL (cs := dR x) (l' := dR x) rfl tV rfl rfl yj rfl (by intro u hu; simp [dR] at hu; rcases hu with rfl | rfl | rfl | rfl <;> rfl) hw pK (by simp [dR]) rfl rfl (fun w hw => ?_);refine z6 ?_;refine bt rfl rfl (aj.Kb (cs := aC x.2) aF hw pK rfl rfl) ?_;refine an rfl Gl rfl (Hw (t := x.2) aJ (hw.b [aZ vq V]) (Q0.of sF)) rfl fun w v30 hv => ?_;obtain ⟨rfl, hw⟩ := hv;refine z2 ?_;refine aS rfl (fun h2 => ?_) fun h2 => ?_
  ·
   refine z2 ?_;refine aQ (v := .agg #[iQ 0, iQ 0, iQ 0, iQ 0, iQ 0, iQ 0, iQ 0, nQ]) rfl rfl (fun w => kR) ?_;refine aL (cs := mY.cells ⟨GZ, nQ⟩) (l' := mY.cells ⟨GZ, nQ⟩) rfl tV rfl rfl ct rfl (by intro u hu; simp [mY.cells] at hu; rcases hu with rfl | rfl | rfl | rfl | rfl | rfl | rfl | rfl <;> rfl) hw pK (by simp [mY.cells]) rfl rfl (fun w hw => ?_);refine z3 ?_;refine bX (BB Ds) ?_;refine xl hw pK fun w hw => ?_;refine y6 rfl ⟨_, rfl, (aj.cw (l := mY.cells ⟨GZ, nQ⟩) ct hw pK rfl)⟩ rfl ⟨GZ, 18, rfl, ⟨.inl ⟨⟨x.2, ed hxt, h2⟩, rfl, rfl⟩, rfl⟩, ?_⟩;exact (hw.b [ag b4 _ _, ag b6 _ _, row 62 3 _ _ _, ag b9 _ _]).tail.tail.tail.tail
  have hc0 : sj V.rd x.2 = 0 := cJ.1 h2;have gD := uw (Va.yP aJ) hc0;obtain ⟨T4, hsf, hsr⟩ := HV aJ hc0;have ud := FW (rd := V.rd) (t := x.2);refine z5 ?_;refine bt rfl rfl (aj.Kb (cs := aC x.2) aF hw pK rfl rfl) ?_;refine hY (cs := aC x.2) rfl aU bV eL dM rfl rfl rfl hw rfl fun w Y4 hw => ?_;refine gP (m := i) (k := 1) (news := aC x.2) rfl aU bV gW eL rfl rfl hw pK (Rd.nP hw pK) rfl (by intro u hu; simp [aC] at hu; rcases hu with rfl | rfl | rfl <;> rfl) mL oM rfl (fun w Zh hw => ?_);have hhn : (l.map (·.2)).take (i + 1) = ((l.map (·.2)).take i) ++ [x.2] := cP hxt;have X5 : gX (((l.map (·.2)).take (i + 1)).map Tr.items) = gX (((l.map (·.2)).take i).map Tr.items) + x.2.items := by rw [hhn, il, cG, j3, qm]
  have X4 : gX (((l.map (·.2)).take (i + 1)).map fun t => ew (cL V.rd t)) = gX (((l.map (·.2)).take i).map fun t => ew (cL V.rd t)) + ew (cL V.rd x.2) := by rw [hhn, il, cG, j3, qm]
  have acq : ∀ t ∈ (l.map (·.2)).take (i + 1), sj V.rd t = 0 := fun t ht => by
   rw [hhn] at ht;rcases eu.1 ht with ht | ht
   ·exact tD t ht
   simp at ht; subst ht; exact hc0
  have Qx : (((l.map (·.2)).take i).map aC).flatten ++ aC x.2 = (((l.map (·.2)).take (i + 1)).map aC).flatten := by rw [hhn]; simp
  rw [Qx] at hw;obtain ⟨I0, hI0⟩ : ∃ y, y = gX (((l.map (·.2)).take i).map Tr.items) := ⟨_, rfl⟩;obtain ⟨Y0, hY0⟩ : ∃ y, y = gX (((l.map (·.2)).take i).map fun t => ew (cL V.rd t)) := ⟨_, rfl⟩;rw [<-hI0, <-hY0] at hw
  rw [<-hI0] at qu X5;rw [<-hY0] at O9 X4
  refine z5 ?_;refine lD (v := iQ I0) ai hw ?_;refine z1 ?_;refine cy rfl oH rfl ?_;refine lD (v := iQ x.2.items) ai hw ?_;refine z2 ?_;refine bS (l' := [iQ l.length, iQ 0, iQ 0, iQ 0, iQ 0, iQ ((I0 + x.2.items)), iQ Y0, nQ]) rfl tV rfl rfl ai rfl hw pK rfl rfl rfl fun w hw => ?_;refine z5 ?_;refine bt rfl rfl (aj.Kb (cs := aC x.2) aF hw pK rfl rfl) ?_;refine aQ (v := gQ C8.cells) rfl rfl (fun w => kR) ?_;refine an rfl HG rfl (JY (t := x.2) (hw.b [aZ vq V]) aJ gD) rfl fun w v49 hv => ?_;obtain ⟨s1, s2, sv, ol, rfl, ⟨LU, Yn⟩, hw⟩ := hv;have aaH : (ol.length : Int) = x.2.items := by rw [<-hsf, <-LU, bA]
  have LN : ∀ k, ew ((cL V.rd x.2).take k) <= 3840 * k /\ 0 <= ew ((cL V.rd x.2).take k) := fun k => by
   have h1 := EW (l := (cL V.rd x.2).take k) (fun y hy => (wA (Va.yP aJ) y (r9 hy)).2);have h2 := List.length_take_le k (cL V.rd x.2);omega
  have GO : ∀ y ∈ ol, bz y.pr.1 /\ bz y.pr.2 := fun y hy => by
   have h1 := wA (Va.yP aJ) (t := x.2) y.pr (by rw [<-LU]; exact dd.2 ⟨y, hy, rfl⟩);unfold bz;omega
  refine z2 ?_;have e0 : Y0 = Y0 + ew ((cL V.rd x.2).take 0) := by rw [K6, show ew [] = 0 from rfl, K0]
  have hz := hw.b [ag b6 _ _, ag s2 _ _, ag s1 _ _, row 66 2 _ _ _, aT (ol.flatMap dO), ag Y4 _ _, ag b9 _ _, row 62 3 _ _ _, ag b4 _ _, aT (Ds.map fun D => dY D), aZ vq V];clear hw;rw [e0] at hz;have hw := hz;clear hz;refine ru (e₀ := [(6, pQ b6)]) (fun k => ag b6 [iQ l.length, iQ 0, iQ 0, iQ 0, iQ 0, iQ ((I0 + x.2.items)), iQ ((Y0 + ew ((cL V.rd x.2).take k))), nQ] 40) (fun _ => False) [] rfl DL rfl sG rfl hw (fun k args M h => by obtain ⟨x, a, c, a', c', _, rfl⟩ := h; rfl) (Ve Yn GO) ?_ ?_ ?_ ?_
  ·
   clear hw;intro l D1 o k args M w hk pD hw;obtain ⟨y, a, c, a', c', hy, rfl⟩ := pD;have hfy : (cL V.rd x.2)[k]? = some y.pr := by rw [<-LU, dB, hy]; rfl
   have Tb := (nU.1 hy).1;have SR := LN k;have Iy := LN (k + 1);have X1 : ew ((cL V.rd x.2).take (k + 1)) = ew ((cL V.rd x.2).take k) + y.pr.2.length := by rw [cP hfy, yZ]
   refine z3 ?_;refine ⟨_, hw.pick (A := pt l o) pK, fun o' w hw => ?_⟩;refine z3 ?_;refine lD (v := iQ (Y0 + ew ((cL V.rd x.2).take k))) ai hw ?_;refine z4 ?_;refine bS (l' := [iQ _, iQ 0, iQ 0, iQ 0, iQ 0, iQ ((I0 + x.2.items)), iQ ((Y0 + ew ((cL V.rd x.2).take k) + y.pr.2.length)), nQ]) rfl tV rfl rfl ai rfl hw pK rfl rfl rfl fun w hw => ?_;refine aH ?_;rw [X1, <-Int.add_assoc];exact hw
  ·
   clear hw;intro D1 w hw;have SW : (cL V.rd x.2).take ol.length = cL V.rd x.2 := vN (by rw [<-LU, bA]; omega);rw [SW, <-X5, <-X4] at hw;have hz := (hw.b [ag s2 _ _, ag s1 _ _, row 66 2 _ _ _, aT (ol.flatMap dO), ag Y4 _ _, ag b9 _ _, dY D1, aT (Ds.map fun D => dY D)]).tail.tail.tail.tail.tail.tail;have hz := ar.Mz (M := [dY D1]) (ar.bH (M := [dY D1]) hz);have hz := hz.b [row 62 3 _ _ _, ag b6 _ _, ag b4 _ _, aT _, aZ vq V];clear hw;have hw := hz;clear hz;refine z4 ?_;exact ⟨l.length - (i + 1), oM, (0, _) :: (4, _) :: (6, _) :: (7, Zh) :: (21, _) :: (22, _) :: (23, iQ (i + 1 : Nat)) :: TX (D1 :: Ds), (kK.mk (by repeat (first | exact hC.nil _ | exact sJ _ _ | refine hC.mark ?_ | refine hC.cons rfl ?_)) (by exact rfl)), i + 1, D1 :: Ds, Zh, oM, rfl, rfl, ⟨acq, by rw [X5]; omega, by rw [X4]; omega⟩, hw⟩
  ·
   clear hw; intro D w hw; exact (iA hw).elim fun _ h => h.1.elim
  intro id A hA; cases hA
 have hie : i = l.length := oM;subst hie;obtain ⟨ts, hts⟩ : ∃ ts, ts = l.map (·.2) := ⟨_, rfl⟩;have SW : (l.map (·.2)).take l.length = ts := by rw [hts]; exact vN sM
 have GN : ts.length = l.length := by rw [hts]; simp
 rw [SW] at hw tD qu O9;rw [<-hts];obtain ⟨I0, hI0⟩ : ∃ x, x = gX (ts.map Tr.items) := ⟨_, rfl⟩;obtain ⟨Y0, hY0⟩ : ∃ x, x = gX (ts.map fun t => ew (cL V.rd t)) := ⟨_, rfl⟩;rw [<-hI0, <-hY0] at hw
 obtain ⟨U, Ug, Ts, Uf⟩ := H6 (Va.yP aJ) tD;have Ar : ∀ R, aX (row 62 3 (.slice ta l.length tc) l.length (ts.map aC).flatten :: R) (gC 3 (.slice ta l.length tc) (ts.map aC)) := fun R => (gC.row (by rw [bA, GN]) (fun r hr => by obtain ⟨x, _, rfl⟩ := dd.1 hr; rfl)).head R
 refine z5 ?_;refine an rfl DO rfl (F8 (ts := ts) (hw.b [aZ vq V]) aJ ((Ar _).of sF) oM (fun t ht => (HV aJ (tD t ht)).2.2) Ug Ts Uf) rfl fun w v62 hv => ?_;obtain ⟨cv, W, A, rfl, He, hw⟩ := hv;obtain ⟨ca, cc, rfl⟩ := aM hw;have O5 : ∀ R, aX (row 3 1 (.slice ca V.po.c.length cc) V.po.c.length (bG (Pj V.po.c.length A)) :: R) (tF (.slice ca V.po.c.length cc) (bG (Pj V.po.c.length A))) := fun R => by
  have h := Bu (v := .slice ca V.po.c.length cc) (c := Pj V.po.c.length A) (R := R);rw [D6] at h;exact h
 refine KA ?_;refine aE (d := 67) rfl (fun h3 => ?_) fun h3 => ?_
 ·
  exact absurd rfl h3
 obtain ⟨m, hf, hw⟩ := lg (hw.b [aZ vq V]);refine z2 ?_;refine C3 rfl rfl ?_;refine z1 ?_;refine lD (v := .pointer (some ⟨m.q, 0, none⟩)) bp hw ?_;refine an rfl wT rfl (HA (hw.b [gZ m.q V.po]) aJ.po) rfl fun w v73 hv => ?_;have hw : ar G (row 3 1 v73 V.po.c.length (bG V.po.c) :: _) _ := hv;obtain ⟨da, dc, rfl⟩ := aM hw;have hz := ie hf (hw.b [ag vq _ _, cX m.om _, pI m.S, row 170 2 m.av _ _, aT (m.fu.map kM), gZ m.q V.po]);clear hw;have hw := hz.b [row 3 1 (.slice da _ dc) _ _, row 3 1 (.slice ca _ cc) _ _];clear hz;refine an rfl su rfl (te (l := Pj V.po.c.length A) (l' := V.po.c) hw ((O5 _).of sF) (Bu.of sF) (by rw [D6]; omega)) rfl (fun w v74 hv => ?_);obtain ⟨rfl, hw⟩ := hv;refine jX rfl rfl ?_;refine z2 ?_;refine aS rfl (fun h4 => ?_) fun h4 => ?_
 ·
  refine z2 ?_;refine aQ (v := .agg #[iQ 0, iQ 0, iQ 0, iQ 0, iQ 0, iQ 0, iQ 0, nQ]) rfl rfl (fun w => kR) ?_;refine aL (cs := mY.cells ⟨GZ, nQ⟩) (l' := mY.cells ⟨GZ, nQ⟩) rfl tV rfl rfl ct rfl (by intro u hu; simp [mY.cells] at hu; rcases hu with rfl | rfl | rfl | rfl | rfl | rfl | rfl | rfl <;> rfl) hw pK (by simp [mY.cells]) rfl rfl (fun w hw => ?_);refine z3 ?_;refine bX (BB Ds) ?_;refine xl hw pK fun w hw => ?_;refine y6 rfl ⟨_, rfl, (aj.cw (l := mY.cells ⟨GZ, nQ⟩) ct hw pK rfl)⟩ rfl ⟨GZ, 18, rfl, ⟨.inr ⟨tD, W, A, He, .inr ⟨fun Tm => h4 (xy.2 Tm), rfl, rfl⟩⟩, rfl⟩, ?_⟩;exact (hw.b [ag b4 _ _, row 3 1 (.slice da _ dc) _ _, row 3 1 (.slice ca _ cc) _ _, row 62 3 _ _ _, ag b6 _ _]).tail.tail.tail.tail.tail
 have Tm : yF V.po.c A := xy.1 (cJ.1 h4);have hAW : ∀ n, n ∈ A ↔ n ∈ W := fun n => ⟨He.sub n, He.inn n⟩
 have hWU : ∀ n ∈ W, n ∈ U := He.min (· ∈ U) Ug Uf;refine z9 ?_;have hz := hw.b [row 3 1 (.slice ca _ cc) _ _, ag b6 _ _, ag b4 _ _, aT (Ds.map fun D => dY D), row 3 1 (.slice da _ dc) _ _, row 62 3 _ _ _, aZ vq V];clear hw;have hw := hz;clear hz;refine cO (fun m e w => ∃ (k : Nat), k <= V.po.c.length /\ m = V.po.c.length - k /\ e = (0, pQ vq) :: (4, pQ b4) :: (6, pQ b6) :: (78, .slice ca V.po.c.length cc) :: (79, iQ V.po.c.length) :: (80, iQ k) :: TX Ds /\ ar G (row 3 1 (.slice ca V.po.c.length cc) V.po.c.length (bG (Pj V.po.c.length A)) :: ag b6 [iQ l.length, iQ (((lO A k).length : Int)), iQ (jP V.rd 1 (lO A k)), iQ (jP V.rd 2 (lO A k)), iQ (pE V.rd (lO A k)), iQ I0, iQ Y0, nQ] 40 :: ag b4 (mY.cells ⟨GZ, nQ⟩) 40 :: aT (Ds.map fun D => dY D) :: row 3 1 (.slice da V.po.c.length dc) V.po.c.length (bG V.po.c) :: row 62 3 (.slice ta l.length tc) l.length (ts.map aC).flatten :: aZ vq V :: L) w)
  (m := V.po.c.length) (kK.mk (by repeat (first | exact hC.nil _ | exact sJ _ _ | refine hC.mark ?_ | refine hC.cons rfl ?_)) (by exact rfl))
  ⟨0, fo _, rfl, rfl, hw⟩ ?_
 rintro m e w ⟨k, hk, rfl, rfl, hw⟩;have LM := Uu A k;have Hg := Pl V.rd 1 (lO A k);have iX := Pl V.rd 2 (lO A k);have Fk := VU V.rd (lO A k);refine z5 ?_;refine aS rfl (fun h5 => ?_) fun h5 => ?_
 ·
  have Tb : k < V.po.c.length := oM;have hcg : (bG (Pj V.po.c.length A))[k]? = some (iQ ((A.count ((k : Int) + 1) : Nat) : Int)) := by rw [bG, dB, JW Tb]; rfl
  obtain ⟨cb, co, hca⟩ := (((O5 _).of sF).at hw).nn (by rw [cC, D6]; omega);cases hca;refine z6 ?_;refine fk rfl bP cT rfl rfl ⟨oM, oM⟩ ?_;refine bt rfl rfl (aj.one (v := iQ ((A.count ((k : Int) + 1) : Nat) : Int)) ai ((((O5 _).of sF).at hw).at (by rw [fQ]; exact hcg))) ?_;refine z9 ?_;refine aS rfl (fun h6 => ?_) fun h6 => ?_
  ·
   have Yp : (k : Int) + 1 ∉ A := fun hm => by have := UB.2 hm; omega
   have Iw : lO A (k + 1) = lO A k := by rw [KD, ae Yp, my]
   refine z5 ?_
   (try unfold sQ at hw); rw [<-Iw] at hw
   exact ⟨V.po.c.length - (k + 1), oM, (0, _) :: (4, _) :: (6, _) :: (78, _) :: (79, _) :: (80, iQ (k + 1 : Nat)) :: TX Ds, (kK.mk (by repeat (first | exact hC.nil _ | exact sJ _ _ | refine hC.mark ?_ | refine hC.cons rfl ?_)) (by exact rfl)), k + 1, oM, rfl, rfl, hw⟩
  have Ua : (k : Int) + 1 ∈ A := Classical.byContradiction fun hm => by have := UM hm; omega
  obtain ⟨p, py⟩ : ∃ p, V.rd ((k : Int) + 1) = some p := Xw.1 (Ts _ (hWU _ ((hAW _).1 Ua)));have Iw : lO A (k + 1) = lO A k ++ [(k : Int) + 1] := by rw [KD, ah Ua]
  have O4 : lh V.rd ((k : Int) + 1) = p.kind := by unfold lh; rw [py]
  refine z6 ?_;refine an rfl cu rfl (fO (n := (k : Int) + 1) (hw.b [aZ vq V]) aJ) rfl fun w v91 hv => ?_;obtain ⟨p', er, A', rfl, kP, iu, hw⟩ := hv;obtain ⟨Dh, rfl, rfl, ft⟩ := iu.resolve_left (fun h => by rw [h.1] at py; cases py);refine z3 ?_;refine aN rfl bf hw rfl fun w Rf hw => ?_;refine aL (cs := p'.cells) (l' := p'.cells) rfl tV rfl rfl ad rfl kP hw pK (by simp [bm.cells]) rfl kR fun w hw => ?_;rw [py] at Dh;obtain rfl : p = p'.pg := Option.some.inj Dh;have O4 : lh V.rd ((k : Int) + 1) = p'.kind := O4;refine z8 ?_;refine aS rfl (fun h7 => ?_) fun h7 => ?_
  ·
   exact absurd rfl h7
  refine z4 ?_;refine lD (v := iQ ((lO A k).length : Int)) ai hw ?_;refine z2 ?_;refine bS (l' := [iQ l.length, iQ (((lO A k).length : Int) + 1), iQ (jP V.rd 1 (lO A k)), iQ (jP V.rd 2 (lO A k)), iQ (pE V.rd (lO A k)), iQ I0, iQ Y0, nQ]) rfl tV rfl rfl ai rfl hw pK rfl rfl rfl fun w hw => ?_;refine z4 ?_;refine lD (v := iQ p'.kind) ai hw ?_;refine z7 ?_;refine aS rfl (fun h8 => ?_) fun h8 => ?_
  ·
   refine z2 ?_;refine lD (v := iQ (jP V.rd 1 (lO A k))) ai hw ?_;refine z2 ?_;refine bS (l' := [iQ l.length, iQ (((lO A k).length : Int) + 1), iQ (jP V.rd 1 (lO A k) + 1), iQ (jP V.rd 2 (lO A k)), iQ (pE V.rd (lO A k)), iQ I0, iQ Y0, nQ]) rfl tV rfl rfl ai rfl hw pK rfl rfl rfl fun w hw => ?_;refine z5 ?_;have e0 : (((lO A (k + 1)).length : Nat) : Int) = ((lO A k).length : Int) + 1 := by rw [Iw, cj]; rfl
   have e1 : jP V.rd 1 (lO A (k + 1)) = jP V.rd 1 (lO A k) + 1 := by rw [Iw, qv, O4, ah h8]
   have e2 : jP V.rd 2 (lO A (k + 1)) = jP V.rd 2 (lO A k) := by rw [Iw, qv, O4, ae oM, K0]
   have e3 : pE V.rd (lO A (k + 1)) = pE V.rd (lO A k) := by rw [Iw, B2, O4, ae oM, K0]
   rw [<-e0, <-e1, <-e2, <-e3] at hw;exact ⟨V.po.c.length - (k + 1), oM, (0, _) :: (4, _) :: (6, _) :: (78, _) :: (79, _) :: (80, iQ (k + 1 : Nat)) :: TX Ds, (kK.mk (by repeat (first | exact hC.nil _ | exact sJ _ _ | refine hC.mark ?_ | refine hC.cons rfl ?_)) (by exact rfl)), k + 1, oM, rfl, rfl, (hw.b [ag Rf _ _, aR p', row 3 1 (.slice (some ⟨cb, co, none⟩) _ cc) _ _, ag b6 _ _, ag b4 _ _, aT _, row 3 1 (.slice da _ dc) _ _, row 62 3 _ _ _, aZ vq V]).tail.tail⟩
  refine z5 ?_;refine aS rfl (fun h9 => ?_) fun h9 => ?_
  ·
   refine z2 ?_;refine lD (v := iQ (jP V.rd 2 (lO A k))) ai hw ?_;refine z2 ?_;refine bS (l' := [iQ l.length, iQ (((lO A k).length : Int) + 1), iQ (jP V.rd 1 (lO A k)), iQ (jP V.rd 2 (lO A k) + 1), iQ (pE V.rd (lO A k)), iQ I0, iQ Y0, nQ]) rfl tV rfl rfl ai rfl hw pK rfl rfl rfl fun w hw => ?_;refine z5 ?_;have e0 : (((lO A (k + 1)).length : Nat) : Int) = ((lO A k).length : Int) + 1 := by rw [Iw, cj]; rfl
   have e1 : jP V.rd 1 (lO A (k + 1)) = jP V.rd 1 (lO A k) := by rw [Iw, qv, O4, ae h8, K0]
   have e2 : jP V.rd 2 (lO A (k + 1)) = jP V.rd 2 (lO A k) + 1 := by rw [Iw, qv, O4, ah h9]
   have e3 : pE V.rd (lO A (k + 1)) = pE V.rd (lO A k) := by rw [Iw, B2, O4, ae oM, K0]
   rw [<-e0, <-e1, <-e2, <-e3] at hw;exact ⟨V.po.c.length - (k + 1), oM, (0, _) :: (4, _) :: (6, _) :: (78, _) :: (79, _) :: (80, iQ (k + 1 : Nat)) :: TX Ds, (kK.mk (by repeat (first | exact hC.nil _ | exact sJ _ _ | refine hC.mark ?_ | refine hC.cons rfl ?_)) (by exact rfl)), k + 1, oM, rfl, rfl, (hw.b [ag Rf _ _, aR p', row 3 1 (.slice (some ⟨cb, co, none⟩) _ cc) _ _, ag b6 _ _, ag b4 _ _, aT _, row 3 1 (.slice da _ dc) _ _, row 62 3 _ _ _, aZ vq V]).tail.tail⟩
  refine z2 ?_;refine lD (v := iQ (pE V.rd (lO A k))) ai hw ?_;refine z2 ?_;refine bS (l' := [iQ l.length, iQ (((lO A k).length : Int) + 1), iQ (jP V.rd 1 (lO A k)), iQ (jP V.rd 2 (lO A k)), iQ (pE V.rd (lO A k) + 1), iQ I0, iQ Y0, nQ]) rfl tV rfl rfl ai rfl hw pK rfl rfl rfl fun w hw => ?_;refine z5 ?_;have e0 : (((lO A (k + 1)).length : Nat) : Int) = ((lO A k).length : Int) + 1 := by rw [Iw, cj]; rfl
  have e1 : jP V.rd 1 (lO A (k + 1)) = jP V.rd 1 (lO A k) := by rw [Iw, qv, O4, ae h8, K0]
  have e2 : jP V.rd 2 (lO A (k + 1)) = jP V.rd 2 (lO A k) := by rw [Iw, qv, O4, ae h9, K0]
  have e3 : pE V.rd (lO A (k + 1)) = pE V.rd (lO A k) + 1 := by rw [Iw, B2, O4, ah ⟨h8, h9⟩]
  rw [<-e0, <-e1, <-e2, <-e3] at hw;exact ⟨V.po.c.length - (k + 1), oM, (0, _) :: (4, _) :: (6, _) :: (78, _) :: (79, _) :: (80, iQ (k + 1 : Nat)) :: TX Ds, (kK.mk (by repeat (first | exact hC.nil _ | exact sJ _ _ | refine hC.mark ?_ | refine hC.cons rfl ?_)) (by exact rfl)), k + 1, oM, rfl, rfl, (hw.b [ag Rf _ _, aR p', row 3 1 (.slice (some ⟨cb, co, none⟩) _ cc) _ _, ag b6 _ _, ag b4 _ _, aT _, row 3 1 (.slice da _ dc) _ _, row 62 3 _ _ _, aZ vq V]).tail.tail⟩
 have wg : k = V.po.c.length := oM;subst wg;have hpm : W.Perm (lO A V.po.c.length) := (List.perm_ext_iff_of_nodup He.nd (Pv A _)).2 fun n => by
  rw [Ut, hAW];exact ⟨fun h => ⟨h, Va.OF (Ts n (hWU n h))⟩, fun h => h.1⟩
 have hrp : [iQ l.length, iQ (((lO A V.po.c.length).length : Int)), iQ (jP V.rd 1 (lO A V.po.c.length)), iQ (jP V.rd 2 (lO A V.po.c.length)), iQ (pE V.rd (lO A V.po.c.length)), iQ I0, iQ Y0, nQ] = mY.cells ⟨C7 V.rd ts ts W, nQ⟩ := by
  rw [OB hpm];simp only [C7, mY.cells, <-hI0, <-hY0, GN]
 rw [hrp] at hw;refine z3 ?_;refine lA (l := mY.cells ⟨C7 V.rd ts ts W, nQ⟩) ct hw ?_;refine aL (cs := mY.cells ⟨C7 V.rd ts ts W, nQ⟩) (l' := mY.cells ⟨C7 V.rd ts ts W, nQ⟩) rfl tV rfl rfl ct rfl (by intro u hu; simp [mY.cells] at hu; rcases hu with rfl | rfl | rfl | rfl | rfl | rfl | rfl | rfl <;> rfl) hw pK (by simp [mY.cells]) rfl rfl (fun w hw => ?_);refine z3 ?_;refine bX (BB Ds) ?_;refine xl hw pK fun w hw => ?_;refine y6 rfl ⟨_, rfl, (aj.cw (l := mY.cells ⟨C7 V.rd ts ts W, nQ⟩) ct hw pK rfl)⟩ rfl ⟨C7 V.rd ts ts W, 0, rfl, ⟨.inr ⟨tD, W, A, He, .inl ⟨Tm, rfl, rfl⟩⟩, rfl⟩, ?_⟩;exact (hw.b [row 3 1 (.slice ca _ cc) _ _, ag b6 _ _, ag b4 _ _, row 3 1 (.slice da _ dc) _ _, row 62 3 _ _ _]).tail.tail.tail.tail.tail
end
theorem UR {f : Nat} {V : Va} {T : Tr} {key value : bN} {res : Tr × Bool × Int × Va} (aJ : V.Ok) (h : Le f V T key value = some res) : res.2.2.2.Ok := by
 unfold Le at h;split at h
 ·cases h; exact aJ
 split at h
 ·cases h; exact aJ
 split at h
 ·cases h; exact aJ
 split at h
 ·cases h; exact aJ
 split at h
 ·cases h
 rename_i r hr;split at h
 ·cases h; exact aJ
 cases h; exact (UQ (Er aJ key value).ok hr).ok
def Tx : Va := tX 9 (List.replicate 6 0) []
def Hs : bN := [97, 98, 99, 100, 109, 110, 111, 112, 113]
def Mc : Nat -> Option (Tr × Va)
 | 0 => some (kp, Tx)
 | j + 1 => match Mc j with
  | none => none
  | some (T, V) => match Le 4 V T [Hs.getD j 0] [120, 120] with
    | some (T', _, _, V') => some (T', V')
    | none => none
def WY (j : Nat) : Bool := match Mc j with
 | none => false
 | some (T, V) => ((nV V.rd T [Hs.getD j 0]).2.1 == false) && (match Le 4 V T [Hs.getD j 0] [120, 120] with
   | some (_, b, e, _) => (b == false) && decide (e = 0)
   | none => false) && decide (V.sz <= 100 /\ (0 <= T.aK /\ T.aK <= 100) /\ (0 <= T.items /\ T.items <= 100))
theorem QK : (List.range 9).all WY = true := by decide +kernel
theorem Tw {j : Nat} (hj : j < 9) {T : Tr} {V : Va} (h : Mc j = some (T, V)) : ∃ T' V', (nV V.rd T [Hs.getD j 0]).2.1 = false /\ Le 4 V T [Hs.getD j 0] [120, 120] = some (T', false, 0, V') /\ Mc (j + 1) = some (T', V') /\ V.sz <= 100 /\ (0 <= T.aK /\ T.aK <= 100) /\ (0 <= T.items /\ T.items <= 100) := by
 have h1 := (yR.1 QK) j (sL.2 hj);unfold WY at h1;rw [h] at h1
 simp only [qD, beq_iff_eq, decide_eq_true_eq] at h1;obtain ⟨⟨h2, h3⟩, h4, h5, h6⟩ := h1;cases hp : Le 4 V T [Hs.getD j 0] [120, 120] with
 | none => rw [hp] at h3; cases h3
 | some r =>
  obtain ⟨T', b, e, V'⟩ := r;rw [hp] at h3;simp only [qD, beq_iff_eq, decide_eq_true_eq] at h3
  obtain ⟨rfl, rfl⟩ := h3;refine ⟨T', V', h2, rfl, ?_, h4, h5, h6⟩;rw [Mc, h];simp only [hp]
def abb : Bool := match Mc 9 with
 | none => false
 | some (T, V) => decide (sj V.rd T = 0 /\ dz [T] = [3] /\ fX V.rd 3 = [1, 2] /\ fX V.rd 1 = [] /\ fX V.rd 2 = [] /\ V.po.c = [1, 1, 1, 0, 0, 0] /\ C7 V.rd [T] [T] [3, 1, 2] = ⟨1, 3, 2, 1, 0, 9, 18, []⟩)
theorem VI : abb = true := by decide +kernel
theorem QJ {T : Tr} {V : Va} (h : Mc 9 = some (T, V)) : sD V.rd V.po.c [T] ⟨1, 3, 2, 1, 0, 9, 18, []⟩ 0 /\ sD V.rd V.po.c [] GZ 18 := by
 have h1 := VI;unfold abb at h1;rw [h] at h1
 simp only [decide_eq_true_eq] at h1;obtain ⟨h2, h3, h4, h5, h6, h7, h8⟩ := h1;have key : ∀ {rd : Int -> Option Pg} {roots : List Int}, roots = [] -> QV rd roots [] [] := fun {rd roots} hr => ⟨by simp, by simp [hr], by simp, by simp, by simp⟩
 refine ⟨.inr ⟨by simpa using h2, [3, 1, 2], [3, 1, 2], ⟨by decide, by simp [h3, h4, h5, h6], fun _ h => h, fun _ h => h, fun U hr hc n hn => ?_⟩, .inl ⟨?_, h8.symm, rfl⟩⟩, .inr ⟨by simp, [], [], key rfl, .inr ⟨?_, rfl, rfl⟩⟩⟩
 ·have u3 : U 3 := hr 3 (by rw [h3]; simp);simp at hn;rcases hn with rfl | rfl | rfl
  ·exact u3
  ·exact hc 3 u3 1 (by rw [h4]; simp)
  exact hc 3 u3 2 (by rw [h4]; simp)
 ·rw [h7];exact xy.1 dM
 rw [h7];exact fun hc => absurd (xy.2 hc) dM
section
variable {P : Program} {n : Nat} {ops : Array Oper} {dr : Bool} {done r : List Nat} {K : gj -> World -> Prop} {e : gj} {w : World} {i d s : Nat} {t : TypeId} {p : String} {af : Array Edge} {g : Option (Nat × Bool)}
variable {G : Gh} {L R : List az}
theorem Ry {c : TypeId} {z m : Nat} {zc : Array Value} {xs : Array (Nat × Operand)} {vs cs : List Value} (ho : ops[i]? = some ⟨some d, .buildSlice s m xs, t, p, af, g⟩) (hs : P.underlying s = some (.slice c)) (xo : (P.info? c).map (·.size) = some z) (A9 : cd P c = some zc) (hz : 0 < m * z /\ m * z <= 16777216)
  (hx : Pe e (xs.toList.map (·.2)) = some vs) (hf : Instr.fill (fun i => some (i * z, z)) ((Array.range (m * z)).map (zc[· % zc.size]!)) ((xs.toList.map (·.1)).zip vs) = some cs.toArray) (hw : ar G L w)
  (j6 : ∀ w' b, ar G (ag b cs c :: L) w' -> ∀ q ∈ iI P ops dr done i, vt P n ops q ((d, .slice (some ⟨b, 0, none⟩) m m) :: e) w')
  (h : ∀ w' b, ar G (ag b cs c :: L) w' -> XL P n ops dr (i :: done) r K ((d, .slice (some ⟨b, 0, none⟩) m m) :: e) w') (hd : Nat.blt d n = true := by exact rfl) (hg : Gd ops e g := by first | trivial | exact ⟨_, rfl, rfl⟩) : XL P n ops dr done (i :: r) K e w := by
 obtain ⟨hk, hm⟩ := uk hx;refine iY ho (by simpa [cS] using hd) hg (ρ := rh e) (by intro z hz; exact hk z (by simpa [Op.operands] using hz)) rfl (v := .slice (some ⟨w.heap.size, 0, none⟩) m m) (w' := { w with heap := w.heap.push (.cells cs.toArray c (0, 0)) }) ?_ (j6 _ _ (hw.push _)) (h _ _ (hw.push _));have e1 : (xs.map fun (j, z) => (j, rh e z)) = ((xs.toList.map (·.1)).zip vs).toArray := by
  apply Array.ext';rw [<-hm];simp only [Array.toList_map]
  generalize xs.toList = q
  induction q with
  | nil => rfl
  | cons x q ih => obtain ⟨a, b⟩ := x; simp only [cG, List.zip_cons_cons, ih]
 cases hi : P.info? c with
 | none => simp [hi] at xo
 | some inf =>
  have dm : inf.size = z := by simpa [hi] using xo
  cases uN : inf.zero with
  | none => simp [cd, hi, uN] at A9
  | some zv =>
   have NA : zv.cells = zc := by simpa [cd, hi, uN] using A9
   have hnz : ¬ m * z = 0 := oM;have hle : ¬ 16777216 < m * z := oM;simp only [execOp, e1];simp [Instr.buildSlice, run_underlying hs, sizeOf, typeInfo, hi, dm, zeroValue, uN, hnz, hle, NA, hf, newRow]
end
section
variable {G : Gh} {L R : List az} {w : World}
theorem wI {p : bm} {at_ : Nat} (hw : ar G L w) (hp : p.Ok L) (tC : Cl p.s) (h8 : p.l.length <= 1000000) : Calls prog 128 #[gQ p.cells, iQ at_] w (dv fun r w' =>
  (¬ at_ < p.l.length /\ r = .tuple #[gQ bI.cells, .bool false] /\ ar G L w') ∨
  (at_ < p.l.length /\ ∃ p' : bm, r = .tuple #[gQ p'.cells, .bool true] /\ p'.pg = { p.pg with items := p.pg.items.take at_ ++ p.pg.items.drop (at_ + 1) } /\ p'.Sm /\ ar G (aR p' :: L) w')) := by
 obtain ⟨a1, c1, a2, c2, hs, hd, gJ⟩ := hp.form hw;have iE := hp.its;rw [hs] at iE;have LQ := tC;rw [hs] at LQ
 refine al (args := [_, _]) func128 rfl ntmps128 rfl rfl ?_;refine z2 ?_;refine bE rfl rfl rfl hw rfl fun w b2 hw => ?_;refine aN rfl bf hw rfl fun w b4 hw => ?_;refine z8 ?_;refine bY (l1 := [3, 4, 5, 6, 7, 8]) (l2 := []) rfl (d := 16) ((p.l.length : Int) <= at_) rfl ?_ ?_
 ·
  refine aE (d := 10) rfl (fun h1 => ?_) fun h1 => ?_
  ·
   refine z7 ?_;refine cQ ?_;exact dC
  refine z2 ?_;refine bt rfl rfl (aj.bx (v := .slice a1 p.l.length c1) ao hw pK (by rw [gJ]; rfl)) ?_;refine dQ rfl kR aG rfl ?_;refine z3 ?_;refine cQ ?_;exact dC
 refine aH ?_;refine aS rfl (fun h2 => ?_) fun h2 => ?_
 ·
  refine z2 ?_;refine aQ (v := gQ bI.cells) rfl rfl (fun w => kR) ?_;refine aL (cs := bI.cells) (l' := bI.cells) rfl tV rfl rfl ad rfl bF hw pK (by simp [bI, bm.cells]) rfl rfl fun w hw => ?_;refine z3 ?_;exact eK rfl rfl ⟨_, rfl, (aj.cw ad hw pK rfl)⟩ rfl (.inl ⟨oM, rfl, (hw.b [ag b4 _ _, ag b2 _ _]).tail.tail⟩)
 refine z4 ?_;refine bt rfl rfl (aj.bx (v := .slice a1 p.l.length c1) ao hw pK (by rw [gJ]; rfl)) ?_;refine z1 ?_;refine an rfl nN rfl (oJ (l := p.l) hw (iE.of sF) LQ oM) rfl fun w Xk hv => ?_;obtain ⟨va, vb, rfl, CN, G8, hw⟩ := hv;obtain ⟨aa, ac, rfl, -, -⟩ := ((CN.of sF).sl.at hw).form;obtain ⟨ba, bc, rfl, -, -⟩ := ((G8.of sF).sl.at hw).form;obtain ⟨ID, Bc, hd3⟩ := ((G8.of sF).sl.at hw).I';have NP : ((p.l.drop at_).map bT.cells).length = p.l.length - at_ := by rw [bA, iC]
 refine z7 ?_;refine bu [0, 1, 2, 3, 4, 5, 6, 7] bK kR ?_;replace hw := hw.drawn (w.drawn + 1);refine lA ad hw ?_;refine z2 ?_;refine I1 rfl aG aY rfl rfl ⟨oM, oM⟩ oM (fun h => Bc oM) fun v28 acH acG => ?_;have XZ : kZ _ v28 ((p.l.drop at_).drop 1) := G8.drop (j := 1) (by rw [iC]; omega) acH acG;obtain ⟨da, dc, rfl, -, -⟩ := ((XZ.of sF).sl.at hw).form;refine Ry (cs := [.slice aa ((p.l.take at_).map bT.cells).length ac, .slice da (((p.l.drop at_).drop 1).map bT.cells).length dc]) rfl eF gw oy dM rfl kR hw (fun w b29 hw q' hq => ?_) fun w b29 hw => ?_
 ·
  have hq := a9 (l := [0]) kR hq;simp only [bB, cW, or_false] at hq;subst hq;exact aV rfl rfl rfl (aj.cw ad hw pK rfl)
 refine an rfl jj rfl (j9 (p := p) (pcs := [(.slice aa ((p.l.take at_).map bT.cells).length ac, p.l.take at_), (.slice da (((p.l.drop at_).drop 1).map bT.cells).length dc, (p.l.drop at_).drop 1)]) hw (hp.of sF) ((tL (cs := [.slice aa ((p.l.take at_).map bT.cells).length ac, .slice da (((p.l.drop at_).drop 1).map bT.cells).length dc])).head _) (by
 intro y hy;simp only [bB, cW, or_false] at hy;rcases hy with rfl | rfl
 ·exact CN.of sF
 ·exact XZ.of sF) sM (by
 intro y hy;simp only [bB, cW, or_false] at hy;rcases hy with rfl | rfl
 ·simp only [fK]; omega
 ·simp only [iC]; omega)) kR (fun w v30 hv => ?_)
 obtain ⟨p', rfl, D3, ft, hw⟩ := hv;refine aL (cs := p'.cells) (l' := p'.cells) rfl tV rfl rfl ad rfl (cF (aB ft pK) hw) hw pK (by simp [bm.cells]) rfl kR fun w hw => ?_;refine z3 ?_;exact eK rfl rfl ⟨_, rfl, (aj.cw ad hw pK rfl)⟩ rfl (.inr ⟨oM, p', rfl, by rw [D3]; simp [bm.pg], ft, (hw.b [ag b4 _ _, ag b2 _ _, ag b29 _ _]).tail.tail.tail⟩)
theorem mF {p q : bm} (hw : ar G L w) : Calls prog 192 #[gQ p.cells, gQ q.cells] w (dv fun r w' => r = .bool (decide ((p.kind = 1 \/ p.kind = 2) /\ p.kind = q.kind /\ p.level = q.level)) /\ ar G L w') := by
 refine al (args := [_, _]) func192 rfl ntmps192 rfl rfl ?_;refine z2 ?_;refine bE rfl rfl rfl hw rfl fun w b2 hw => ?_;refine bE rfl rfl rfl hw rfl fun w b3 hw => ?_;refine z4 ?_;refine lA (l := p.cells) ad hw ?_;refine an rfl wV rfl (yv (p := p) hw) rfl fun w v6 hv => ?_;obtain ⟨rfl, hw⟩ := hv;refine z1 ?_;refine aE (d := 7) rfl (fun h1 => ?_) fun h1 => ?_
 ·
  refine z1 ?_;refine lD (v := iQ p.kind) ai hw ?_;refine z1 ?_;refine lD (v := iQ q.kind) ai hw ?_;refine z3 ?_;refine aE (d := 14) rfl (fun h2 => ?_) fun h2 => ?_
  ·
   refine z1 ?_;refine lD (v := iQ p.level) ai hw ?_;refine z1 ?_;refine lD (v := iQ q.level) ai hw ?_;refine z5 ?_;exact br rfl rfl rfl ⟨congrArg Value.bool (cZ.2 ⟨fun h => ⟨h1, h2, h⟩, fun h => h.2.2⟩), (hw.b [ag b2 _ _, ag b3 _ _]).tail.tail⟩
  refine z9 ?_;exact br rfl rfl rfl ⟨congrArg Value.bool (decide_eq_false (fun h => h2 h.2.1)).symm, (hw.b [ag b2 _ _, ag b3 _ _]).tail.tail⟩
 refine z16 ?_;exact br rfl rfl rfl ⟨congrArg Value.bool (decide_eq_false (fun h => h1 h.1)).symm, (hw.b [ag b2 _ _, ag b3 _ _]).tail.tail⟩
end
def An (sep : bN) : List It -> List It
 | [] => []
 | x :: r => { x with key := sep } :: r
def jF (p q : Pg) (sep : bN) : List It := if p.kind = 2 then p.items ++ An sep q.items else p.items ++ q.items
theorem im {A : az} : ∀ {M N : List az}, dg A (M ++ A :: N) (M ++ N)
 | [], N => .here
 | B :: M, N => .there im
theorem C2 {l : List bT} {n : Nat} {x y : bT} {G : Gh} {R : List az} {w : World} (hx : l[n]? = some x) (hv : y.vv = x.vv) (hvl : y.it.value = x.it.value)
  (h : ar G (aT (l.flatMap bn) :: row 5 1 y.kv y.it.key.length (dV y.it.key) :: R) w) : ar G (aT ((l.set n y).flatMap bn) :: R) w := by
 have hn := (nU.1 hx).1;have e1 : l = l.take n ++ x :: l.drop (n + 1) := by rw [<-dG hx, qd]
 have e2 : l.set n y = l.take n ++ y :: l.drop (n + 1) := Lb.trans (ah hn);have h1 := h.cD;rw [e1, Ac, ku] at h1;refine ar.bH ?_;rw [e2, Ac, ku];simp only [bn, je, j4, jG] at h1 ⊢
 rw [hv, hvl];have h2 := (h1.drop im);have h3 := h2.pick (im (M := (l.take n).flatMap bn ++ (row 5 1 x.vv x.it.value.length (dV x.it.value) :: (l.drop (n + 1)).flatMap bn)) (N := R) |> fun p => by simpa using p);exact h3.yK im
section
variable {G : Gh} {L R : List az} {w : World}
theorem wH {p q : bm} {sv : Value} {sep : bN} (hw : ar G L w) (hp : p.Ok L) (hq : q.Ok L) (ks : aX L (kL sv sep)) (GO : bz sep) (h1 : p.l.length <= 1000000) (h2 : 1 <= q.l.length /\ q.l.length <= 1000000) :
  Calls prog 193 #[gQ p.cells, gQ q.cells, sv] w (dv fun r w' => ∃ l : List bT, l.map bT.it = jF p.pg q.pg sep /\ (∀ x ∈ l, bz x.it.key /\ bz x.it.value) /\ ar G (row 114 4 r l.length (l.map bT.cells).flatten :: aT (l.flatMap bn) :: L) w') := by
 obtain ⟨a1, c1, a2, c2, q9, ID, JS⟩ := hp.form hw;obtain ⟨b1, d1, b2, d2, vw, Bc, Tk⟩ := hq.form hw;have WQ := hp.its;have CQ := hq.its;rw [q9] at WQ;rw [vw] at CQ
 refine al (args := [_, _, _]) func193 rfl ntmps193 rfl rfl ?_;refine z2 ?_;refine bE rfl rfl rfl hw rfl fun w b3 hw => ?_;refine bE rfl rfl rfl hw rfl fun w b4 hw => ?_;refine z4 ?_;refine lA (l := p.cells) ad hw ?_;refine z1 ?_;refine bt rfl rfl (aj.bx (v := .slice a1 p.l.length c1) ao hw pK (by rw [JS]; rfl)) ?_;refine z1 ?_;refine bt rfl rfl (aj.bx (v := .slice b1 q.l.length d1) ao hw pK (by rw [Tk]; rfl)) ?_;refine Ee (cs := [.slice a1 p.l.length c1, .slice b1 q.l.length d1]) rfl eF gw oy dM rfl kR hw rfl fun w b13 hw => ?_;refine an rfl jj rfl (j9 (p := p) (pcs := [(.slice a1 p.l.length c1, p.l), (.slice b1 q.l.length d1, q.l)]) hw (hp.of sF) ((tL (cs := [.slice a1 p.l.length c1, .slice b1 q.l.length d1])).head _) (by
 intro y hy;simp only [bB, cW, or_false] at hy;rcases hy with rfl | rfl
 ·exact WQ.of sF
 ·exact CQ.of sF) sM (by
 intro y hy;simp only [bB, cW, or_false] at hy;rcases hy with rfl | rfl
 ·simp only; omega
 ·simp only; omega)) rfl (fun w QY hv => ?_)
 obtain ⟨p', rfl, D3, ft, hw⟩ := hv;have Zx : p'.l.map bT.it = p.l.map bT.it ++ q.l.map bT.it := by have h := congrArg Pg.items D3; simpa [bm.pg] using h
 have kA : p'.l.length = p.l.length + q.l.length := by have h := congrArg List.length Zx; simpa using h
 have hw := ar.cD (M := fi p') hw;simp only [fi, j4, jG] at hw;have hw := (hw.b [row 5 1 p'.d _ _, ag b13 _ _, row 114 4 _ _ _, aT _]).tail.tail;obtain ⟨ra, rc, GP⟩ := aM hw;have Yh := ft.it;refine Ed (cs := p'.cells) rfl underlying75 rfl kR kR rfl rfl rfl ?_;rw [GP] at hw
 rw [GP];refine z6 ?_;refine lD (v := iQ p.kind) ai hw ?_;refine z2 ?_;refine aS rfl (fun h1 => ?_) fun h1 => ?_
 ·
  obtain ⟨x, hx⟩ : ∃ x, p'.l[p.l.length]? = some x := ⟨_, cV oM⟩;obtain ⟨ud, sb, cur, Fo, BQ, yl, gJ, hw⟩ := ij hw oM;rw [Fo];refine bu [0, 1, 2, 3, 4, 5, 6, 7, 8] bK kR ?_;replace hw := hw.drawn (w.drawn + 1);refine z2 ?_;refine bt rfl rfl (aj.bx (v := .slice a1 p.l.length c1) ao hw pK (by rw [JS]; rfl)) ?_;refine z2 ?_;refine dL rfl gH rfl (iw (l := sep) hw (ks.of sF) GO) (fun w MN hv q' hq => ?_) fun w MN hv => ?_
  ·
   have hw : ar G (row 5 1 MN sep.length (dV sep) :: _) _ := hv;have hq := a9 (l := [2]) kR hq;simp only [bB, cW, or_false] at hq;subst hq;exact aV rfl rfl rfl (aj.bx (v := .slice a1 p.l.length c1) ao hw pK (by rw [JS]; rfl))
  have hw : ar G (row 5 1 MN sep.length (dV sep) :: _) _ := hv;obtain ⟨ka, kc, rfl⟩ := aM hw;refine dD rfl aG aY rfl rfl ⟨oM, oM⟩ ?_;refine cy rfl cE rfl ?_;refine bS (l' := ((p'.l.set p.l.length ⟨{ x.it with key := sep }, .slice ka sep.length kc, x.vv⟩).map bT.cells).flatten ++ cur) rfl tV rfl rfl ay rfl hw pK (by rw [ga]; exact BM oM oM _) (by rw [za hx]; simp [tS, bT.cells]) kR (fun w hw => ?_);have hw := np (m := p'.l.length) (z := 4) hw (by rw [dk (kX _), bA, qC]) BQ yl (by rw [<-gJ, ga, ga, qC]);refine z7 ?_;exact br rfl rfl rfl (by
 obtain ⟨y, hy⟩ : ∃ y : bT, y = ⟨{ x.it with key := sep }, .slice ka sep.length kc, x.vv⟩ := ⟨_, rfl⟩
 (try unfold sQ at hw); rw [<-hy] at hw
 have hz := hw.b [aT _, row 5 1 (.slice ka _ kc) _ _, row 114 4 _ _ _, ag b3 _ _, ag b4 _ _];have hz := C2 (y := y) hx (by rw [hy]) (by rw [hy]) (by rw [hy]; exact hz);refine ⟨p'.l.set p.l.length y, ?_, fun z mh => ?_, ?_⟩
 ·obtain ⟨z0, zr, hzq⟩ : ∃ z0 zr, q.l = z0 :: zr := by
   cases Qo : q.l with
   | nil => rw [Qo] at h2; simp at h2
   | cons z0 zr => exact ⟨z0, zr, rfl⟩
  have Qj : x.it = z0.it := by
   have h3 : (p'.l.map bT.it)[p.l.length]? = some x.it := by rw [dB, hx]; rfl
   rw [Zx, xI sM, hzq] at h3;simp at h3
   exact h3.symm
  unfold jF;rw [ah (show p.pg.kind = 2 from h1), tS, Zx];simp only [bm.pg, hzq, cG, An];rw [K9 _ _ sM, bA, Ab, hy, <-Qj];rfl
 ·rcases Sa mh with mh | mh
  ·exact Yh z mh
  ·subst mh; rw [hy]; exact ⟨GO, (Yh x (ed hx)).2⟩
 ·rw [qC];exact (hz.b [ag b3 _ _, ag b4 _ _, row 114 4 _ _ _]).tail.tail)
 refine z7 ?_;exact br rfl rfl rfl (by
 refine ⟨p'.l, ?_, Yh, (hw.b [ag b3 _ _, ag b4 _ _, row 114 4 _ _ _]).tail.tail⟩;unfold jF;rw [ae (show ¬ p.pg.kind = 2 from h1)];exact Zx)
end
theorem Ey {p q : Pg} {sep : bN} : (jF p q sep).length = p.items.length + q.items.length := by
 unfold jF;split
 ·rw [cj];cases q.items <;> simp [An]
 rw [cj]
theorem SB {v : Value} {l : List bT} {L R R' : List az} (hs : ∀ x ∈ l, bz x.it.key /\ bz x.it.value) (hle : l.length <= 2199023255552) (p1 : dg (row 114 4 v l.length (l.map bT.cells).flatten) L R) (p2 : dg (aT (l.flatMap bn)) L R') : kZ L v l :=
 ⟨((gC.row sM (kX l)).head _).pick p1, fun x hx => ⟨((vX hs hx).k.head _).pick p2, ((vX hs hx).v.head _).pick p2, (hs x hx).1, (hs x hx).2⟩, hle⟩
def eB (p q : Pg) : Prop := ((p.kind = 1 \/ p.kind = 2) /\ p.kind = q.kind /\ p.level = q.level) /\ 1 <= p.items.length /\ 1 <= q.items.length /\ p.items.length + q.items.length <= 8
instance (p q : Pg) : Decidable (eB p q) := by unfold eB; infer_instance
section
variable {G : Gh} {L R : List az} {w : World}
theorem AR {p q : bm} {sv : Value} {sep : bN} (hw : ar G L w) (hp : p.Ok L) (hq : q.Ok L) (ks : aX L (kL sv sep)) (GO : bz sep) (h1 : p.l.length <= 1000) (h2 : q.l.length <= 1000) :
  Calls prog 181 #[gQ p.cells, gQ q.cells, sv] w (dv fun r w' => (¬ eB p.pg q.pg /\ r = .tuple #[gQ bI.cells, .bool false] /\ ar G L w') ∨
   (eB p.pg q.pg /\ ∃ p' : bm, r = .tuple #[gQ p'.cells, .bool true] /\ p'.pg = { p.pg with items := jF p.pg q.pg sep } /\ p'.Sm /\ ar G (aR p' :: L) w')) := by
 obtain ⟨a1, c1, a2, c2, q9, ID, JS⟩ := hp.form hw;obtain ⟨b1, d1, b2, d2, vw, Bc, Tk⟩ := hq.form hw;have kA : p.pg.items.length = p.l.length := by simp [bm.pg]
 have MR : q.pg.items.length = q.l.length := by simp [bm.pg]
 have hpk : p.pg.kind = p.kind /\ p.pg.level = p.level := ⟨rfl, rfl⟩;have hqk : q.pg.kind = q.kind /\ q.pg.level = q.level := ⟨rfl, rfl⟩;refine al (args := [_, _, _]) func181 rfl ntmps181 rfl rfl ?_;refine z2 ?_;refine bE rfl rfl rfl hw rfl fun w b3 hw => ?_;refine bE rfl rfl rfl hw rfl fun w b4 hw => ?_;refine aN rfl bf hw rfl fun w b6 hw => ?_;refine z3 ?_;refine bu [0, 1, 2, 3, 4, 5, 6, 7] bK kR ?_;replace hw := hw.drawn (w.drawn + 1);refine z1 ?_;refine bt rfl rfl (aj.bx (v := .slice a1 p.l.length c1) ao hw pK (by rw [JS]; rfl)) ?_;refine z2 ?_;refine bt rfl rfl (aj.bx (v := .slice b1 q.l.length d1) ao hw pK (by rw [Tk]; rfl)) ?_;refine z7 ?_;refine lA (l := p.cells) ad hw ?_;refine lA (l := q.cells) ad hw ?_;refine an rfl l7 rfl (mF (p := p) (q := q) hw) rfl fun w TV hv => ?_;obtain ⟨rfl, hw⟩ := hv;refine jX rfl rfl ?_;refine z1 ?_;refine aE (d := 20) rfl (fun h1 => ?_) fun h1 => ?_
 ·
  refine W9 ?_;refine eg rfl ?_;refine z2 ?_;refine aQ (v := gQ bI.cells) rfl rfl (fun w => kR) ?_;refine aL (cs := bI.cells) (l' := bI.cells) rfl tV rfl rfl ad rfl bF hw pK (by simp [bI, bm.cells]) rfl rfl fun w hw => ?_;refine z3 ?_;exact eK rfl rfl ⟨_, rfl, (aj.cw ad hw pK rfl)⟩ rfl (.inl ⟨by unfold eB; intro h; exact h1 h.1, rfl, (by repeat (first | exact hw | replace hw := hw.tail))⟩)
 refine z4 ?_;refine aE (d := 24) rfl (fun h2 => ?_) fun h2 => ?_
 ·
  refine yb ?_;refine eg rfl ?_;refine z2 ?_;refine aQ (v := gQ bI.cells) rfl rfl (fun w => kR) ?_;refine aL (cs := bI.cells) (l' := bI.cells) rfl tV rfl rfl ad rfl bF hw pK (by simp [bI, bm.cells]) rfl rfl fun w hw => ?_;refine z3 ?_;exact eK rfl rfl ⟨_, rfl, (aj.cw ad hw pK rfl)⟩ rfl (.inl ⟨by unfold eB; intro h; omega, rfl, (by repeat (first | exact hw | replace hw := hw.tail))⟩)
 refine z4 ?_;refine aE (d := 28) rfl (fun h3 => ?_) fun h3 => ?_
 ·
  refine z6 ?_;refine eg rfl ?_;refine z2 ?_;refine aQ (v := gQ bI.cells) rfl rfl (fun w => kR) ?_;refine aL (cs := bI.cells) (l' := bI.cells) rfl tV rfl rfl ad rfl bF hw pK (by simp [bI, bm.cells]) rfl rfl fun w hw => ?_;refine z3 ?_;exact eK rfl rfl ⟨_, rfl, (aj.cw ad hw pK rfl)⟩ rfl (.inl ⟨by unfold eB; intro h; omega, rfl, (by repeat (first | exact hw | replace hw := hw.tail))⟩)
 refine z2 ?_;refine yJ rfl rfl rfl oM ?_;refine z3 ?_;refine aS rfl (fun h4 => ?_) fun h4 => ?_
 ·
  refine z2 ?_;refine aQ (v := gQ bI.cells) rfl rfl (fun w => kR) ?_;refine aL (cs := bI.cells) (l' := bI.cells) rfl tV rfl rfl ad rfl bF hw pK (by simp [bI, bm.cells]) rfl rfl fun w hw => ?_;refine z3 ?_;exact eK rfl rfl ⟨_, rfl, (aj.cw ad hw pK rfl)⟩ rfl (.inl ⟨by unfold eB; intro h; omega, rfl, (by repeat (first | exact hw | replace hw := hw.tail))⟩)
 have hj : eB p.pg q.pg := ⟨cJ.1 h1, oM, oM, oM⟩;refine z2 ?_;refine bu [0, 1, 2, 3, 4, 5, 6, 7, 8] bK kR ?_;replace hw := hw.drawn (w.drawn + 1);refine lA (l := p.cells) ad hw ?_;refine lA (l := p.cells) ad hw ?_;refine lA (l := q.cells) ad hw ?_;refine z1 ?_;refine dL rfl uE rfl (wH (p := p) (q := q) hw (hp.of sF) (hq.of sF) (ks.of sF) GO oM ⟨oM, oM⟩) (fun w RC hv q' hq => ?_) fun w RC hv => ?_
 ·
  obtain ⟨l, hl, LX, hw⟩ := hv;have hq := a9 (l := [0]) kR hq;simp only [bB, cW, or_false] at hq;subst hq;exact aV rfl rfl rfl (aj.cw (l := p.cells) ad hw pK rfl)
 obtain ⟨l, hl, LX, hw⟩ := hv;have oW : l.length = p.l.length + q.l.length := by have h := congrArg List.length hl; rw [bA, Ey] at h; omega
 obtain ⟨ra, rc, rfl⟩ := aM hw;refine vA (cs := [.slice ra l.length rc]) rfl eF gw qw dM rfl rfl rfl hw (fun w b40 hw q' hq => ?_) fun w b40 hw => ?_
 ·
  have hq := a9 (l := [0]) kR hq;simp only [bB, cW, or_false] at hq;subst hq;exact aV rfl rfl rfl (aj.cw (l := p.cells) ad hw pK rfl)
 refine an rfl jj rfl (j9 (p := p) (pcs := [(.slice ra l.length rc, l)]) hw (hp.of sF) ((tL (cs := [.slice ra l.length rc])).head _) (by
 intro y hy;simp only [bB, cW, or_false] at hy;subst hy;exact (SB LX (by rw [oW]; omega) pK pK)) sM (by
 intro y hy;simp only [bB, cW, or_false] at hy;subst hy;simp only; omega)) kR (fun w v41 hv => ?_)
 obtain ⟨p', rfl, D3, ft, hw⟩ := hv;refine aL (cs := p'.cells) (l' := p'.cells) rfl tV rfl rfl ad rfl (cF (aB ft pK) hw) hw pK (by simp [bm.cells]) rfl kR fun w hw => ?_;refine z3 ?_;exact eK rfl rfl ⟨_, rfl, (aj.cw ad hw pK rfl)⟩ rfl (.inr ⟨hj, p', rfl, by rw [D3, <-hl]; simp [bm.pg], ft, (hw.b [ag b6 _ _, ag b3 _ _, ag b4 _ _, ag b40 _ _, aR p', row 114 4 _ _ _, aT (l.flatMap bn)]).tail.tail.tail.tail |> fun h => (h.b [row 114 4 _ _ _, aT (l.flatMap bn)]).tail.tail⟩)
end
def Vw.inc (x : Vw) (n : Int) : Vw := if x.v.po.qZ n = 0 then x.act n 1 else x
def Va.pC (V : Va) (n : Int) : Int × Va := if V.po.qZ n ≠ 0 then (V.po.qZ n, V) else (0, V.done ((⟨V, []⟩ : Vw).act n 1))
theorem Vw.XI {V : Va} (aJ : V.Ok) (n : Int) : Wk V 1 ((⟨V, []⟩ : Vw).inc n) := by
 unfold Vw.inc;split
 ·rename_i h;exact (Wk.refl aJ.po).inc h
 exact (Wk.refl aJ.po).mono oM
theorem Lt.pC {V : Va} (aJ : V.Ok) (n : Int) : Lt V 2 (V.pC n).2 := by
 unfold Va.pC;split
 ·exact (Lt.refl aJ).mono oM
 rename_i h;have h := cJ.1 h;obtain ⟨h1, h2, _⟩ := qt h;exact Lt.done aJ ((Wk.refl aJ.po).inc h) ((Wt.refl aJ.toKm).act h1 h2) oM
def Va.take (V : Va) (n : Int) : Pg × Int × Va := match V.rd n with
 | none => (bI.pg, 15, V)
 | some p => if ((⟨V, []⟩ : Vw).leave n).1 ≠ 0 then (bI.pg, ((⟨V, []⟩ : Vw).leave n).1, V) else (p, 0, V.done ((⟨V, []⟩ : Vw).leave n).2)
theorem y5 {V : Va} (aJ : V.Ok) (n : Int) : (aA (V.pg n)).length <= 9 := by
 cases ho : V.on n with
 | none => unfold Va.pg; rw [ho]; decide
 | some p =>
  have h1 := aJ.on n p ho;unfold Va.pg; rw [ho];exact sW h1
theorem Lt.take {V : Va} (aJ : V.Ok) (n : Int) : Lt V 11 (V.take n).2.2 := by
 unfold Va.take;split
 ·exact (Lt.refl aJ).mono oM
 split
 ·exact (Lt.refl aJ).mono oM
 exact Lt.done aJ ((Wk.refl aJ.po).leave n (y5 aJ n)) ((Wt.refl aJ.toKm).leave aJ.po n) oM
theorem tU : bI.Sm := ⟨by decide, (fun x hx => by cases hx), by show (0 : Nat) <= _; omega⟩
theorem ns {G : Gh} {L : List az} {w : World} (hw : ar G L w) : ar G (aR bI :: L) w := by
 refine ar.bH (M := fi bI) ?_;have h1 := cf hw 5 1;have h2 := ar.bH (M := ([] : List bT).flatMap bn) h1;exact cf h2 114 4
section
variable {G : Gh} {L R : List az} {w : World}
theorem ve {vq b b1 b2 : Nat} {mk n : Int} {V : Va} (hw : ar G (sH vq b mk ⟨V, []⟩ :: ag b1 [pQ vq] 28 :: ag b2 [iQ n] 3 :: L) w) (aJ : V.Ok) (dm : V.sz <= 1000000000000) :
  Calls prog 71 #[pQ b, pQ b1, pQ b2] w (dv fun r w' => r = iQ (V.po.qZ n) /\ ar G (sH vq b mk ((⟨V, []⟩ : Vw).inc n) :: ag b1 [pQ vq] 28 :: ag b2 [iQ n] 3 :: L) w') := by
 obtain ⟨m, hf, hw⟩ := jB hw;have kA : V.po.pa.length <= 1000000000000 := by have := aJ.pf; have := aJ.vf; unfold Va.sz at dm; omega
 refine al (args := [_, _, _]) func71 rfl ntmps71 rfl rfl ?_;refine z5 ?_;refine bu [0, 1, 2, 3, 4, 5, 6] bK kR ?_;replace hw := hw.drawn (w.drawn + 1);refine lD (v := pQ vq) au hw ?_;refine z2 ?_;refine lD (v := .pointer (some ⟨m.m.q, 0, none⟩)) bp hw ?_;refine lD (v := iQ n) ai hw ?_;refine an rfl rP rfl (ti (P := V.po) (n := n) (hw.b [gZ m.m.q V.po]) aJ.po oM) kR fun w v10 hv => ?_;obtain ⟨rfl, hw⟩ := hv;refine z3 ?_;exact br rfl rfl rfl ⟨rfl, by
 have hz := hw.b [ag b _ _, row 212 _ _ _ _, ag vq _ _, cX _ _, pI _, row 170 _ _ _ _, aT (m.m.fu.map kM), gZ _ _];have e : ((⟨V, []⟩ : Vw).inc n) = { v := { V with po := V.po.inc n }, was := [] } := by unfold Vw.inc Po.inc; split <;> rfl
 rw [e];exact gK (x := { v := { V with po := V.po.inc n }, was := [] }) (m := m) ⟨⟨hf.f.on, hf.f.Ih, hf.f.sm, hf.f.fu, hf.f.HP⟩, hf.ws, hf.Us⟩ hz⟩
theorem xT {vq : Nat} {V : Va} {n : Int} (hw : ar G (aZ vq V :: L) w) (aJ : V.Ok) (dm : V.sz <= 1000000000000) :
  Calls prog 37 #[pQ vq, iQ n] w (dv fun r w' => r = iQ (V.pC n).1 /\ ar G (aZ vq (V.pC n).2 :: L) w') := by
 refine al (args := [_, _]) func37 rfl ntmps37 rfl rfl ?_;refine z2 ?_;refine bE rfl rfl rfl hw rfl fun w b2 hw => ?_;refine bE rfl rfl rfl hw rfl fun w b3 hw => ?_;refine z4 ?_;refine lD (v := pQ vq) au hw ?_;refine mO (v1 := #[]) (v2 := #[pQ b2, pQ b3]) rfl (by intro z hz; simp at hz; rcases hz with rfl | rfl <;> exact ⟨_, rfl⟩) sM (by simp only [oS, cG, j3]; rfl) ?_;refine an rfl gb rfl (gE (fn := 71) (caps := #[pQ b2, pQ b3]) (Q := fun e x L' => e = V.po.qZ n /\ x = (⟨V, []⟩ : Vw).inc n /\ L' = ag b2 [pQ vq] 28 :: ag b3 [iQ n] 3 :: L) (hw.b [aZ vq V, ag b2 _ _, ag b3 _ _]) aJ dm uA (fun w b hw => ik (ve hw aJ dm) (fun r w' h => by
 have Fe := Vw.XI aJ n;exact ⟨_, _, _, h.1, Fe.g, Fe.ok, by have := Fe.sz; omega, by have := Fe.was; omega, ⟨rfl, rfl, rfl⟩, h.2⟩))) rfl (fun w v7 hv => ?_)
 obtain ⟨er, x, L', rfl, -, ⟨rfl, rfl, rfl⟩, bQ⟩ := hv;refine z3 ?_;exact br rfl rfl rfl (by
 by_cases h1 : V.po.qZ n = 0
 ·have hw := (bQ.resolve_left (fun h => h.1 h1)).2;have e : V.pC n = (0, V.done ((⟨V, []⟩ : Vw).act n 1)) := by unfold Va.pC; rw [ae (fun h => h h1)]
  have e2 : (⟨V, []⟩ : Vw).inc n = (⟨V, []⟩ : Vw).act n 1 := by unfold Vw.inc; rw [ah h1]
  rw [e2] at hw;rw [e, h1];exact ⟨rfl, (hw.b [ag b2 _ _, ag b3 _ _]).tail.tail⟩
 ·have hw := (bQ.resolve_right (fun h => h1 h.1)).2;have e : V.pC n = (V.po.qZ n, V) := by unfold Va.pC; rw [ah h1]
  rw [e];exact ⟨rfl, (hw.b [ag b2 _ _, ag b3 _ _]).tail.tail⟩)
theorem u7 {vq b b1 b2 : Nat} {mk n : Int} {V : Va} (hw : ar G (sH vq b mk ⟨V, []⟩ :: ag b1 [pQ vq] 28 :: ag b2 [iQ n] 3 :: L) w) (aJ : V.Ok) (dm : V.sz <= 1000000000000) :
  Calls prog 183 #[pQ b, pQ b1, pQ b2] w (dv fun r w' => r = iQ ((⟨V, []⟩ : Vw).leave n).1 /\ ar G (sH vq b mk ((⟨V, []⟩ : Vw).leave n).2 :: ag b1 [pQ vq] 28 :: ag b2 [iQ n] 3 :: L) w') := by
 have kA : V.po.pa.length <= 1000000000000 := by have := aJ.pf; have := aJ.vf; unfold Va.sz at dm; omega
 refine al (args := [_, _, _]) func183 rfl ntmps183 rfl rfl ?_;refine z6 ?_;refine lD (v := pQ vq) au hw ?_;refine z1 ?_;refine lD (v := iQ n) ai hw ?_;refine an rfl n7 rfl (o0 (x := ⟨V, []⟩) (n := n) hw aJ.po (show V.po.pa.length <= _ by omega) (fo _) (y5 aJ n)) rfl fun w v8 hv => ?_;obtain ⟨rfl, hw⟩ := hv;refine z3 ?_;exact br rfl rfl rfl ⟨rfl, hw⟩
theorem xR {vq : Nat} {V : Va} {n : Int} (hw : ar G (aZ vq V :: L) w) (aJ : V.Ok) (dm : V.sz <= 1000000000000) :
  Calls prog 162 #[pQ vq, iQ n] w (dv fun r w' => ∃ p' : bm, r = .tuple #[gQ p'.cells, iQ (V.take n).2.1] /\ p'.pg = (V.take n).1 /\ p'.Sm /\ ar G (aR p' :: aZ vq (V.take n).2.2 :: L) w') := by
 refine al (args := [_, _]) func162 rfl ntmps162 rfl rfl ?_;refine z2 ?_;refine bE rfl rfl rfl hw rfl fun w b2 hw => ?_;refine bE rfl rfl rfl hw rfl fun w b3 hw => ?_;refine aN rfl bf hw rfl fun w b4 hw => ?_;refine z4 ?_;refine lD (v := pQ vq) au hw ?_;refine lD (v := iQ n) ai hw ?_;refine an rfl cu rfl (fO (n := n) (hw.b [aZ vq V]) aJ) rfl fun w v12 hv => ?_;obtain ⟨p', er, A, rfl, kP, iu, hw⟩ := hv;refine z3 ?_;refine aN rfl bf hw rfl fun w b6 hw => ?_;refine aL (cs := p'.cells) (l' := p'.cells) rfl tV rfl rfl ad rfl kP hw pK (by simp [bm.cells]) rfl rfl fun w hw => ?_;refine z8 ?_;refine aS rfl (fun h1 => ?_) fun h1 => ?_
 ·
  obtain ⟨py, rfl, rfl, rfl⟩ := iu.resolve_right (fun h => h1 h.2.1);have e : V.take n = (bI.pg, 15, V) := by unfold Va.take; rw [py]
  refine z2 ?_;refine aQ (v := gQ bI.cells) rfl rfl (fun w => kR) ?_;refine z1 ?_;refine aL (cs := bI.cells) (l' := bI.cells) rfl tV rfl rfl ad rfl bF hw pK (by simp [bI, bm.cells]) rfl rfl fun w hw => ?_;refine z3 ?_;refine eK rfl rfl ⟨_, rfl, (aj.cw (l := bI.cells) ad hw pK rfl)⟩ rfl ⟨bI, by rw [e], by rw [e], tU, ?_⟩;rw [e];exact ns (hw.b [ag b4 _ _, ag b6 _ _, aT [], ag b2 _ _, ag b3 _ _]).tail.tail.tail.tail.tail
 have h1 : er = 0 := cJ.1 h1;obtain ⟨py, -, rfl, ft⟩ := iu.resolve_left (fun h => by have := h.2.1; omega);refine z4 ?_;refine lD (v := pQ vq) au hw ?_;refine mO (v1 := #[]) (v2 := #[pQ b2, pQ b3]) rfl (by intro z hz; simp at hz; rcases hz with rfl | rfl <;> exact ⟨_, rfl⟩) sM (by simp only [oS, cG, j3]; rfl) ?_;refine an rfl gb rfl (gE (fn := 183) (caps := #[pQ b2, pQ b3]) (Q := fun e x L' => e = ((⟨V, []⟩ : Vw).leave n).1 /\ x = ((⟨V, []⟩ : Vw).leave n).2 /\ L' = ag b2 [pQ vq] 28 :: ag b3 [iQ n] 3 :: ag b6 p'.cells 75 :: aR p' :: ag b4 [iQ 0, iQ 0, nQ, nQ, iQ 0] 75 :: L) (hw.b [aZ vq V, ag b2 _ _, ag b3 _ _, ag b6 _ _, aR p', ag b4 _ _]) aJ dm ux (fun w b hw => ik (u7 hw aJ dm) (fun r w' h => by
 have Fe := (Wk.refl aJ.po).leave n (y5 aJ n);exact ⟨_, _, _, h.1, Fe.g, Fe.ok, by have := Fe.sz; omega, by have := Fe.was; omega, ⟨rfl, rfl, rfl⟩, h.2⟩))) rfl (fun w Wj hv => ?_)
 obtain ⟨er2, x, L', rfl, -, ⟨sg, rfl, rfl⟩, bQ⟩ := hv;refine z7 ?_;refine aS rfl (fun h2 => ?_) fun h2 => ?_
 ·
  have hw := (bQ.resolve_right (fun h => h2 h.1)).2;have e : V.take n = (bI.pg, er2, V) := by unfold Va.take; rw [py]; simp only; rw [<-sg, ah h2]
  refine z2 ?_;refine aQ (v := gQ bI.cells) rfl rfl (fun w => kR) ?_;refine z1 ?_;refine aL (cs := bI.cells) (l' := bI.cells) rfl tV rfl rfl ad rfl bF hw pK (by simp [bI, bm.cells]) rfl rfl fun w hw => ?_;refine z3 ?_;refine eK rfl rfl ⟨_, rfl, (aj.cw (l := bI.cells) ad hw pK rfl)⟩ rfl ⟨bI, by rw [e], by rw [e], tU, ?_⟩;rw [e];exact ns (hw.b [ag b4 _ _, ag b6 _ _, aR p', ag b2 _ _, ag b3 _ _]).tail.tail.tail.tail.tail
 have h2 : er2 = 0 := cJ.1 h2;have hw := (bQ.resolve_left (fun h => h.1 h2)).2;have e : V.take n = (p'.pg, 0, V.done ((⟨V, []⟩ : Vw).leave n).2) := by unfold Va.take; rw [py]; simp only; rw [<-sg, ae (fun h => h h2)]
 refine z3 ?_;refine lA (l := p'.cells) ad hw ?_;refine aL (cs := p'.cells) (l' := p'.cells) rfl tV rfl rfl ad rfl kP hw pK (by simp [bm.cells]) rfl rfl fun w hw => ?_;refine z3 ?_;refine eK rfl rfl ⟨_, rfl, (aj.cw (l := p'.cells) ad hw pK rfl)⟩ rfl ⟨p', by rw [e], by rw [e], ft, ?_⟩;rw [e];exact (hw.b [ag b4 _ _, ag b6 _ _, ag b2 _ _, ag b3 _ _, aR p', aZ vq _]).tail.tail.tail.tail
end
def tot : List Int -> Int
 | [] => 0
 | x :: r => x + tot r
theorem Om : ∀ {l : List Int} {i : Nat} {x y : Int}, l[i]? = some x -> tot (l.set i y) = tot l - x + y
 | [], i, x, y, h => by simp at h
 | a :: l, 0, x, y, h => by simp at h; subst h; simp only [UC, tot]; omega
 | a :: l, i + 1, x, y, h => by
  simp only [List.getElem?_cons_succ] at h;simp only [PR, tot, Om h]; omega
theorem M6 : ∀ {l : List Int}, (∀ x ∈ l, 0 <= x) -> 0 <= tot l /\ ∀ x ∈ l, x <= tot l
 | [], h => ⟨by simp [tot], by simp⟩
 | a :: l, h => by
  obtain ⟨h1, h2⟩ := M6 (l := l) fun x hx => h x (gF _ hx)
  have h3 := h a (fp ..);refine ⟨by simp only [tot]; omega, fun x hx => ?_⟩;rcases bB.1 hx with rfl | hx
  ·simp only [tot]; omega
  have := h2 x hx; simp only [tot]; omega
theorem RH : ∀ {l : List Int} {m : Int}, (∀ x ∈ l, x <= m) -> tot l <= m * l.length
 | [], m, h => by simp [tot]
 | a :: l, m, h => by
  have h1 := RH (l := l) fun x hx => h x (gF _ hx)
  have h2 := h a (fp ..);simp only [tot, jO];have : m * ((l.length + 1 : Nat) : Int) = m * l.length + m := by rw [Int.natCast_add, Int.mul_add]; simp
  omega
theorem Po.Ok.mem {P : Po} (h : P.Ok) : ∀ x ∈ P.c, 0 <= x /\ x <= P.refs := fun x hx => h.NN P.pa.length (eW _) x (by rw [u0 (eW _)]; exact hx)
theorem Po.Ok.tot {P : Po} (h : P.Ok) : 0 <= tot P.c /\ tot P.c <= 4294967296 := by
 have h1 := (M6 fun x hx => (h.mem x hx).1).1;have h2 := RH fun x hx => (h.mem x hx).2
 have h3 := h.len;have h4 := h.refs;refine ⟨h1, Int.le_trans h2 ?_⟩;have : P.refs * (P.c.length : Int) <= 65536 * 65536 := Int.mul_le_mul oM oM oM oM;omega
theorem VM {P : Po} {n : Int} (h : bg P.c n) : tot (P.act n (-1)).c = tot P.c - 1 := by
 show tot (dI P.c n (-1)) = _
 unfold dI;unfold bg at h;have h1 : P.c[(n - 1).toNat]? = some (P.c.getD (n - 1).toNat 0) := by rw [qW, cV oM]; rfl
 rw [Om h1]; omega
theorem Pk {P : Po} (h : P.Ok) {n : Int} : P.bw n <= tot P.c := by
 have h1 := M6 fun x hx => (h.mem x hx).1
 unfold Po.bw iF;split
 ·rename_i ht;unfold bg at ht;refine h1.2 _ ?_;rw [qW, cV oM];exact PM _
 exact h1.1
def Vw.dropAll (g : Vw -> Int -> Int × Vw) : Vw -> List Int -> Int × Vw
 | x, [] => (0, x)
 | x, k :: r => if (g x k).1 ≠ 0 then g x k else Vw.dropAll g (g x k).2 r
def Vw.dropF : Nat -> Vw -> Int -> Int × Vw
 | 0, x, _ => (15, x)
 | f + 1, x, n => if x.v.bw n = 0 then (15, x) else if x.v.bw n ≠ 1 then (0, x.act n (-1)) else Vw.dropAll (Vw.dropF f) ((x.act n (-1)).free n) (aA ((x.act n (-1)).v.pg n))
theorem AF {g : Vw -> Int -> Int × Vw} {k : Int} : ∀ {l : List Int} {x y : Vw}, Vw.dropAll g x l = (0, y) -> (g y k).1 = 0 -> Vw.dropAll g x (l ++ [k]) = (0, (g y k).2)
 | [], x, y, h, h1 => by cases h; simp [Vw.dropAll, h1]
 | a :: l, x, y, h, h1 => by
  rw [Vw.dropAll] at h;rw [j4, Vw.dropAll];split at h
  ·rename_i h2; rw [h] at h2; exact absurd rfl h2
  rename_i h2; rw [ae h2]; exact AF h h1
theorem CV {g : Vw -> Int -> Int × Vw} {r : List Int} : ∀ {l : List Int} {x y : Vw}, Vw.dropAll g x l = (0, y) -> Vw.dropAll g x (l ++ r) = Vw.dropAll g y r
 | [], x, y, h => by cases h; rfl
 | a :: l, x, y, h => by
  rw [Vw.dropAll] at h;rw [j4, Vw.dropAll];split at h
  ·rename_i h2; rw [h] at h2; exact absurd rfl h2
  rename_i h2; rw [ae h2]; exact CV h
structure Dr (V : Va) (k : Int) (x : Vw) : Prop where
 g : lx V x
 ok : x.v.po.Ok
 t : Wt x
 pa : x.v.po.pa.length + tot x.v.po.c <= V.po.pa.length + k
 was : x.was.length + tot x.v.po.c <= k
theorem Dr.act {V : Va} {k : Int} {x : Vw} (h : Dr V k x) {n : Int} (hc : x.v.po.bw n ≠ 0) : Dr V k (x.act n (-1)) /\ ((x.act n (-1)).was.length : Int) + tot (x.act n (-1)).v.po.c + 1 <= k /\ tot (x.act n (-1)).v.po.c = tot x.v.po.c - 1 := by
 have h1 := cg hc;have h2 := h.ok.bw n;have h3 := VM (P := x.v.po) h1;have h4 := h.pa;have h5 := h.was;have h6 : (x.act n (-1)).v.po.pa.length = x.v.po.pa.length + 1 := by simp [Vw.act, Po.act]
 have h7 : (x.act n (-1)).was = x.was := rfl;have h8 : tot (x.act n (-1)).v.po.c = tot x.v.po.c - 1 := h3;refine ⟨⟨h.g.act h1, h.ok.act h1 (.inr rfl) oM, h.t.act h1 hc, by rw [h6, h8]; omega, by rw [h7, h8]; omega⟩, by rw [h7, h8]; omega, h8⟩
theorem Dr.free {V : Va} {k : Int} {x : Vw} (h : Dr V k x) (hw : (x.was.length : Int) + tot x.v.po.c + 1 <= k) (n : Int) : Dr V k (x.free n) /\ tot (x.free n).v.po.c = tot x.v.po.c := by
 have ht := h.t.free h.ok n;unfold Vw.free at ht ⊢;split
 ·rename_i hs;rw [ah hs] at ht;exact ⟨⟨h.g.put n none, h.ok, ht, h.pa, by simp only [Vw.put, cj, jt]; omega⟩, rfl⟩
 exact ⟨h, rfl⟩
theorem Dr.all {V : Va} {k : Int} {g : Vw -> Int -> Int × Vw} (hg : ∀ x n, Dr V k x -> Dr V k (g x n).2 /\ tot (g x n).2.v.po.c <= tot x.v.po.c) : ∀ {l : List Int} {x : Vw}, Dr V k x -> Dr V k (Vw.dropAll g x l).2 /\ tot (Vw.dropAll g x l).2.v.po.c <= tot x.v.po.c
 | [], x, h => ⟨h, lV _⟩
 | n :: l, x, h => by
  obtain ⟨h1, h2⟩ := hg x n h;rw [Vw.dropAll];split
  ·exact ⟨h1, h2⟩
  obtain ⟨h3, h4⟩ := Dr.all hg (l := l) h1;exact ⟨h3, oM⟩
theorem Dr.drop {V : Va} {k : Int} : ∀ (f : Nat) (x : Vw) (n : Int), Dr V k x -> Dr V k (x.dropF f n).2 /\ tot (x.dropF f n).2.v.po.c <= tot x.v.po.c
 | 0, x, n, h => ⟨h, lV _⟩
 | f + 1, x, n, h => by
  rw [Vw.dropF];split
  ·exact ⟨h, lV _⟩
  rename_i hc;obtain ⟨h1, h2, h3⟩ := h.act hc;split
  ·refine ⟨h1, ?_⟩
   show tot (x.act n (-1)).v.po.c <= _
   omega
  obtain ⟨h4, h5⟩ := h1.free h2 n;obtain ⟨h6, h7⟩ := Dr.all (fun x n => Dr.drop f x n) (l := aA ((x.act n (-1)).v.pg n)) h4;exact ⟨h6, oM⟩
theorem Dr.start {V : Va} (aJ : V.Ok) : Dr V (tot V.po.c) ⟨V, []⟩ := ⟨lx.refl V, aJ.po, Wt.refl aJ.toKm, lV _, by simp⟩
def TR (f : Nat) : Prop := ∀ {G : Gh} {L : List az} {w : World} {vq b : Nat} {mk n : Int} {x : Vw} {V : Va} {k : Int}, ar G (sH vq b mk x :: L) w -> Dr V k x -> k <= 1000000000000 -> V.po.pa.length <= 1000000000000 -> tot x.v.po.c <= f →
 Calls prog 74 #[pQ vq, pQ b, iQ n] w (dv fun r w' => r = iQ (x.dropF f n).1 /\ ar G (sH vq b mk (x.dropF f n).2 :: L) w')
section
variable {G : Gh} {L R : List az} {w : World}
theorem II {f : Nat} (ih : ∀ j, f = j + 1 -> TR j) {vq b : Nat} {mk n : Int} {x : Vw} {V : Va} {k : Int} (hw : ar G (sH vq b mk x :: L) w) (hd : Dr V k x) (hk : k <= 1000000000000) (hV : V.po.pa.length <= 1000000000000) (hf : tot x.v.po.c <= f) :
  Calls prog 74 #[pQ vq, pQ b, iQ n] w (dv fun r w' => r = iQ (x.dropF f n).1 /\ ar G (sH vq b mk (x.dropF f n).2 :: L) w') := by
 obtain ⟨m, Qy, hw⟩ := jB hw;have aJ := hd.ok;have XW := aJ.tot;have hpa := hd.pa;have hwa := hd.was;obtain ⟨lf, Ba⟩ : ∃ z : Int, z = if x.v.po.bw n = 0 then 0 else x.v.po.bw n - 1 := ⟨_, rfl⟩
 obtain ⟨er, O7⟩ : ∃ z : Int, z = if x.v.po.bw n = 0 then 15 else 0 := ⟨_, rfl⟩
 obtain ⟨x1, Ko⟩ : ∃ z : Vw, z = { x with v := { x.v with po := x.v.po.dec n } } := ⟨_, rfl⟩;have Vv : Ui x1 m := by rw [Ko]; exact ⟨⟨Qy.f.on, Qy.f.Ih, Qy.f.sm, Qy.f.fu, Qy.f.HP⟩, Qy.ws, Qy.Us⟩
 have xt := aJ.bw n;refine al (args := [_, _, _]) func74 rfl ntmps74 rfl rfl ?_;refine z9 ?_;refine lD (v := .pointer (some ⟨m.m.q, 0, none⟩)) bp hw ?_;refine z1 ?_;refine an rfl rQ rfl (tj (P := x.v.po) (n := n) (hw.b [gZ m.m.q x.v.po]) aJ oM) rfl fun w RD hv => ?_;rw [<-Ba, <-O7] at hv;obtain ⟨rfl, hw⟩ := hv;have hz := hw.b [gZ m.m.q _, ag b _ _, row 212 _ _ _ _, ag vq _ _, cX _ _, pI _, row 170 _ _ _ _, aT (m.m.fu.map kM)];clear hw;have hz := hz.b [ag b _ _, row 212 _ _ _ _, ag vq _ _, cX _ _, pI _, row 170 _ _ _ _, aT (m.m.fu.map kM), gZ m.m.q _];have hw : ar G (sH vq b mk x1 :: L) w := gK (x := x1) (m := m) Vv (by rw [Ko]; exact hz);clear hz;refine KA ?_;refine bY (l1 := [3, 4, 5]) (l2 := []) rfl (d := 27) (er ≠ 0 \/ 0 < lf) rfl ?_ ?_
 ·
  refine aE (d := 24) rfl (fun h1 => ?_) fun h1 => ?_
  ·
   refine z4 ?_;refine cQ ?_;exact dC
  refine z4 ?_;refine cQ ?_;exact dC
 refine aH ?_;refine aS rfl (fun h2 => ?_) fun h2 => ?_
 ·
  refine z6 ?_;exact br rfl rfl rfl (by
 by_cases hc : x.v.po.bw n = 0
 ·have e : x.dropF f n = (15, x) := by cases f with | zero => rfl | succ f => rw [Vw.dropF, ah (show x.v.bw n = 0 from hc)]
  have e1 : x1 = x := by rw [Ko]; unfold Po.dec; rw [ah hc]
  rw [e, O7, ah hc];rw [e1] at hw;exact ⟨rfl, hw⟩
 ·have O3 : ¬ x.v.po.bw n = 1 := by rw [Ba, O7, ae hc, ae hc] at h2; omega
  obtain ⟨j, rfl⟩ : ∃ j, f = j + 1 := ⟨f - 1, by have := Pk aJ (n := n); omega⟩;have e : x.dropF (j + 1) n = (0, x.act n (-1)) := by rw [Vw.dropF, ae (show ¬ x.v.bw n = 0 from hc), ah (show x.v.bw n ≠ 1 from O3)]
  have e1 : x1 = x.act n (-1) := by rw [Ko]; unfold Po.dec; rw [ae hc]; rfl
  rw [e, O7, ae hc];rw [e1] at hw;exact ⟨rfl, hw⟩)
 have hc : ¬ x.v.po.bw n = 0 := fun h => by rw [O7, ah h] at h2; exact h2 (.inl dM)
 have O3 : x.v.po.bw n = 1 := by rw [Ba, ae hc] at h2; omega
 have e1 : x1 = x.act n (-1) := by rw [Ko]; unfold Po.dec; rw [ae hc]; rfl
 obtain ⟨j0, rfl⟩ : ∃ j, f = j + 1 := ⟨f - 1, by have := Pk aJ (n := n); omega⟩;have ih : TR j0 := ih j0 rfl;obtain ⟨ID, aaq, abJ⟩ := hd.act hc;have hle : x.dropF (j0 + 1) n = Vw.dropAll (Vw.dropF j0) (x1.free n) (aA (x1.v.pg n)) := by rw [Vw.dropF, ae (show ¬ x.v.bw n = 0 from hc), ae (fun h => h O3), e1]
 rw [<-e1] at ID aaq abJ;obtain ⟨m1, Dk, hw⟩ := jB hw;obtain ⟨p0, b0, S4, -, kP, -, hS, hZ, re⟩ := DX Dk.f n hw (L := QX vq b mk x1 m1 L) pK;have xp : p0.Ok (QX vq b mk x1 m1 L) := by
  cases b0 with
  | true => exact Bm (hS rfl) (Dk.f.sm _ (hS rfl)) pK
  | false => rw [hZ rfl]; exact Nk
 have hk9 : (aA (x1.v.pg n)).length <= 9 := by
  unfold Va.pg;cases ho : x1.v.on n with
  | none => decide
  | some p => exact sW (ID.t.ck n p ho)
 refine z6 ?_;refine lD dt hw ?_;refine z1 ?_;refine zO (v0 := gQ p0.cells) rfl dP kY oL rfl rfl hw pK S4 ?_;refine an rfl sy rfl (uu (p := p0) hw xp) rfl fun w Wi hv => ?_;rw [re] at hv;obtain ⟨l, hl⟩ : ∃ l, l = aA (x1.v.pg n) := ⟨_, rfl⟩;rw [<-hl] at hv hle hk9
 obtain ⟨ka, kc, rfl⟩ := aM hv;have hw := gK Dk (hv.b [ag b _ _, row 212 _ _ _ _, ag vq _ _, cX _ _, pI _, row 170 _ _ _ _, aT (m1.m.fu.map kM), gZ m1.m.q _, row 3 1 _ _ _]);refine z7 ?_;refine an rfl o6 rfl (pO (n := n) hw ID.ok oM) rfl fun w RC hv => ?_;obtain ⟨rfl, hw⟩ := hv;obtain ⟨Bc, ade⟩ := ID.free aaq n;refine z9 ?_;refine cO (fun m e w => ∃ (j : Nat) (y : Vw), j <= l.length /\ m = l.length - j /\ e = [(0, pQ vq), (1, pQ b), (40, .slice ka l.length kc), (41, iQ l.length), (42, iQ j)] /\ (Vw.dropAll (Vw.dropF j0) (x1.free n) (l.take j) = (0, y) /\ Dr V k y /\ tot y.v.po.c <= j0) /\ ar G (sH vq b mk y :: row 3 1 (.slice ka l.length kc) l.length (bG l) :: L) w)
  (m := l.length) sB
  ⟨0, x1.free n, fo _, rfl, rfl, ⟨rfl, Bc, oM⟩, hw⟩ ?_
 rintro m e w ⟨j, y, hj, rfl, rfl, ⟨SM, Zr, hy3⟩, hw⟩;refine z5 ?_;refine aS rfl (fun h3 => ?_) fun h3 => ?_
 ·
  have hj' : j < l.length := oM;obtain ⟨kk, iX⟩ : ∃ k, l[j]? = some k := ⟨_, cV hj'⟩;have NL : (bG l)[j]? = some (iQ kk) := by simp only [bG, dB, iX]; rfl
  have ma : ∀ R, aX (row 3 1 (.slice ka l.length kc) l.length (bG l) :: R) (tF (.slice ka l.length kc) (bG l)) := fun R => Bu
  obtain ⟨bb, oo, hka⟩ := (((ma _).of sF).at hw).nn (by rw [cC]; omega);rw [hka];have hgo := Dr.drop j0 y kk Zr;refine z5 ?_;refine fk rfl bP cT rfl rfl ⟨oM, oM⟩ ?_;refine bt rfl rfl (aj.one (v := iQ kk) ai (by have h := (((ma _).of sF).at hw); rw [hka] at h; exact h.at (by rw [fQ]; exact NL))) ?_;refine z7 ?_;refine an rfl o7 rfl (@ih G _ _ vq b mk kk y V k hw Zr hk hV hy3) rfl fun w v49 hv => ?_;obtain ⟨rfl, hw⟩ := hv;refine z7 ?_;refine aS rfl (fun h4 => ?_) fun h4 => ?_
  ·
   refine z6 ?_;exact br rfl rfl rfl (by
 rw [hle];have e : Vw.dropAll (Vw.dropF j0) (x1.free n) l = y.dropF j0 kk := by
  have h5 := CV (r := l.drop j) SM;rw [qd, dG iX, Vw.dropAll, ah h4] at h5;exact h5
 rw [e];exact ⟨rfl, (hw.b [row 3 1 _ _ _]).tail⟩)
  refine z5 ?_;exact ⟨l.length - (j + 1), oM, [(0, _), (1, _), (40, _), (41, _), (42, iQ (j + 1 : Nat))], sB, j + 1, (y.dropF j0 kk).2, oM, rfl, rfl, ⟨by rw [cP iX]; exact AF SM (cJ.1 h4), hgo.1, oM⟩, by rw [<-hka]; exact hw⟩
 refine z6 ?_;exact br rfl rfl rfl (by
 rw [vN oM] at SM;rw [hle, SM];exact ⟨rfl, (hw.b [row 3 1 _ _ _]).tail⟩)
theorem pP : ∀ f, TR f
 | 0 => fun hw hd hk hV hf => II (fun j h => by cases h) hw hd hk hV hf
 | f + 1 => fun hw hd hk hV hf => II (fun j h => by cases h; exact pP f) hw hd hk hV hf
end
def Va.s0 (V : Va) (n : Int) : Int × Vw := (⟨V, []⟩ : Vw).dropF (tot V.po.c).toNat n
def Va.drop (V : Va) (n : Int) : Int × Va := if (V.s0 n).1 ≠ 0 then ((V.s0 n).1, V) else (0, V.done (V.s0 n).2)
theorem Dr.x {V : Va} (aJ : V.Ok) (n : Int) : Dr V (tot V.po.c) (V.s0 n).2 := (Dr.drop _ _ n (Dr.start aJ)).1
theorem Dr.wk {V : Va} {k : Int} {x : Vw} (aJ : V.Ok) (h : Dr V k x) (hk : k <= 4294967296) : Wk V 4294967296 x := by
 have h1 := h.ok.tot;have h2 := h.pa;have h3 := h.was;exact ⟨h.g, h.ok, oM, oM⟩
theorem Lt.drop {V : Va} (aJ : V.Ok) (n : Int) : Lt V 4294967297 (V.drop n).2 := by
 unfold Va.drop;split
 ·exact (Lt.refl aJ).mono oM
 exact Lt.done aJ ((Dr.x aJ n).wk aJ aJ.po.tot.2) (Dr.x aJ n).t oM
def nq (V : Va) (x : It) : Int × Va := if x.size <= 32 then (0, V) else V.drop x.child
theorem Lt.rel {V : Va} (aJ : V.Ok) (x : It) : Lt V 4294967297 (nq V x).2 := by
 unfold nq;split
 ·exact (Lt.refl aJ).mono oM
 exact Lt.drop aJ _
section
variable {G : Gh} {L R : List az} {w : World}
theorem vg {vq b b1 b2 : Nat} {mk n : Int} {V : Va} (hw : ar G (sH vq b mk ⟨V, []⟩ :: ag b1 [pQ vq] 28 :: ag b2 [iQ n] 3 :: L) w) (aJ : V.Ok) (dm : V.sz <= 1000000000000) :
  Calls prog 73 #[pQ b, pQ b1, pQ b2] w (dv fun r w' => r = iQ (V.s0 n).1 /\ ar G (sH vq b mk (V.s0 n).2 :: ag b1 [pQ vq] 28 :: ag b2 [iQ n] 3 :: L) w') := by
 have kA : V.po.pa.length <= 1000000000000 := by have := aJ.pf; have := aJ.vf; unfold Va.sz at dm; omega
 have XW := aJ.po.tot;refine al (args := [_, _, _]) func73 rfl ntmps73 rfl rfl ?_;refine z6 ?_;refine lD (v := pQ vq) au hw ?_;refine z1 ?_;refine lD (v := iQ n) ai hw ?_;refine an rfl o7 rfl (pP (tot V.po.c).toNat (x := ⟨V, []⟩) (n := n) hw (Dr.start aJ) oM kA (by show tot V.po.c <= _; omega)) rfl (fun w v8 hv => ?_);obtain ⟨rfl, hw⟩ := hv;refine z3 ?_;exact br rfl rfl rfl ⟨rfl, hw⟩
theorem pS {vq : Nat} {V : Va} {n : Int} (hw : ar G (aZ vq V :: L) w) (aJ : V.Ok) (dm : V.sz <= 1000000000000) :
  Calls prog 38 #[pQ vq, iQ n] w (dv fun r w' => r = iQ (V.drop n).1 /\ ar G (aZ vq (V.drop n).2 :: L) w') := by
 refine al (args := [_, _]) func38 rfl ntmps38 rfl rfl ?_;refine z2 ?_;refine bE rfl rfl rfl hw rfl fun w b2 hw => ?_;refine bE rfl rfl rfl hw rfl fun w b3 hw => ?_;refine z4 ?_;refine lD (v := pQ vq) au hw ?_;refine mO (v1 := #[]) (v2 := #[pQ b2, pQ b3]) rfl (by intro z hz; simp at hz; rcases hz with rfl | rfl <;> exact ⟨_, rfl⟩) sM (by simp only [oS, cG, j3]; rfl) ?_;refine an rfl gb rfl (gE (fn := 73) (caps := #[pQ b2, pQ b3]) (Q := fun e x L' => e = (V.s0 n).1 /\ x = (V.s0 n).2 /\ L' = ag b2 [pQ vq] 28 :: ag b3 [iQ n] 3 :: L) (hw.b [aZ vq V, ag b2 _ _, ag b3 _ _]) aJ dm uB (fun w b hw => ik (vg hw aJ dm) (fun r w' h => by
 have Fe := (Dr.x aJ n).wk aJ aJ.po.tot.2;exact ⟨_, _, _, h.1, Fe.g, Fe.ok, by have := Fe.sz; omega, by have := Fe.was; omega, ⟨rfl, rfl, rfl⟩, h.2⟩))) rfl (fun w v7 hv => ?_)
 obtain ⟨er, x, L', rfl, -, ⟨rfl, rfl, rfl⟩, bQ⟩ := hv;refine z3 ?_;exact br rfl rfl rfl (by
 by_cases h1 : (V.s0 n).1 = 0
 ·have hw := (bQ.resolve_left (fun h => h.1 h1)).2;have e : V.drop n = (0, V.done (V.s0 n).2) := by unfold Va.drop; rw [ae (fun h => h h1)]
  rw [e, h1];exact ⟨rfl, (hw.b [ag b2 _ _, ag b3 _ _]).tail.tail⟩
 ·have hw := (bQ.resolve_right (fun h => h1 h.1)).2;have e : V.drop n = ((V.s0 n).1, V) := by unfold Va.drop; rw [ah h1]
  rw [e];exact ⟨rfl, (hw.b [ag b2 _ _, ag b3 _ _]).tail.tail⟩)
theorem uT {vq : Nat} {V : Va} {x : bT} (hw : ar G (aZ vq V :: L) w) (aJ : V.Ok) (dm : V.sz <= 1000000000000) :
  Calls prog 88 #[pQ vq, gQ x.cells] w (dv fun r w' => r = iQ (nq V x.it).1 /\ ar G (aZ vq (nq V x.it).2 :: L) w') := by
 refine al (args := [_, _]) func88 rfl ntmps88 rfl rfl ?_;refine z2 ?_;refine bE rfl rfl rfl hw rfl fun w b3 hw => ?_;refine z6 ?_;refine lD (v := iQ x.it.size) ai hw ?_;refine z2 ?_;refine aS rfl (fun h1 => ?_) fun h1 => ?_
 ·
  refine z5 ?_;exact br rfl rfl rfl (by
 have e : nq V x.it = (0, V) := by unfold nq; rw [ah h1]
 rw [e];exact ⟨rfl, (hw.b [ag b3 _ _]).tail⟩)
 refine z5 ?_;refine lD (v := iQ x.it.child) ai hw ?_;refine an rfl o9 rfl (pS (n := x.it.child) (hw.b [aZ vq V]) aJ dm) rfl fun w v11 hv => ?_;obtain ⟨rfl, hw⟩ := hv;refine z3 ?_;exact br rfl rfl rfl (by
 have e : nq V x.it = V.drop x.it.child := by unfold nq; rw [ae h1]
 rw [e];exact ⟨rfl, (hw.b [ag b3 _ _]).tail⟩)
end
def Po.settle (P : Po) : Po := ⟨P.refs, P.c, ED P.c, [], P.mark⟩
theorem Po.Bn {P : Po} (h : P.Ok) : P.settle.Ok := by
 refine ⟨h.len, Lh, h.refs, (fun a ha => by cases ha), fun k hk x hx => ?_⟩;have e : lP P.c (([] : List (Int × Int)).drop k) = P.c := by rw [List.drop_nil]; rfl
 have TZ : x ∈ lP P.c (([] : List (Int × Int)).drop k) := hx;rw [e] at TZ;exact h.mem x TZ
def gM (P : Po) (s : Int) (k : Nat) : List Int := ((List.range k).map fun i : Nat => (i : Int) + 1).filter fun n => decide (P.st n = s)
theorem CD (P : Po) (s : Int) (k : Nat) : gM P s (k + 1) = gM P s k ++ if P.st ((k : Int) + 1) = s then [(k : Int) + 1] else [] := by
 unfold gM;rw [List.range_succ, il, G3]
 congr 1
 by_cases h : P.st ((k : Int) + 1) = s <;> simp [h]
theorem EJ (P : Po) (s : Int) (k : Nat) : (gM P s k).length <= k := by
 have := Nh (fun n => decide (P.st n = s)) ((List.range k).map fun i : Nat => (i : Int) + 1);rw [bA, R0] at this;exact this
theorem EI {P : Po} {s : Int} {k : Nat} {n : Int} : n ∈ gM P s k ↔ P.st n = s /\ 1 <= n /\ n <= k := by
 unfold gM;rw [G1, dd]
 constructor
 ·rintro ⟨⟨i, hi, rfl⟩, h⟩;rw [sL] at hi;exact ⟨by simpa using h, oM, oM⟩
 rintro ⟨h1, h2, h3⟩;exact ⟨⟨(n - 1).toNat, by rw [sL]; omega, oM⟩, by simpa using h1⟩
def acQ (l : List Int) (k : Nat) (args : List Value) (_ : List az) : Prop := ∃ n, l[k]? = some n /\ args = [iQ n]
section
variable {G : Gh} {L R : List az} {w : World}
theorem Hz {q : Nat} {P : Po} (hw : ar G (gZ q P :: L) w) (aJ : P.Ok) (MS : 0 <= P.pf /\ P.pf + P.pa.length <= 1000000000000000) : Calls prog 76 #[pQ q] w (dv fun u w' => u = .tuple #[] /\ ar G (gZ q P.settle :: L) w') := by
 obtain ⟨m, hf, hw⟩ := jH hw;obtain ⟨a, c, CS⟩ := aM (hw.pick (A := row 227 1 m.av _ _) pK);have IA : ∀ x ∈ P.c, 0 <= x := fun x hx => (aJ.mem x hx).1
 refine ik (pU (p := H9 P m (HW P.c P.l)) hw ⟨a, c, CS⟩ MS aJ.len aJ.last IA) fun v w' h => ⟨h.1, ?_⟩
 obtain ⟨-, fq, fv, hz⟩ := h;obtain ⟨h1, h2⟩ := FA P.c.length P.c rfl;refine fT (P := P.settle) (m := ⟨m.cv, m.lv, fq, fv, nQ, gV P.c, []⟩) ⟨rfl, h1, fun n => ?_⟩ ?_
 ·rw [h2]; exact (KN IA).symm
 have e : ∀ k, ri k P.c (P.c.map fun x => decide (0 < x)) = lU P.c k := fun k => Gb k P.c
 have h3 := xe (c := P.c) (k := 2) dM dM;have h4 := xe (c := P.c) (k := 3) dM dM;have ep : H9 P.settle ⟨m.cv, m.lv, fq, fv, nQ, gV P.c, []⟩ (HW P.settle.c P.settle.l) = { H9 P m (HW P.c P.l) with last := P.c.map (fun x => decide (0 < x)), fr := some ⟨fq, 0, none⟩, t0 := 0, t1 := lU P.c 1, t2 := 0, t3 := 0, t4 := lU P.c 4, av := nQ, na := 0, floor := P.pf + P.pa.length } := by
  simp only [H9, Po.settle, HW, ED, e, h3, h4, Po.mark];simp
 have hz := ar.bH (M := []) (cf hz 227 1);have hz := hz.b [ag q _ _, row 3 _ _ _ _, row 4 _ _ _ _, ag fq _ _, row 232 2 fv _ _, row 227 1 (nQ) _ _, aT [], ag m.fq _ _, row 232 2 m.fv _ _, row 227 1 m.av _ _, aT _];have hz := hz.b [ag m.fq _ _, row 232 2 m.fv _ _, row 227 1 m.av _ _];have hz := (hz.tail.tail.tail).b [ag q _ _, row 3 _ _ _ _, row 4 _ _ _ _, ag fq _ _, row 232 2 fv _ _, row 227 1 (nQ) _ _, aT []];have hz := ar.drop hz (.there (.there (.there (.there (.there (.there (.there .here)))))));unfold QZ;rw [ep];exact hz
theorem zp {q : Nat} {P : Po} {s : Int} (hw : ar G (gZ q P :: L) w) (aJ : P.Ok) : Calls prog 75 #[pQ q, iQ s] w (dv fun u w' => ∃ b v, u = .func (.func 134) #[] #[pQ b] /\ ar G (ag b [v] 22 :: row 3 1 v (gM P s P.c.length).length (bG (gM P s P.c.length)) :: gZ q P :: L) w') := by
 obtain ⟨m, hf, hw⟩ := jH hw;have hN := aJ.len;obtain ⟨ca, cc, hcv⟩ := aM (hw.pick (A := row 3 1 m.cv _ _) pK);refine al (args := [_, _]) func75 rfl ntmps75 rfl rfl ?_;refine z6 ?_;refine aN rfl Kz hw rfl fun w b5 hw => ?_;refine z7 ?_;refine bt rfl rfl (aj.bx (v := .slice ca P.c.length cc) dU hw pK (by rw [<-hcv]; rfl)) ?_;refine z4 ?_;have hw := fT hf (hw.b [ag q _ _, row 3 1 m.cv P.c.length (bG P.c), row 4 _ _ _ _, ag m.fq _ _, row 232 _ _ _ _, row 227 _ _ _ _, Ia q m.fu]);have hw := cf hw 3 1;have hz := hw.b [ag b5 _ _, row 3 1 (nQ) _ _, gZ q P];clear hw;have hw := hz;clear hz;refine cO (fun m e w => ∃ (k : Nat) (v : Value), k <= P.c.length /\ m = P.c.length - k /\ e = [(0, pQ q), (1, iQ s), (5, pQ b5), (11, iQ P.c.length), (12, iQ k)] /\ ar G (ag b5 [v] 22 :: row 3 1 v (gM P s k).length (bG (gM P s k)) :: gZ q P :: L) w)
  (m := P.c.length) sB
  ⟨0, _, fo _, rfl, rfl, hw⟩ ?_
 rintro m e w ⟨k, v, hk, rfl, rfl, hw⟩;obtain ⟨va, vc, rfl⟩ := aM (hw.pick (A := row 3 1 v _ _) pK);have kA := EJ P s k;refine z5 ?_;refine aS rfl (fun h1 => ?_) fun h1 => ?_
 ·
  refine Zc ?_;refine an rfl fI rfl (ur (n := (k : Int) + 1) (hw.b [gZ q P]) aJ) rfl fun w TV hv => ?_;obtain ⟨rfl, hw⟩ := hv;refine z3 ?_;refine aS rfl (fun h2 => ?_) fun h2 => ?_
  ·
   have gD : gM P s (k + 1) = gM P s k ++ [(k : Int) + 1] := by rw [CD, ah h2]
   refine z1 ?_;refine lD (v := .slice va (gM P s k).length vc) dU hw ?_;refine z2 ?_;refine hY (cs := [iQ ((k : Int) + 1)]) rfl bP cT k9 dM rfl rfl rfl hw rfl fun w b24 hw => ?_;refine gP (m := (gM P s k).length) (k := 1) (news := [iQ ((k : Int) + 1)]) rfl bP cT qR k9 rfl rfl hw pK (Rd.nP hw pK) rfl (by intro u hu; simp at hu; subst hu; rfl) mL oM rfl (fun w v25 hw => ?_);obtain ⟨na, nc, rfl⟩ := aM hw;refine bS (l' := [.slice na ((gM P s k).length + 1) nc]) rfl tV rfl rfl dU rfl hw pK rfl rfl rfl fun w hw => ?_;refine z5 ?_;have e1 : bG (gM P s k) ++ [iQ ((k : Int) + 1)] = bG (gM P s (k + 1)) := by rw [gD]; simp [bG]
   have e2 : (gM P s k).length + 1 = (gM P s (k + 1)).length := by rw [gD]; simp
   rw [e1, e2] at hw;exact ⟨P.c.length - (k + 1), oM, [(0, _), (1, _), (5, _), (11, _), (12, iQ (k + 1 : Nat))], sB, k + 1, _, oM, rfl, rfl, (hw.b [ag b24 _ _, ag b5 _ _, row 3 1 (.slice na _ nc) _ _, gZ q P]).tail⟩
  refine z5 ?_;have gD : gM P s (k + 1) = gM P s k := by rw [CD, ae h2, my]
  (try unfold sQ at hw); rw [<-gD] at hw
  exact ⟨P.c.length - (k + 1), oM, [(0, _), (1, _), (5, _), (11, _), (12, iQ (k + 1 : Nat))], sB, k + 1, .slice va (gM P s (k + 1)).length vc, oM, rfl, rfl, hw.b [ag b5 _ _, row 3 1 (.slice va _ vc) _ _, gZ q P]⟩
 have wg : k = P.c.length := oM;subst wg;refine z3 ?_;refine mO (v1 := #[]) (v2 := #[pQ b5]) rfl (by intro z hz; simp at hz; subst hz; exact ⟨_, rfl⟩) sM (by simp only [oS, cG, j3]; rfl) ?_;refine z3 ?_;exact br rfl rfl rfl ⟨b5, _, rfl, hw⟩
theorem SF {b : Nat} {v : Value} {l : List Int} (oW : l.length <= 1000000000) : A8 prog 134 [pQ b] G (ag b [v] 22 :: row 3 1 v l.length (bG l) :: L) w l.length (acQ l) (ag b [v] 22 :: row 3 1 v l.length (bG l) :: L) := by
 intro lq J Jx w hy hw;obtain ⟨va, vc, rfl⟩ := aM (hw.pick (A := row 3 1 v _ _) pK);refine al (args := [_, _]) func134 rfl ntmps134 rfl rfl ?_;refine z2 ?_;refine lD (v := .slice va l.length vc) dU hw ?_;refine z4 ?_;refine cO (fun m e w => ∃ k : Nat, k <= l.length /\ m = l.length - k /\ e = [(0, .func (.yield lq) #[] #[]), (5, .slice va l.length vc), (6, iQ l.length), (7, iQ k)] /\ ar G (J k :: ag b [.slice va l.length vc] 22 :: row 3 1 (.slice va l.length vc) l.length (bG l) :: L) w)
  (m := l.length) sB
  ⟨0, fo _, rfl, rfl, hw⟩ ?_
 rintro m e w ⟨k, hk, rfl, rfl, hw⟩;refine z5 ?_;refine aS rfl (fun h1 => ?_) fun h1 => ?_
 ·
  have nS : k < l.length := oM;obtain ⟨n, hn⟩ : ∃ n, l[k]? = some n := ⟨_, cV nS⟩;have Yp : (bG l)[k]? = some (iQ n) := by simp [bG, hn]
  have ma : ∀ R, aX (row 3 1 (.slice va l.length vc) l.length (bG l) :: R) (tF (.slice va l.length vc) (bG l)) := fun R => Bu
  obtain ⟨bb, oo, XU⟩ := (((ma _).of sF).at hw).nn (by rw [cC]; omega);cases XU;refine z5 ?_;refine fk rfl bP cT rfl rfl ⟨oM, oM⟩ ?_;refine bt rfl rfl (aj.one (v := iQ n) ai ((((ma _).of sF).at hw).at (by rw [fQ]; exact Yp))) ?_;refine z6 ?_;refine p9 rfl rfl rfl (hy k _ _ w nS ⟨n, hn, rfl⟩ hw) rfl fun w Xm hv => ?_;obtain ⟨bq, rfl, ue, Be⟩ := oN hv;refine nY rfl rfl ?_;refine aH ?_;refine fm rfl (fun h2 => ?_) fun h2 => ?_
  ·
   refine rm ?_;exact j7 rfl rfl (.inr (Be (by simpa using h2)))
  refine z5 ?_;have hz := ue (by simpa using h2);exact ⟨l.length - (k + 1), oM, [(0, _), (5, _), (6, _), (7, iQ (k + 1 : Nat))], sB, k + 1, oM, rfl, rfl, hz⟩
 refine z1 ?_;exact j7 rfl rfl (.inl (by
 have wg : k = l.length := oM;subst wg; exact hw))
end
def rK (on : Int -> Option Pg) (l : List Int) : Int -> Option Pg := fun n => if n ∈ l then none else on n
def Va.settle (V : Va) : Va := ⟨V.po.settle, rK V.on (gM V.po 2 V.po.c.length), [], V.mark⟩
theorem NX (on : Int -> Option Pg) (l : List Int) (n : Int) : rK on (l ++ [n]) = rz (rK on l) n none := by
 funext k
 unfold rK rz
 by_cases h : k = n
 ·simp [h]
 simp [h]
theorem Va.Bn {V : Va} (h : V.Ok) : V.settle.Ok := by
 have hb : V.settle.Km := by
  refine ⟨Po.Bn h.po, ?_, ?_, fun n p hp => ?_, fun n hn => ?_, (fun a ha => by cases ha), (fun a ha => by cases ha)⟩
  ·have := h.pf; show 0 <= V.po.mark; unfold Po.mark; omega
  ·have := h.vf; show 0 <= V.mark; unfold Va.mark; omega
  ·have hp : rK V.on _ n = some p := hp;unfold rK at hp;split at hp
   ·cases hp
   exact h.on n p hp
  have hn : V.po.bw n ≠ 0 := hn
  show rK V.on _ n ≠ none
  unfold rK;split
  ·rename_i hm;have hs := (EI.1 hm).1;have hc := h.po.bw n;unfold Po.st rZ at hs;unfold Po.bw iF at hn hc
   split at hs
   ·rename_i ht;rw [ah ht] at hn hc;split at hs
    ·split at hs <;> omega
    omega
   omega
  exact h.th n hn
 exact ⟨hb, fun k hk => by
  have hk : k <= 0 := hk;rw [show k = 0 by omega]; exact hb⟩
theorem Va.PC {V : Va} (h : V.Ok) : V.settle.sz = V.sz := by
 show V.po.mark + (0 : Nat) + V.mark + (0 : Nat) = _
 unfold Po.mark Va.mark Va.sz; omega
section
variable {G : Gh} {L R : List az} {w : World}
theorem u9 {vq : Nat} {V : Va} (hw : ar G (aZ vq V :: L) w) (aJ : V.Ok) (dm : V.sz <= 1000000000000) : Calls prog 39 #[pQ vq] w (dv fun r w' => r = .tuple #[] /\ ar G (aZ vq V.settle :: L) w') := by
 have MS := aJ.pf;have Vk := aJ.vf;have hN := aJ.po.len;refine al (args := [_]) func39 rfl ntmps39 rfl rfl ?_;refine z2 ?_;refine bE rfl rfl rfl hw rfl fun w b1 hw => ?_;refine z2 ?_;refine bu [0, 1, 2, 3, 4, 5, 6, 7, 8, 9] bK kR ?_;replace hw := hw.drawn (w.drawn + 1);refine lD (v := pQ vq) au hw ?_;refine lD (v := pQ vq) au hw ?_;refine lD (v := pQ vq) au hw ?_;refine dL rfl fg rfl (fH (hw.b [aZ vq V]) (by unfold Va.sz at dm; omega)) (fun w v6 hv q' hq => ?_) (fun w v6 hv => ?_)
 ·
  obtain ⟨rfl, hw⟩ := hv;have hq := a9 (l := [1, 0]) kR hq;simp only [bB, cW, or_false] at hq;rcases hq with rfl | rfl
  ·exact aV rfl rfl rfl (aj.bx (v := pQ vq) au hw pK rfl)
  exact aV rfl rfl rfl (aj.bx (v := pQ vq) au hw pK rfl)
 obtain ⟨rfl, hw⟩ := hv;obtain ⟨m, hf, hw⟩ := lg hw;refine z2 ?_;refine rW (l' := Wh m.q m.om m.av V.mark) rfl tV rfl rfl ai rfl hw pK rfl rfl (fun w hw q' hq => ?_) fun w hw => ?_
 ·
  have hq := a9 (l := [1]) kR hq;simp only [bB, cW, or_false] at hq;subst hq;exact aV rfl rfl rfl (aj.bx (v := pQ vq) au hw pK rfl)
 refine z2 ?_;refine bS (l' := Wh m.q m.om (nQ) V.mark) rfl tV rfl rfl ez rfl hw pK rfl rfl kR fun w hw => ?_;refine z4 ?_;refine lD (v := pQ vq) au hw ?_;refine z2 ?_;refine lD (v := .pointer (some ⟨m.q, 0, none⟩)) bp hw ?_;refine an rfl x7 rfl (zp (P := V.po) (s := 2) (hw.b [gZ m.q V.po]) aJ.po) rfl fun w Uv hv => ?_;obtain ⟨c, cv, rfl, hw⟩ := hv;obtain ⟨l, hl⟩ : ∃ l, l = gM V.po 2 V.po.c.length := ⟨_, rfl⟩
 (try unfold sQ at hw); rw [<-hl] at hw
 have oW : l.length <= 65536 := by rw [hl]; have := EJ V.po 2 V.po.c.length; omega
 obtain ⟨m1, Dk⟩ : ∃ m1 : N9, m1 = ⟨m.q, m.om, nQ, m.on, m.S, []⟩ := ⟨_, rfl⟩;obtain ⟨W, hW⟩ : ∃ W : Nat -> Va, W = fun k => { V with vf := V.mark, va := [], on := rK V.on (l.take k) } := ⟨_, rfl⟩
 refine z2 ?_;have hz := hw.b [row 170 2 m.av _ _, aT (m.fu.map kM), ag b1 _ _, ag vq _ _, cX _ _, pI _, gZ _ _, ag c _ _, row 3 1 cv _ _];have hz := hz.tail.tail;clear hw;have hw : ar G (ZK vq b1 (W 0) m1 :: ag c [cv] 22 :: row 3 1 cv l.length (bG l) :: L) w := A2 (on := m.on) (by rw [hW, Dk]; exact ⟨fun n => by rw [hf.on]; simp [rK], hf.Ih, hf.sm⟩) (by rw [hW, Dk]; exact hz);refine ru (e₀ := [(1, pQ b1)]) (fun k => ZK vq b1 (W k) m1) (fun _ => False) [] rfl vm rfl sG rfl hw (fun k args M h => by obtain ⟨x, _, rfl⟩ := h; rfl) (SF oM) ?_ ?_ ?_ ?_
 ·
  clear hw;intro l D1 o k args M w hk pD hw;obtain ⟨n, hn, rfl⟩ := pD;obtain ⟨on, L2, hw⟩ := D9 hw;have GQ := yY hw (m := m1.om) (kv := og on) pK;have gD : W (k + 1) = { W k with on := rz (W k).on n none } := by rw [hW]; simp only [cP hn, NX]
  refine z3 ?_;refine ⟨_, hw.pick (A := pt l o) pK, fun o' w hw => ?_⟩;refine z2 ?_;refine lD (v := pQ vq) au hw ?_;refine z2 ?_;refine lD (v := .map (some m1.om)) dt hw ?_;refine z1 ?_;refine Rw rfl tV rfl dP kY rfl rfl hw pK rfl fun w hw => ?_;refine aH ?_;obtain ⟨zE, xr, sg⟩ := Jq GQ (n := n)
  (try unfold sQ at hw); rw [<-xr] at hw
  have hz := hw.b [ag b1 _ _, ag vq _ _, cX _ _, pI _, gZ _ _];refine A2 (on := zE) ⟨?_, ?_, L2.sm⟩ (by rw [gD]; exact hz)
  ·intro k2;rw [gD]
   show (xK zE k2).map bm.pg = rz (W k).on n none k2
   rw [sg]; unfold rz;split
   ·rfl
   exact L2.on k2
  intro k2 q hq;have hq : xK zE k2 = some q := hq;rw [sg] at hq;split at hq
  ·cases hq
  exact L2.Ih k2 q hq
 ·
  clear hw;intro D1 w hw;obtain ⟨on, L2, hw⟩ := D9 hw;refine z1 ?_;refine lD (v := pQ vq) au hw ?_;refine z2 ?_;refine lD (v := .pointer (some ⟨m1.q, 0, none⟩)) bp hw ?_;refine an rfl pj rfl (Hz (P := V.po) (by have hz := hw.b [gZ m1.q _]; rw [hW] at hz; exact hz) aJ.po (by unfold Va.sz at dm; omega)) rfl (fun w v26 hv => ?_);obtain ⟨rfl, hw⟩ := hv;refine aH ?_;refine bX rfl ?_;refine iq hw pK fun w hw => ?_;exact y7 rfl ⟨rfl, by
 have hz := hw.b [ag c _ _, row 3 1 cv _ _, ag b1 _ _, ag vq _ _, cX _ _, pI _, gZ _ _];have hz := hz.tail.tail.tail;have hz := (ar.bH (M := ([] : List QW).map kM) (cf hz 170 2));have hz := hz.b [ag vq _ _, cX _ _, pI _, row 170 2 _ _ _, aT _, gZ _ _];rw [Dk] at L2 hz;rw [hW] at L2
 refine ie (V := V.settle) (m := ⟨m.q, m.om, nQ, on, m.S, []⟩) ⟨fun n => ?_, L2.Ih, L2.sm, rfl, (fun a ha => by cases ha)⟩ hz;have h1 := L2.on n;have e : rK V.on (l.take l.length) = V.settle.on := by rw [uZ, hl]; rfl
 have h2 : (xK on n).map bm.pg = rK V.on (l.take l.length) n := h1;rw [e] at h2;exact h2⟩
 ·
  clear hw; intro D w hw; exact (iA hw).elim fun _ h => h.1.elim
 intro id A hA; cases hA
end
def y0 (p q : Pg) (b : Bool) : Prop := ((p.kind = 1 \/ p.kind = 2) /\ p.kind = q.kind /\ p.level = q.level) /\ (if b = true then 2 <= p.items.length /\ 1 <= q.items.length /\ q.items.length < 8 else 2 <= q.items.length /\ 1 <= p.items.length /\ p.items.length < 8)
instance (p q : Pg) (b : Bool) : Decidable (y0 p q b) := by unfold y0; infer_instance
def jm (p q : Pg) (sep : bN) (b : Bool) : Option (Pg × Pg × bN) := if y0 p q b then jz p q (jF p q sep) (if b = true then p.items.length - 1 else p.items.length + 1) else none
theorem mQ {p q : Pg} {sep : bN} {b : Bool} (h : ¬ y0 p q b) : jm p q sep b = none := by unfold jm; rw [ae h]
section
variable {G : Gh} {L R : List az} {w : World}
theorem DG {p : bm} {x : bT} {at_ : Nat} (hw : ar G L w) (hp : p.Ok L) (tC : Cl p.s) (hx : x.Ok L) (h8 : p.l.length <= 1000000) : Calls prog 87 #[gQ p.cells, iQ at_, gQ x.cells] w (dv fun r w' =>
  (¬ at_ < p.l.length /\ r = .tuple #[gQ bI.cells, .bool false] /\ ar G L w') ∨
  (at_ < p.l.length /\ ∃ p' : bm, r = .tuple #[gQ p'.cells, .bool true] /\ p'.pg = { p.pg with items := p.pg.items.take at_ ++ [x.it] ++ p.pg.items.drop (at_ + 1) } /\ p'.Sm /\ ar G (aR p' :: L) w')) := by
 obtain ⟨a1, c1, a2, c2, hs, hd, gJ⟩ := hp.form hw;have iE := hp.its;rw [hs] at iE;have LQ := tC;rw [hs] at LQ
 refine al (args := [_, _, _]) func87 rfl ntmps87 rfl rfl ?_;refine z2 ?_;refine bE rfl rfl rfl hw rfl fun w b3 hw => ?_;refine bE rfl rfl rfl hw rfl fun w b5 hw => ?_;refine aN rfl bf hw rfl fun w b6 hw => ?_;refine z8 ?_;refine bY (l1 := [3, 4, 5, 6, 7, 8]) (l2 := []) rfl (d := 18) ((p.l.length : Int) <= at_) rfl ?_ ?_
 ·
  refine aE (d := 12) rfl (fun h1 => ?_) fun h1 => ?_
  ·
   refine z7 ?_;refine cQ ?_;exact dC
  refine z2 ?_;refine bt rfl rfl (aj.bx (v := .slice a1 p.l.length c1) ao hw pK (by rw [gJ]; rfl)) ?_;refine dQ rfl kR aG rfl ?_;refine z3 ?_;refine cQ ?_;exact dC
 refine aH ?_;refine aS rfl (fun h2 => ?_) fun h2 => ?_
 ·
  refine z2 ?_;refine aQ (v := gQ bI.cells) rfl rfl (fun w => kR) ?_;refine aL (cs := bI.cells) (l' := bI.cells) rfl tV rfl rfl ad rfl bF hw pK (by simp [bI, bm.cells]) rfl rfl fun w hw => ?_;refine z3 ?_;exact eK rfl rfl ⟨_, rfl, (aj.cw ad hw pK rfl)⟩ rfl (.inl ⟨oM, rfl, (by repeat (first | exact hw | replace hw := hw.tail))⟩)
 refine z4 ?_;refine bt rfl rfl (aj.bx (v := .slice a1 p.l.length c1) ao hw pK (by rw [gJ]; rfl)) ?_;refine z1 ?_;refine an rfl nN rfl (oJ (l := p.l) hw (iE.of sF) LQ oM) rfl fun w MN hv => ?_;obtain ⟨va, vb, rfl, CN, G8, hw⟩ := hv;obtain ⟨aa, ac, rfl, -, -⟩ := ((CN.of sF).sl.at hw).form;obtain ⟨ba, bc, rfl, -, -⟩ := ((G8.of sF).sl.at hw).form;obtain ⟨ID, Bc, hd3⟩ := ((G8.of sF).sl.at hw).I';have NP : ((p.l.drop at_).map bT.cells).length = p.l.length - at_ := by rw [bA, iC]
 refine z7 ?_;refine bu [0, 1, 2, 4, 5, 3, 6, 7, 8, 9] bK kR ?_;replace hw := hw.drawn (w.drawn + 1);refine lA (l := p.cells) ad hw ?_;refine z1 ?_;refine lA (l := x.cells) aI hw ?_;refine z1 ?_;refine I1 rfl aG aY rfl rfl ⟨oM, oM⟩ oM (fun h => Bc oM) fun TT acF acE => ?_;have XZ : kZ _ TT ((p.l.drop at_).drop 1) := G8.drop (j := 1) (by rw [iC]; omega) acF acE;obtain ⟨da, dc, rfl, -, -⟩ := ((XZ.of sF).sl.at hw).form;refine vA (cs := x.cells) rfl aG aY mM dM rfl rfl rfl hw (fun w W3 hw q' hq => ?_) fun w W3 hw => ?_
 ·
  have hq := a9 (l := [0]) kR hq;simp only [bB, cW, or_false] at hq;subst hq;exact aV rfl rfl rfl (aj.cw (l := p.cells) ad hw pK rfl)
 refine Ry (cs := [.slice aa ((p.l.take at_).map bT.cells).length ac, sQ W3 1 1, .slice da (((p.l.drop at_).drop 1).map bT.cells).length dc]) rfl eF gw oy dM rfl kR hw (fun w Y5 hw q' hq => ?_) fun w Y5 hw => ?_
 ·
  have hq := a9 (l := [0]) kR hq;simp only [bB, cW, or_false] at hq;subst hq;exact aV rfl rfl rfl (aj.cw (l := p.cells) ad hw pK rfl)
 refine an rfl jj rfl (j9 (p := p) (pcs := [(.slice aa ((p.l.take at_).map bT.cells).length ac, p.l.take at_), (sQ W3 1 1, [x]), (.slice da (((p.l.drop at_).drop 1).map bT.cells).length dc, (p.l.drop at_).drop 1)]) hw (hp.of sF) ((tL (cs := [.slice aa ((p.l.take at_).map bT.cells).length ac, sQ W3 1 1, .slice da (((p.l.drop at_).drop 1).map bT.cells).length dc])).head _) (by
 intro y hy;simp only [bB, cW, or_false] at hy;rcases hy with rfl | rfl | rfl
 ·exact CN.of sF
 ·exact ⟨((Oy (r := x.cells) rfl).head _).of sF, (fun z hz => by simp at hz; subst hz; exact hx.of sF), by simp⟩
 ·exact XZ.of sF) sM (by
 intro y hy;simp only [bB, cW, or_false] at hy;rcases hy with rfl | rfl | rfl
 ·simp only [fK]; omega
 ·simp
 ·simp only [iC]; omega)) kR (fun w Zi hv => ?_)
 obtain ⟨p', rfl, D3, ft, hw⟩ := hv;refine aL (cs := p'.cells) (l' := p'.cells) rfl tV rfl rfl ad rfl (cF (aB ft pK) hw) hw pK (by simp [bm.cells]) rfl kR fun w hw => ?_;refine z3 ?_;exact eK rfl rfl ⟨_, rfl, (aj.cw ad hw pK rfl)⟩ rfl (.inr ⟨oM, p', rfl, by rw [D3]; simp [bm.pg], ft, (hw.b [ag b6 _ _, ag b3 _ _, ag b5 _ _, ag W3 _ _, ag Y5 _ _]).tail.tail.tail.tail.tail⟩)
theorem Lw {p q pl pr : bm} {sep : bN} {b bo : Bool} {jY : Value} {L' : List az} (iu : (jm p.pg q.pg sep b = none /\ pl = bI /\ pr = bI /\ jY = nQ /\ bo = false /\ L' = L) \/ (∃ s, jm p.pg q.pg sep b = some (pl.pg, pr.pg, s) /\ bo = true /\ pl.Sm /\ pr.Sm /\ L' = aR pl :: aR pr :: row 5 1 jY s.length (dV s) :: L)) (hw : ar G L' w) :
  (jm p.pg q.pg sep b = none /\ (Value.tuple #[gQ pl.cells, gQ pr.cells, jY, .bool bo]) = .tuple #[gQ bI.cells, gQ bI.cells, nQ, .bool false] /\ ar G L w) ∨
    (∃ (pl' pr' : bm) (s : bN) (sv' : Value), jm p.pg q.pg sep b = some (pl'.pg, pr'.pg, s) /\ (Value.tuple #[gQ pl.cells, gQ pr.cells, jY, .bool bo]) = .tuple #[gQ pl'.cells, gQ pr'.cells, sv', .bool true] /\ pl'.Sm /\ pr'.Sm /\ ar G (aR pl' :: aR pr' :: row 5 1 sv' s.length (dV s) :: L) w) := by
 rcases iu with ⟨h3, rfl, rfl, rfl, rfl, rfl⟩ | ⟨s, h3, rfl, h5, h6, rfl⟩
 ·exact .inl ⟨h3, rfl, hw⟩
 exact .inr ⟨pl, pr, s, jY, h3, rfl, h5, h6, hw⟩
theorem AQ {p q : bm} {sv : Value} {sep : bN} {b : Bool} (hw : ar G L w) (hp : p.Ok L) (hq : q.Ok L) (ks : aX L (kL sv sep)) (GO : bz sep) (WI : p.l.length <= 1000) (hqn : q.l.length <= 1000) :
  Calls prog 180 #[gQ p.cells, gQ q.cells, sv, .bool b] w (dv fun r w' => (jm p.pg q.pg sep b = none /\ r = .tuple #[gQ bI.cells, gQ bI.cells, nQ, .bool false] /\ ar G L w') ∨
   (∃ (pl pr : bm) (s : bN) (jY : Value), jm p.pg q.pg sep b = some (pl.pg, pr.pg, s) /\ r = .tuple #[gQ pl.cells, gQ pr.cells, jY, .bool true] /\ pl.Sm /\ pr.Sm /\ ar G (aR pl :: aR pr :: row 5 1 jY s.length (dV s) :: L) w')) := by
 obtain ⟨a1, c1, a2, c2, q9, ID, JS⟩ := hp.form hw;obtain ⟨b1, d1, b2, d2, vw, Bc, Tk⟩ := hq.form hw;have kA : p.pg.items.length = p.l.length := by simp [bm.pg]
 have MR : q.pg.items.length = q.l.length := by simp [bm.pg]
 have hpk : p.pg.kind = p.kind /\ p.pg.level = p.level := ⟨rfl, rfl⟩;have hqk : q.pg.kind = q.kind /\ q.pg.level = q.level := ⟨rfl, rfl⟩;refine al (args := [_, _, _, _]) func180 rfl ntmps180 rfl rfl ?_;refine z2 ?_;refine bE rfl rfl rfl hw rfl fun w b4 hw => ?_;refine bE rfl rfl rfl hw rfl fun w b5 hw => ?_;refine aN rfl bf hw rfl fun w b8 hw => ?_;refine aN rfl bf hw rfl fun w b9 hw => ?_;refine z4 ?_;refine bu [0, 1, 2, 3, 4, 5, 6, 7] bK kR ?_;replace hw := hw.drawn (w.drawn + 1);refine z1 ?_;refine bt rfl rfl (aj.bx (v := .slice a1 p.l.length c1) ao hw pK (by rw [JS]; rfl)) ?_;refine z2 ?_;refine bt rfl rfl (aj.bx (v := .slice b1 q.l.length d1) ao hw pK (by rw [Tk]; rfl)) ?_;refine z17 ?_;refine fm rfl (fun h1 => ?_) fun h1 => ?_
 ·
  refine yb ?_;refine lA (l := p.cells) ad hw ?_;refine lA (l := q.cells) ad hw ?_;refine an rfl l7 rfl (mF (p := p) (q := q) hw) rfl fun w v30 hv => ?_;obtain ⟨rfl, hw⟩ := hv;refine jX rfl rfl ?_;refine z1 ?_;refine aE (d := 32) rfl (fun h2 => ?_) fun h2 => ?_
  ·
   refine KA ?_;refine eg rfl ?_;refine z2 ?_;refine aQ (v := gQ bI.cells) rfl rfl (fun w => kR) ?_;refine aQ (v := gQ bI.cells) rfl rfl (fun w => kR) ?_;refine aL (cs := bI.cells) (l' := bI.cells) rfl tV rfl rfl ad rfl bF hw pK (by simp [bI, bm.cells]) rfl rfl fun w hw => ?_;refine aL (cs := bI.cells) (l' := bI.cells) rfl tV rfl rfl ad rfl bF hw pK (by simp [bI, bm.cells]) rfl rfl fun w hw => ?_;refine z4 ?_;exact zk rfl rfl ⟨_, rfl, (aj.cw (l := bI.cells) ad hw pK rfl)⟩ ⟨_, rfl, (aj.cw (l := bI.cells) ad hw pK rfl)⟩ rfl rfl (.inl ⟨mQ (by
    intro h;have h0 := h.1;have oG := h.2
    first | rw [ah h1] at oG | rw [ae (by simp [h1])] at oG
    first | exact h2 h0 | exact h6 h0 | omega), rfl, (by repeat (first | exact hw | replace hw := hw.tail))⟩)
  refine z4 ?_;refine aE (d := 36) rfl (fun h3 => ?_) fun h3 => ?_
  ·
   refine z8 ?_;refine eg rfl ?_;refine z2 ?_;refine aQ (v := gQ bI.cells) rfl rfl (fun w => kR) ?_;refine aQ (v := gQ bI.cells) rfl rfl (fun w => kR) ?_;refine aL (cs := bI.cells) (l' := bI.cells) rfl tV rfl rfl ad rfl bF hw pK (by simp [bI, bm.cells]) rfl rfl fun w hw => ?_;refine aL (cs := bI.cells) (l' := bI.cells) rfl tV rfl rfl ad rfl bF hw pK (by simp [bI, bm.cells]) rfl rfl fun w hw => ?_;refine z4 ?_;exact zk rfl rfl ⟨_, rfl, (aj.cw (l := bI.cells) ad hw pK rfl)⟩ ⟨_, rfl, (aj.cw (l := bI.cells) ad hw pK rfl)⟩ rfl rfl (.inl ⟨mQ (by
     intro h;have h0 := h.1;have oG := h.2
     first | rw [ah h1] at oG | rw [ae (by simp [h1])] at oG
     first | exact h2 h0 | exact h6 h0 | omega), rfl, (by repeat (first | exact hw | replace hw := hw.tail))⟩)
  refine z4 ?_;refine aE (d := 40) rfl (fun h4 => ?_) fun h4 => ?_
  ·
   refine z4 ?_;refine eg rfl ?_;refine z2 ?_;refine aQ (v := gQ bI.cells) rfl rfl (fun w => kR) ?_;refine aQ (v := gQ bI.cells) rfl rfl (fun w => kR) ?_;refine aL (cs := bI.cells) (l' := bI.cells) rfl tV rfl rfl ad rfl bF hw pK (by simp [bI, bm.cells]) rfl rfl fun w hw => ?_;refine aL (cs := bI.cells) (l' := bI.cells) rfl tV rfl rfl ad rfl bF hw pK (by simp [bI, bm.cells]) rfl rfl fun w hw => ?_;refine z4 ?_;exact zk rfl rfl ⟨_, rfl, (aj.cw (l := bI.cells) ad hw pK rfl)⟩ ⟨_, rfl, (aj.cw (l := bI.cells) ad hw pK rfl)⟩ rfl rfl (.inl ⟨mQ (by
      intro h;have h0 := h.1;have oG := h.2
      first | rw [ah h1] at oG | rw [ae (by simp [h1])] at oG
      first | exact h2 h0 | exact h6 h0 | omega), rfl, (by repeat (first | exact hw | replace hw := hw.tail))⟩)
  refine z4 ?_;refine aS rfl (fun h5 => ?_) fun h5 => ?_
  ·
   refine z2 ?_;refine aQ (v := gQ bI.cells) rfl rfl (fun w => kR) ?_;refine aQ (v := gQ bI.cells) rfl rfl (fun w => kR) ?_;refine aL (cs := bI.cells) (l' := bI.cells) rfl tV rfl rfl ad rfl bF hw pK (by simp [bI, bm.cells]) rfl rfl fun w hw => ?_;refine aL (cs := bI.cells) (l' := bI.cells) rfl tV rfl rfl ad rfl bF hw pK (by simp [bI, bm.cells]) rfl rfl fun w hw => ?_;refine z4 ?_;exact zk rfl rfl ⟨_, rfl, (aj.cw (l := bI.cells) ad hw pK rfl)⟩ ⟨_, rfl, (aj.cw (l := bI.cells) ad hw pK rfl)⟩ rfl rfl (.inl ⟨mQ (by
       intro h;have h0 := h.1;have oG := h.2
       first | rw [ah h1] at oG | rw [ae (by simp [h1])] at oG
       first | exact h2 h0 | exact h6 h0 | omega), rfl, (by repeat (first | exact hw | replace hw := hw.tail))⟩)
  have oF : y0 p.pg q.pg b := ⟨cJ.1 h2, by rw [ah h1]; omega⟩;have oY : (if b = true then p.pg.items.length - 1 else p.pg.items.length + 1) = p.l.length - 1 := by rw [ah h1, kA]
  refine z2 ?_;refine bu [0, 1, 2, 3, 4, 6, 7, 8, 5, 9, 10, 11, 12, 13, 14, 15, 16, 17] bK kR ?_;replace hw := hw.drawn (w.drawn + 1);refine lA (l := p.cells) ad hw ?_;refine lA (l := q.cells) ad hw ?_;refine lA (l := p.cells) ad hw ?_;refine lA (l := q.cells) ad hw ?_;refine z4 ?_;refine dL rfl uE rfl (wH (p := p) (q := q) hw (hp.of sF) (hq.of sF) (ks.of sF) GO oM ⟨oM, oM⟩) (fun w Zf hv q' hq => ?_) fun w Zf hv => ?_
  ·
   obtain ⟨l, hl, LX, hw⟩ := hv;have hq := a9 (l := [1, 0]) kR hq;simp only [bB, cW, or_false] at hq;rcases hq with rfl | rfl
   ·exact aV rfl rfl rfl (aj.cw (l := q.cells) ad hw pK rfl)
   exact aV rfl rfl rfl (aj.cw (l := p.cells) ad hw pK rfl)
  obtain ⟨l, hl, LX, hw⟩ := hv;have oW : l.length = p.l.length + q.l.length := by have h := congrArg List.length hl; rw [bA, Ey] at h; omega
  obtain ⟨ra, rc, rfl⟩ := aM hw;obtain ⟨n9, Yq⟩ : ∃ n9 : Nat, n9 = if b = true then p.pg.items.length - 1 else p.pg.items.length + 1 := ⟨_, rfl⟩
  have hle : jm p.pg q.pg sep b = jz p.pg q.pg (l.map bT.it) n9 := by unfold jm; rw [ah oF, hl, Yq]
  have Yp : 1 <= n9 /\ n9 < l.length := by rw [Yq, oY]; omega
  have h9 := Yq.trans oY;have Yg := qP (p := p) (q := q) (rl := l) (n := n9) hw (hp.of sF) (hq.of sF) (SB LX oM pK pK) Yp oM
  first | rw [show ((n9 : Nat) : Int) = (p.l.length : Int) + -1 from by omega] at Yg | rw [show ((n9 : Nat) : Int) = (p.l.length : Int) + 1 from by omega] at Yg
  refine an rfl pG rfl Yg kR fun w v55 hv => ?_;have Iy : ∃ (pl pr : bm) (jY : Value) (bo : Bool) (L' : List az), v55 = .tuple #[gQ pl.cells, gQ pr.cells, jY, .bool bo] /\ jN pl.cells /\ jN pr.cells /\ ar G (ag b9 [iQ 0, iQ 0, nQ, nQ, iQ 0] 75 :: ag b8 [iQ 0, iQ 0, nQ, nQ, iQ 0] 75 :: ag b5 q.cells 75 :: ag b4 p.cells 75 :: L') w ∧
    ((jm p.pg q.pg sep b = none /\ pl = bI /\ pr = bI /\ jY = nQ /\ bo = false /\ L' = L) \/ (∃ s, jm p.pg q.pg sep b = some (pl.pg, pr.pg, s) /\ bo = true /\ pl.Sm /\ pr.Sm /\ L' = aR pl :: aR pr :: row 5 1 jY s.length (dV s) :: L)) := by
   rcases hv with ⟨h3, h4, h5⟩ | ⟨pl, pr, s, jY, h3, h4, h5, h6, h7⟩
   ·exact ⟨bI, bI, nQ, false, L, h4, bF, bF, (h5.b [row 114 _ _ _ _, aT _, ag b9 _ _, ag b8 _ _, ag b5 _ _, ag b4 _ _]).tail.tail, .inl ⟨hle.trans h3, rfl, rfl, rfl, rfl, rfl⟩⟩
   exact ⟨pl, pr, jY, true, _, h4, cF (aB h5 pK) h7, cF (aB h6 pK) h7, (h7.b [row 114 _ _ _ _, aT _, ag b9 _ _, ag b8 _ _, ag b5 _ _, ag b4 _ _]).tail.tail, .inr ⟨s, hle.trans h3, rfl, h5, h6, rfl⟩⟩
  obtain ⟨pl, pr, jY, bo, L', rfl, MT, JP, hw, iu⟩ := Iy;refine z4 ?_;refine aL (cs := pl.cells) (l' := pl.cells) rfl tV rfl rfl ad rfl MT hw pK (by simp [bm.cells]) rfl kR fun w hw => ?_;refine aL (cs := pr.cells) (l' := pr.cells) rfl tV rfl rfl ad rfl JP hw pK (by simp [bm.cells]) rfl kR fun w hw => ?_;refine z4 ?_;refine zk rfl rfl ⟨_, rfl, (aj.cw (l := pl.cells) ad hw pK rfl)⟩ ⟨_, rfl, (aj.cw (l := pr.cells) ad hw pK rfl)⟩ rfl rfl ?_;exact Lw iu hw.tail.tail.tail.tail
 refine z4 ?_;refine lA (l := p.cells) ad hw ?_;refine lA (l := q.cells) ad hw ?_;refine an rfl l7 rfl (mF (p := p) (q := q) hw) rfl fun w v30 hv => ?_;obtain ⟨rfl, hw⟩ := hv;refine jX rfl rfl ?_;refine z1 ?_;refine aE (d := 32) rfl (fun h6 => ?_) fun h6 => ?_
 ·
  refine KA ?_;refine eg rfl ?_;refine z2 ?_;refine aQ (v := gQ bI.cells) rfl rfl (fun w => kR) ?_;refine aQ (v := gQ bI.cells) rfl rfl (fun w => kR) ?_;refine aL (cs := bI.cells) (l' := bI.cells) rfl tV rfl rfl ad rfl bF hw pK (by simp [bI, bm.cells]) rfl rfl fun w hw => ?_;refine aL (cs := bI.cells) (l' := bI.cells) rfl tV rfl rfl ad rfl bF hw pK (by simp [bI, bm.cells]) rfl rfl fun w hw => ?_;refine z4 ?_;exact zk rfl rfl ⟨_, rfl, (aj.cw (l := bI.cells) ad hw pK rfl)⟩ ⟨_, rfl, (aj.cw (l := bI.cells) ad hw pK rfl)⟩ rfl rfl (.inl ⟨mQ (by
    intro h;have h0 := h.1;have oG := h.2
    first | rw [ah h1] at oG | rw [ae (by simp [h1])] at oG
    first | exact h2 h0 | exact h6 h0 | omega), rfl, (by repeat (first | exact hw | replace hw := hw.tail))⟩)
 refine z4 ?_;refine aE (d := 36) rfl (fun h7 => ?_) fun h7 => ?_
 ·
  refine z8 ?_;refine eg rfl ?_;refine z2 ?_;refine aQ (v := gQ bI.cells) rfl rfl (fun w => kR) ?_;refine aQ (v := gQ bI.cells) rfl rfl (fun w => kR) ?_;refine aL (cs := bI.cells) (l' := bI.cells) rfl tV rfl rfl ad rfl bF hw pK (by simp [bI, bm.cells]) rfl rfl fun w hw => ?_;refine aL (cs := bI.cells) (l' := bI.cells) rfl tV rfl rfl ad rfl bF hw pK (by simp [bI, bm.cells]) rfl rfl fun w hw => ?_;refine z4 ?_;exact zk rfl rfl ⟨_, rfl, (aj.cw (l := bI.cells) ad hw pK rfl)⟩ ⟨_, rfl, (aj.cw (l := bI.cells) ad hw pK rfl)⟩ rfl rfl (.inl ⟨mQ (by
     intro h;have h0 := h.1;have oG := h.2
     first | rw [ah h1] at oG | rw [ae (by simp [h1])] at oG
     first | exact h2 h0 | exact h6 h0 | omega), rfl, (by repeat (first | exact hw | replace hw := hw.tail))⟩)
 refine z4 ?_;refine aE (d := 40) rfl (fun h8 => ?_) fun h8 => ?_
 ·
  refine z4 ?_;refine eg rfl ?_;refine z2 ?_;refine aQ (v := gQ bI.cells) rfl rfl (fun w => kR) ?_;refine aQ (v := gQ bI.cells) rfl rfl (fun w => kR) ?_;refine aL (cs := bI.cells) (l' := bI.cells) rfl tV rfl rfl ad rfl bF hw pK (by simp [bI, bm.cells]) rfl rfl fun w hw => ?_;refine aL (cs := bI.cells) (l' := bI.cells) rfl tV rfl rfl ad rfl bF hw pK (by simp [bI, bm.cells]) rfl rfl fun w hw => ?_;refine z4 ?_;exact zk rfl rfl ⟨_, rfl, (aj.cw (l := bI.cells) ad hw pK rfl)⟩ ⟨_, rfl, (aj.cw (l := bI.cells) ad hw pK rfl)⟩ rfl rfl (.inl ⟨mQ (by
      intro h;have h0 := h.1;have oG := h.2
      first | rw [ah h1] at oG | rw [ae (by simp [h1])] at oG
      first | exact h2 h0 | exact h6 h0 | omega), rfl, (by repeat (first | exact hw | replace hw := hw.tail))⟩)
 refine z4 ?_;refine aS rfl (fun h9 => ?_) fun h9 => ?_
 ·
  refine z2 ?_;refine aQ (v := gQ bI.cells) rfl rfl (fun w => kR) ?_;refine aQ (v := gQ bI.cells) rfl rfl (fun w => kR) ?_;refine aL (cs := bI.cells) (l' := bI.cells) rfl tV rfl rfl ad rfl bF hw pK (by simp [bI, bm.cells]) rfl rfl fun w hw => ?_;refine aL (cs := bI.cells) (l' := bI.cells) rfl tV rfl rfl ad rfl bF hw pK (by simp [bI, bm.cells]) rfl rfl fun w hw => ?_;refine z4 ?_;exact zk rfl rfl ⟨_, rfl, (aj.cw (l := bI.cells) ad hw pK rfl)⟩ ⟨_, rfl, (aj.cw (l := bI.cells) ad hw pK rfl)⟩ rfl rfl (.inl ⟨mQ (by
       intro h;have h0 := h.1;have oG := h.2
       first | rw [ah h1] at oG | rw [ae (by simp [h1])] at oG
       first | exact h2 h0 | exact h6 h0 | omega), rfl, (by repeat (first | exact hw | replace hw := hw.tail))⟩)
 have oF : y0 p.pg q.pg b := ⟨cJ.1 h6, by rw [ae (by simp [h1])]; omega⟩;have oY : (if b = true then p.pg.items.length - 1 else p.pg.items.length + 1) = p.l.length + 1 := by rw [ae (by simp [h1]), kA]
 refine z2 ?_;refine bu [0, 1, 2, 3, 4, 6, 7, 8, 5, 9, 10, 11, 12, 13, 14, 15, 16, 17] bK kR ?_;replace hw := hw.drawn (w.drawn + 1);refine lA (l := p.cells) ad hw ?_;refine lA (l := q.cells) ad hw ?_;refine lA (l := p.cells) ad hw ?_;refine lA (l := q.cells) ad hw ?_;refine z4 ?_;refine dL rfl uE rfl (wH (p := p) (q := q) hw (hp.of sF) (hq.of sF) (ks.of sF) GO oM ⟨oM, oM⟩) (fun w Zf hv q' hq => ?_) fun w Zf hv => ?_
 ·
  obtain ⟨l, hl, LX, hw⟩ := hv;have hq := a9 (l := [1, 0]) kR hq;simp only [bB, cW, or_false] at hq;rcases hq with rfl | rfl
  ·exact aV rfl rfl rfl (aj.cw (l := q.cells) ad hw pK rfl)
  exact aV rfl rfl rfl (aj.cw (l := p.cells) ad hw pK rfl)
 obtain ⟨l, hl, LX, hw⟩ := hv;have oW : l.length = p.l.length + q.l.length := by have h := congrArg List.length hl; rw [bA, Ey] at h; omega
 obtain ⟨ra, rc, rfl⟩ := aM hw;obtain ⟨n9, Yq⟩ : ∃ n9 : Nat, n9 = if b = true then p.pg.items.length - 1 else p.pg.items.length + 1 := ⟨_, rfl⟩
 have hle : jm p.pg q.pg sep b = jz p.pg q.pg (l.map bT.it) n9 := by unfold jm; rw [ah oF, hl, Yq]
 have Yp : 1 <= n9 /\ n9 < l.length := by rw [Yq, oY]; omega
 have h9 := Yq.trans oY;have Yg := qP (p := p) (q := q) (rl := l) (n := n9) hw (hp.of sF) (hq.of sF) (SB LX oM pK pK) Yp oM
 first | rw [show ((n9 : Nat) : Int) = (p.l.length : Int) + -1 from by omega] at Yg | rw [show ((n9 : Nat) : Int) = (p.l.length : Int) + 1 from by omega] at Yg
 refine an rfl pG rfl Yg kR fun w v55 hv => ?_;have Iy : ∃ (pl pr : bm) (jY : Value) (bo : Bool) (L' : List az), v55 = .tuple #[gQ pl.cells, gQ pr.cells, jY, .bool bo] /\ jN pl.cells /\ jN pr.cells /\ ar G (ag b9 [iQ 0, iQ 0, nQ, nQ, iQ 0] 75 :: ag b8 [iQ 0, iQ 0, nQ, nQ, iQ 0] 75 :: ag b5 q.cells 75 :: ag b4 p.cells 75 :: L') w ∧
   ((jm p.pg q.pg sep b = none /\ pl = bI /\ pr = bI /\ jY = nQ /\ bo = false /\ L' = L) \/ (∃ s, jm p.pg q.pg sep b = some (pl.pg, pr.pg, s) /\ bo = true /\ pl.Sm /\ pr.Sm /\ L' = aR pl :: aR pr :: row 5 1 jY s.length (dV s) :: L)) := by
  rcases hv with ⟨h3, h4, h5⟩ | ⟨pl, pr, s, jY, h3, h4, h5, h6, h7⟩
  ·exact ⟨bI, bI, nQ, false, L, h4, bF, bF, (h5.b [row 114 _ _ _ _, aT _, ag b9 _ _, ag b8 _ _, ag b5 _ _, ag b4 _ _]).tail.tail, .inl ⟨hle.trans h3, rfl, rfl, rfl, rfl, rfl⟩⟩
  exact ⟨pl, pr, jY, true, _, h4, cF (aB h5 pK) h7, cF (aB h6 pK) h7, (h7.b [row 114 _ _ _ _, aT _, ag b9 _ _, ag b8 _ _, ag b5 _ _, ag b4 _ _]).tail.tail, .inr ⟨s, hle.trans h3, rfl, h5, h6, rfl⟩⟩
 obtain ⟨pl, pr, jY, bo, L', rfl, MT, JP, hw, iu⟩ := Iy;refine z4 ?_;refine aL (cs := pl.cells) (l' := pl.cells) rfl tV rfl rfl ad rfl MT hw pK (by simp [bm.cells]) rfl kR fun w hw => ?_;refine aL (cs := pr.cells) (l' := pr.cells) rfl tV rfl rfl ad rfl JP hw pK (by simp [bm.cells]) rfl kR fun w hw => ?_;refine z4 ?_;refine zk rfl rfl ⟨_, rfl, (aj.cw (l := pl.cells) ad hw pK rfl)⟩ ⟨_, rfl, (aj.cw (l := pr.cells) ad hw pK rfl)⟩ rfl rfl ?_;exact Lw iu hw.tail.tail.tail.tail
end
def DC (e x : Int) : Int := if e = 0 then x else e
theorem F3 (x : Int) : DC 0 x = x := rfl
def px (V : Va) (e n : Int) : Pg × Int := if e ≠ 0 then (bI.pg, e) else match V.rd n with
 | none => (bI.pg, 15)
 | some p => (p, 0)
def uJ (V : Va) (e n : Int) : Int × Int × Va := if e ≠ 0 then (0, e, V) else V.aO n
def xE (V : Va) (e n : Int) : Pg × Int × Va := if e ≠ 0 then (bI.pg, e, V) else V.take n
def vC (V : Va) (e n : Int) (p : Pg) : Int × Va := if e ≠ 0 then (e, V) else V.write n p
abbrev l8 (vq : Nat) (e : Int) : List Value := [pQ vq, iQ e]
abbrev iB (up : bm) (at_ : Int) (ch : bm) : List Value := [iQ up.kind, iQ up.level, up.s, up.d, iQ up.next, iQ at_, iQ ch.kind, iQ ch.level, ch.s, ch.d, iQ ch.next]
section
variable {G : Gh} {L R : List az} {w : World}
theorem jK {vq wq : Nat} {e x : Int} (hw : ar G (ag wq (l8 vq e) 148 :: L) w) : Calls prog 120 #[pQ wq, iQ x] w (dv fun r w' => r = .tuple #[] /\ ar G (ag wq (l8 vq (DC e x)) 148 :: L) w') := by
 refine al (args := [_, _]) func120 rfl ntmps120 rfl rfl ?_;refine z5 ?_;refine lD (v := iQ e) aD hw ?_;refine z2 ?_;refine aS rfl (fun h1 => ?_) fun h1 => ?_
 ·
  refine z5 ?_;refine bS (l' := l8 vq x) rfl tV rfl rfl aD rfl hw pK rfl rfl rfl fun w hw => ?_;refine aH ?_;exact j7 rfl rfl (by
 have e1 : DC e x = x := ah h1;rw [e1];exact ⟨rfl, hw⟩)
 refine eH ?_;exact j7 rfl rfl (by
 have e1 : DC e x = e := ae h1;rw [e1];exact ⟨rfl, hw⟩)
theorem fZ {vq wq : Nat} {e : Int} {b : Bool} (hw : ar G (ag wq (l8 vq e) 148 :: L) w) : Calls prog 127 #[pQ wq, .bool b] w (dv fun r w' => r = .tuple #[] /\ ar G (ag wq (l8 vq (if b = true then e else DC e 15)) 148 :: L) w') := by
 refine al (args := [_, _]) func127 rfl ntmps127 rfl rfl ?_;refine z3 ?_;refine nY rfl rfl ?_;refine aH ?_;refine fm rfl (fun h1 => ?_) fun h1 => ?_
 ·
  refine z2 ?_;refine an rfl iM rfl (jK (vq := vq) (e := e) (x := 15) (hw.b [ag wq _ _])) rfl fun w v7 hv => ?_;obtain ⟨rfl, hw⟩ := hv;refine aH ?_;exact j7 rfl rfl (by
 rw [ae (by simpa using h1)];exact ⟨rfl, hw⟩)
 refine eH ?_;exact j7 rfl rfl (by
 rw [ah (by simpa using h1)];exact ⟨rfl, hw⟩)
theorem iS {vq wq : Nat} {V : Va} {e n : Int} (hw : ar G (aZ vq V :: ag wq (l8 vq e) 148 :: L) w) (aJ : V.Ok) (dm : V.sz <= 1000000000000) : Calls prog 67 #[pQ wq, iQ n] w (dv fun r w' => r = iQ (uJ V e n).1 /\ ar G (aZ vq (uJ V e n).2.2 :: ag wq (l8 vq (uJ V e n).2.1) 148 :: L) w') := by
 refine al (args := [_, _]) func67 rfl ntmps67 rfl rfl ?_;refine yb ?_;refine lD (v := iQ e) aD hw ?_;refine z2 ?_;refine aS rfl (fun h1 => ?_) fun h1 => ?_
 ·
  refine z5 ?_;exact br rfl rfl rfl (by
 have e1 : uJ V e n = (0, e, V) := ah h1;rw [e1];exact ⟨rfl, hw⟩)
 have h1 : e = 0 := cJ.1 h1;subst h1;have e1 : uJ V 0 n = V.aO n := ae (fun h => h rfl);rw [e1];refine z6 ?_;refine lD (v := pQ vq) au hw ?_;refine z1 ?_;refine an rfl ke rfl (kQ (V := V) (n := n) (hw.b [aZ vq V]) aJ dm) rfl fun w Xl hv => ?_;obtain ⟨rfl, hw⟩ := hv;refine yb ?_;refine an rfl iM rfl (jK (vq := vq) (e := 0) (x := (V.aO n).2.1) (hw.b [ag wq _ _])) rfl fun w Xk hv => ?_;obtain ⟨rfl, hw⟩ := hv;rw [F3] at hw;refine z7 ?_;exact br rfl rfl rfl ⟨rfl, hw.b [aZ vq _, ag wq _ _]⟩
theorem gG {vq wq : Nat} {V : Va} {e n : Int} (hw : ar G (aZ vq V :: ag wq (l8 vq e) 148 :: L) w) (aJ : V.Ok) : Calls prog 121 #[pQ wq, iQ n] w (dv fun r w' => ∃ p : bm, r = gQ p.cells /\ p.pg = (px V e n).1 /\ p.Sm /\ ar G (aR p :: aZ vq V :: ag wq (l8 vq (px V e n).2) 148 :: L) w') := by
 refine al (args := [_, _]) func121 rfl ntmps121 rfl rfl ?_;refine z2 ?_;refine aN rfl bf hw rfl fun w b4 hw => ?_;refine z7 ?_;refine lD (v := iQ e) aD hw ?_;refine z2 ?_;refine aS rfl (fun h1 => ?_) fun h1 => ?_
 ·
  refine z2 ?_;refine aQ (v := gQ bI.cells) rfl rfl (fun w => kR) ?_;refine aL (cs := bI.cells) (l' := bI.cells) rfl tV rfl rfl ad rfl bF hw pK (by simp [bI, bm.cells]) rfl rfl fun w hw => ?_;refine z2 ?_;refine br rfl rfl ⟨_, rfl, (aj.cw (l := bI.cells) ad hw pK rfl)⟩ ?_;have e1 : px V e n = (bI.pg, e) := ah h1;rw [e1];exact ⟨bI, rfl, rfl, tU, ns hw.tail⟩
 have h1 : e = 0 := cJ.1 h1;subst h1;have e1 : px V 0 n = match V.rd n with
  | none => (bI.pg, 15)
  | some p => (p, 0) := ae (fun h => h rfl)
 rw [e1];refine z6 ?_;refine lD (v := pQ vq) au hw ?_;refine z1 ?_;refine an rfl cu rfl (fO (V := V) (n := n) (hw.b [aZ vq V]) aJ) rfl fun w RD hv => ?_;have Iy : ∃ (p : bm) (er : Int), RD = .tuple #[gQ p.cells, iQ er] /\ jN p.cells /\ (match V.rd n with
   | none => (bI.pg, 15)
   | some p => (p, 0)) = (p.pg, er) /\ p.Sm /\ ar G (aR p :: aZ vq V :: ag b4 [iQ 0, iQ 0, nQ, nQ, iQ 0] 75 :: ag wq (l8 vq 0) 148 :: L) w := by
  obtain ⟨p', er, A, hr, ho, iu, hw⟩ := hv;rcases iu with ⟨h1, rfl, rfl, rfl⟩ | ⟨h1, rfl, rfl, h2⟩
  ·exact ⟨bI, 15, hr, ho, by rw [h1], tU, ns (hw.tail.b [aZ vq V, ag b4 _ _, ag wq _ _])⟩
  exact ⟨p', 0, hr, ho, by rw [h1], h2, hw.b [aR p', aZ vq V, ag b4 _ _, ag wq _ _]⟩
 obtain ⟨p, er, rfl, ho, hre, ft, hw⟩ := Iy;rw [hre];refine z3 ?_;refine aN rfl bf hw rfl fun w b5 hw => ?_;refine aL (cs := p.cells) (l' := p.cells) rfl tV rfl rfl ad rfl ho hw pK (by simp [bm.cells]) rfl rfl fun w hw => ?_;refine z6 ?_;refine an rfl iM rfl (jK (vq := vq) (e := 0) (x := er) (hw.b [ag wq _ _])) rfl fun w MN hv => ?_;obtain ⟨rfl, hw⟩ := hv;rw [F3] at hw;refine z3 ?_;refine lA (l := p.cells) ad hw ?_;refine aL (cs := p.cells) (l' := p.cells) rfl tV rfl rfl ad rfl ho hw pK (by simp [bm.cells]) rfl rfl fun w hw => ?_;refine z2 ?_;exact br rfl rfl ⟨_, rfl, (aj.cw (l := p.cells) ad hw pK rfl)⟩ ⟨p, rfl, rfl, ft, (hw.b [ag b5 _ _, ag b4 _ _, aR p, aZ vq _, ag wq _ _]).tail.tail⟩
theorem mj {vq wq : Nat} {V : Va} {e n : Int} (hw : ar G (aZ vq V :: ag wq (l8 vq e) 148 :: L) w) (aJ : V.Ok) (dm : V.sz <= 1000000000000) : Calls prog 126 #[pQ wq, iQ n] w (dv fun r w' => ∃ p : bm, r = gQ p.cells /\ p.pg = (xE V e n).1 /\ p.Sm /\ ar G (aR p :: aZ vq (xE V e n).2.2 :: ag wq (l8 vq (xE V e n).2.1) 148 :: L) w') := by
 refine al (args := [_, _]) func126 rfl ntmps126 rfl rfl ?_;refine z2 ?_;refine aN rfl bf hw rfl fun w b4 hw => ?_;refine z7 ?_;refine lD (v := iQ e) aD hw ?_;refine z2 ?_;refine aS rfl (fun h1 => ?_) fun h1 => ?_
 ·
  refine z2 ?_;refine aQ (v := gQ bI.cells) rfl rfl (fun w => kR) ?_;refine aL (cs := bI.cells) (l' := bI.cells) rfl tV rfl rfl ad rfl bF hw pK (by simp [bI, bm.cells]) rfl rfl fun w hw => ?_;refine z2 ?_;refine br rfl rfl ⟨_, rfl, (aj.cw (l := bI.cells) ad hw pK rfl)⟩ ?_;have e1 : xE V e n = (bI.pg, e, V) := ah h1;rw [e1];exact ⟨bI, rfl, rfl, tU, ns hw.tail⟩
 have h1 : e = 0 := cJ.1 h1;subst h1;have e1 : xE V 0 n = V.take n := ae (fun h => h rfl);rw [e1];refine z6 ?_;refine lD (v := pQ vq) au hw ?_;refine z1 ?_;refine an rfl wP rfl (xR (V := V) (n := n) (hw.b [aZ vq V]) aJ dm) rfl fun w RD hv => ?_;obtain ⟨p, rfl, D3, ft, hw⟩ := hv;have ho := cF (aB ft (R := _) .here) hw;refine z3 ?_;refine aN rfl bf hw rfl fun w b5 hw => ?_;refine aL (cs := p.cells) (l' := p.cells) rfl tV rfl rfl ad rfl ho hw pK (by simp [bm.cells]) rfl rfl fun w hw => ?_;refine z6 ?_;refine an rfl iM rfl (jK (vq := vq) (e := 0) (x := (V.take n).2.1) (hw.b [ag wq _ _])) rfl fun w MN hv => ?_;obtain ⟨rfl, hw⟩ := hv;rw [F3] at hw;refine z3 ?_;refine lA (l := p.cells) ad hw ?_;refine aL (cs := p.cells) (l' := p.cells) rfl tV rfl rfl ad rfl ho hw pK (by simp [bm.cells]) rfl rfl fun w hw => ?_;refine z2 ?_;exact br rfl rfl ⟨_, rfl, (aj.cw (l := p.cells) ad hw pK rfl)⟩ ⟨p, rfl, D3, ft, (hw.b [ag b5 _ _, ag b4 _ _, aR p, aZ vq _, ag wq _ _]).tail.tail⟩
theorem jJ {vq wq : Nat} {V : Va} {e n : Int} {p : bm} (hw : ar G (aZ vq V :: ag wq (l8 vq e) 148 :: L) w) (aJ : V.Ok) (dm : V.sz <= 1000000000000) (hp : p.Ok L) : Calls prog 125 #[pQ wq, iQ n, gQ p.cells] w (dv fun r w' => r = .tuple #[] /\ ar G (aZ vq (vC V e n p.pg).2 :: ag wq (l8 vq (vC V e n p.pg).1) 148 :: L) w') := by
 refine al (args := [_, _, _]) func125 rfl ntmps125 rfl rfl ?_;refine z2 ?_;refine bE rfl rfl rfl hw rfl fun w b5 hw => ?_;refine z6 ?_;refine lD (v := iQ e) aD hw ?_;refine z2 ?_;refine aS rfl (fun h1 => ?_) fun h1 => ?_
 ·
  subst h1;have e1 : vC V 0 n p.pg = V.write n p.pg := ae (fun h => h rfl);rw [e1];refine bu [0, 1, 2, 3, 4, 5, 6, 7, 8] bK kR ?_;replace hw := hw.drawn (w.drawn + 1);refine z4 ?_;refine lD (v := pQ vq) au hw ?_;refine z1 ?_;refine lA (l := p.cells) ad hw ?_;refine an rfl fU rfl (gA (V := V) (n := n) (p := p) (hw.b [aZ vq V]) (hp.of sF) aJ dm) kR fun w TV hv => ?_;obtain ⟨rfl, hw⟩ := hv;refine an rfl iM rfl (jK (vq := vq) (e := 0) (x := (V.write n p.pg).1) (hw.b [ag wq _ _])) kR fun w RD hv => ?_;obtain ⟨rfl, hw⟩ := hv;rw [F3] at hw;refine aH ?_;exact j7 rfl rfl ⟨rfl, (hw.b [ag b5 _ _, aZ vq _, ag wq _ _]).tail⟩
 refine eH ?_;exact j7 rfl rfl (by
 have e1 : vC V e n p.pg = (e, V) := ah h1;rw [e1];exact ⟨rfl, (hw.b [ag b5 _ _, aZ vq _, ag wq _ _]).tail⟩)
theorem ml {sq : Nat} {up ch : bm} {at_ k : Int} (hw : ar G (ag sq (iB up at_ ch) 196 :: L) w) (hu : up.Ok L) (ha : 0 <= at_ /\ at_ <= 1000000) (hk : -10 <= k /\ k <= 10) : Calls prog 179 #[pQ sq, iQ k] w (dv fun r w' => r = .bool (decide (0 <= at_ + k /\ at_ + k < up.pg.items.length)) /\ ar G (ag sq (iB up at_ ch) 196 :: L) w') := by
 obtain ⟨a1, c1, a2, c2, hs, hd, gJ⟩ := hu.form hw.tail;have kA : up.pg.items.length = up.l.length := by simp [bm.pg]
 refine al (args := [_, _]) func179 rfl ntmps179 rfl rfl ?_;refine z5 ?_;refine bu [0, 1, 2, 3, 4, 5, 6, 7, 8, 9, 10, 11, 12, 13, 14, 15, 16, 17, 18, 19, 20, 21, 22] bK kR ?_;replace hw := hw.drawn (w.drawn + 1);refine z3 ?_;refine lD (v := iQ at_) ai hw ?_;refine z4 ?_;refine bY (l1 := [8, 9, 10, 11, 12, 13, 14, 15, 16, 17, 18, 19, 20, 21]) (l2 := [22]) rfl (d := 26) (0 <= at_ + k /\ at_ + k < up.pg.items.length) rfl ?_ ?_
 ·
  refine aE (d := 12) rfl (fun h1 => ?_) fun h1 => ?_
  ·
   refine z1 ?_;refine C3 rfl rfl ?_;refine z1 ?_;refine lD (v := iQ at_) ai hw ?_;refine z1 ?_;refine yJ rfl rfl rfl oM ?_;refine z1 ?_;refine C3 rfl rfl ?_;refine z1 ?_;refine cy rfl dE rfl ?_;refine bt rfl rfl (aj.bx (v := .slice a1 up.l.length c1) ao hw pK (by rw [<-hs]; rfl)) ?_;refine dQ rfl kR aG rfl ?_;refine z3 ?_;refine cQ ?_
   first | exact cZ.2 ⟨fun h => ⟨oM, oM⟩, fun h => by omega⟩ | exact (decide_eq_false oM).symm
  refine z15 ?_;refine cQ ?_
  first | exact cZ.2 ⟨fun h => ⟨oM, oM⟩, fun h => by omega⟩ | exact (decide_eq_false oM).symm
 refine z3 ?_;exact br rfl rfl rfl ⟨rfl, hw⟩
theorem eC {sq : Nat} {up ch : bm} {at_ k : Int} {j : Nat} (hw : ar G (ag sq (iB up at_ ch) 196 :: L) w) (hu : up.Ok L) (ha : 0 <= at_ /\ at_ <= 1000000) (hk : -10 <= k /\ k <= 10) (hj : at_ + k = j) (Te : j < up.pg.items.length) : Calls prog 123 #[pQ sq, iQ k] w (dv fun r w' => r = iQ (bh up.pg.items j) /\ ar G (ag sq (iB up at_ ch) 196 :: L) w') := by
 have kA : up.pg.items.length = up.l.length := by simp [bm.pg]
 obtain ⟨y, hy⟩ : ∃ y, up.l[j]? = some y := ⟨_, cV oM⟩;have NB : (up.l.map bT.cells)[j]? = some y.cells := by rw [dB, hy]; rfl
 have qU : bh up.pg.items j = y.it.child := lB hy;rw [qU];have kO := hu.its.sl.at hw.tail;obtain ⟨a1, c1, a2, c2, hs, hd, gJ⟩ := hu.form hw.tail;rw [hs] at kO
 obtain ⟨ib, io, Fo⟩ := kO.nn (by rw [bA]; omega);refine al (args := [_, _]) func123 rfl ntmps123 rfl rfl ?_;refine z5 ?_;refine bu [0, 1, 2, 3, 4, 5, 6, 7, 8, 9, 10, 11, 12, 13, 14] bK kR ?_;replace hw := hw.drawn (w.drawn + 1);refine z3 ?_;refine cy rfl dE rfl ?_;refine bt rfl rfl (aj.bx (v := .slice (some ⟨ib, io, none⟩) up.l.length c1) ao hw pK (by rw [<-Fo, <-hs]; rfl)) ?_;refine z3 ?_;refine lD (v := iQ at_) ai hw ?_;refine z2 ?_;rw [hj];refine dD rfl aG aY rfl rfl ⟨oM, oM⟩ ?_;refine cy rfl gm rfl ?_;refine bt rfl rfl (aj.one (v := iQ y.it.child) ai (by
 rw [Fo] at kO;exact kO.cell (j := 2) NB rfl)) ?_
 refine z3 ?_;exact br rfl rfl rfl ⟨rfl, hw⟩
end
structure PgF (p : bm) (ib ic : Nat) (cur : List Value) : Prop where
 s : p.s = sQ ib p.l.length ic
 c1 : p.l.length <= ic
 c2 : ic <= maxLen
 c3 : ((p.l.map bT.cells).flatten ++ cur).length = ic * 4
theorem DW {p : bm} {G : Gh} {L : List az} {w : World} (h : ar G (aR p :: L) w) (hn : 0 < p.l.length) : ∃ ib ic cur, PgF p ib ic cur /\ ar G (ag ib ((p.l.map bT.cells).flatten ++ cur) 114 :: aT (p.l.flatMap bn) :: row 5 1 p.d p.data.length (dV p.data) :: L) w := by
 have hz := ar.cD (M := fi p) h;simp only [fi, j4, jG] at hz;obtain ⟨ra, rc, hs⟩ := aM hz;rw [hs] at hz
 obtain ⟨ud, sb, cur, Fo, BQ, yl, gJ, hw⟩ := ij hz hn;exact ⟨sb, rc, cur, ⟨by rw [hs, Fo], BQ, yl, gJ⟩, hw⟩
theorem Jn {p : bm} {ib ic : Nat} {cur : List Value} {l' : List bT} {G : Gh} {L : List az} {w : World} (hf : PgF p ib ic cur) (hl : l'.length = p.l.length)
  (h : ar G (ag ib ((l'.map bT.cells).flatten ++ cur) 114 :: aT (l'.flatMap bn) :: row 5 1 p.d p.data.length (dV p.data) :: L) w) : ar G (aR { p with l := l' } :: L) w := by
 refine ar.bH (M := fi { p with l := l' }) ?_;simp only [fi, j4, jG];have hc := hf.c3;have := np (m := l'.length) (z := 4) h (by rw [dk (kX _), bA]) (by have := hf.c1; omega) hf.c2 (by rw [<-hc, ga, ga, hl]);rw [hf.s, <-hl];exact this
theorem qF {p : bm} {G : Gh} {L R : List az} {w : World} (hw : ar G L w) (hp : dg (aR p) L R) (hn : 0 < p.l.length) : ∃ ib ic, p.s = sQ ib p.l.length ic := by
 obtain ⟨ib, ic, cur, hf, _⟩ := DW (hw.pick hp) hn;exact ⟨ib, ic, hf.s⟩
theorem Ka {l : List bT} {n : Nat} {x y : bT} {G : Gh} {R : List az} {w : World} (hx : l[n]? = some x)
  (h : ar G (aT (l.flatMap bn) :: row 5 1 y.kv y.it.key.length (dV y.it.key) :: row 5 1 y.vv y.it.value.length (dV y.it.value) :: R) w) : ar G (aT ((l.set n y).flatMap bn) :: R) w := by
 have hn := (nU.1 hx).1;have e1 : l = l.take n ++ x :: l.drop (n + 1) := by rw [<-dG hx, qd]
 have e2 : l.set n y = l.take n ++ y :: l.drop (n + 1) := Lb.trans (ah hn);have h1 := h.cD;rw [e1, Ac, ku] at h1;refine ar.bH ?_;rw [e2, Ac, ku];simp only [bn, je, j4, jG] at h1 ⊢
 have h2 := (h1.drop im).drop im;have h3 := h2.pick (im (M := (l.take n).flatMap bn ++ (l.drop (n + 1)).flatMap bn) (N := row 5 1 y.vv y.it.value.length (dV y.it.value) :: R) |> fun p => by simpa using p);have h4 := (h3.yK (im (M := (l.take n).flatMap bn) (N := (l.drop (n + 1)).flatMap bn ++ row 5 1 y.vv y.it.value.length (dV y.it.value) :: R) |> fun p => by simpa using p));have h5 := h4.pick (im (M := (l.take n).flatMap bn ++ row 5 1 y.kv y.it.key.length (dV y.it.key) :: (l.drop (n + 1)).flatMap bn) (N := R) |> fun p => by simpa using p);exact h5.yK (im (M := (l.take n).flatMap bn ++ [row 5 1 y.kv y.it.key.length (dV y.it.key)]) (N := (l.drop (n + 1)).flatMap bn ++ R) |> fun p => by simpa using p)
theorem nr {p : bm} {ib ic k j : Nat} {y : bT} {v : Value} {G : Gh} {L R : List az} {w : World} (hw : ar G L w) (hp : dg (aR p) L R) (ft : p.Sm) (hs : p.s = sQ ib p.l.length ic) (hy : p.l[k]? = some y) (hv : y.cells[j]? = some v) {o : Nat} (ho : o = k * 4 + j) :
  w.cell? ⟨ib, o, none⟩ = some v := by
 have kO := ((aB ft (L := [aR p]) .here).its.sl.at (hw.pick hp).head);rw [hs] at kO;have := kO.cell (k := k) (r := y.cells) (by rw [dB, hy]; rfl) hv;rw [fQ, r8] at this
 rw [ho]; exact this
theorem bm.Sm.set {p : bm} (h : p.Sm) {k : Nat} {y : bT} (h1 : bz y.it.key) (h2 : bz y.it.value) : bm.Sm { p with l := p.l.set k y } :=
 ⟨by show (p.l.set k y).length <= _; rw [qC]; exact h.len, fun z hz => by
  rcases Sa hz with hz | rfl
  ·exact h.it z hz
  ·exact ⟨h1, h2⟩, h.sd⟩
section
variable {P : Program} {n : Nat} {ops : Array Oper} {dr : Bool} {done r : List Nat} {K : gj -> World -> Prop} {e : gj} {w : World} {i d : Nat} {t s T : TypeId} {pp : String} {af : Array Edge} {g : Option (Nat × Bool)} {x y : Operand} {G : Gh} {L R : List az}
theorem Bg {p : bm} {ib ic k o : Nat} {z : bT} {c : Int} (ho : ops[i]? = some ⟨none, .store s x y, t, pp, af, g⟩) (hg : Gd ops e g) (hx : ev e x = some (.pointer (some ⟨ib, o, none⟩))) (hy : ev e y = some (iQ c)) (h1 : lE P s = true)
  (hw : ar G L w) (hp : dg (aR p) L R) (hs : p.s = sQ ib p.l.length ic) (hz : p.l[k]? = some z) (aJ : o = k * 4 + 2) (j6 : iI P ops dr done i = [])
  (h : ∀ w', ar G (aR { p with l := p.l.set k ⟨{ z.it with child := c }, z.kv, z.vv⟩ } :: R) w' -> XL P n ops dr (i :: done) r K e w') : XL P n ops dr done (i :: r) K e w := by
 have hk := (nU.1 hz).1;obtain ⟨ib', ic', cur, hf, oE⟩ := DW (hw.pick hp) oM;have hb := hf.s;rw [hs] at hb; cases hb;have e1 : o = 0 + (k : Int).toNat * 4 + 2 := by rw [aJ, fQ]; omega
 subst e1;refine bS (l' := ((p.l.set k ⟨{ z.it with child := c }, z.kv, z.vv⟩).map bT.cells).flatten ++ cur) ho hg hx hy h1 rfl oE .here (by rw [ga]; exact BM hk oM _) (E8 hz _) j6 (fun w2 ND => h w2 ?_);refine Jn hf (by rw [qC]) ?_;rw [Bo hz (x' := ⟨{ z.it with child := c }, z.kv, z.vv⟩) rfl];exact ND
theorem Um {p : bm} {ib ic k o : Nat} {z : bT} {kv : Value} {key : bN} {R1 : List az} (ho : ops[i]? = some ⟨none, .store s x y, t, pp, af, g⟩) (hg : Gd ops e g) (hx : ev e x = some (.pointer (some ⟨ib, o, none⟩))) (hy : ev e y = some kv) (h1 : lE P s = true)
  (hw : ar G L w) (hq : dg (row 5 1 kv key.length (dV key)) L R1) (hp : dg (aR p) R1 R) (hs : p.s = sQ ib p.l.length ic) (hz : p.l[k]? = some z) (aJ : o = k * 4 + 0) (j6 : iI P ops dr done i = [])
  (h : ∀ w', ar G (aR { p with l := p.l.set k ⟨{ z.it with key := key }, kv, z.vv⟩ } :: R) w' -> XL P n ops dr (i :: done) r K e w') : XL P n ops dr done (i :: r) K e w := by
 have hk := (nU.1 hz).1;obtain ⟨ka, kc, Qs⟩ := aM (hw.pick hq);obtain ⟨ib', ic', cur, hf, oE⟩ := DW ((hw.pick hq).AZ (As := [aR p]) (.cons (.there hp) .nil)) oM;have hb := hf.s;rw [hs] at hb; cases hb;have e1 : o = 0 + (k : Int).toNat * 4 + 0 := by rw [aJ, fQ]; omega
 subst e1;refine bS (l' := ((p.l.set k ⟨{ z.it with key := key }, kv, z.vv⟩).map bT.cells).flatten ++ cur) ho hg hx hy h1 (by rw [Qs]; rfl) oE .here (by rw [ga]; exact BM hk oM _) ((za hz _).trans (by rw [tS, tS]; rfl)) j6 (fun w2 ND => h w2 ?_);refine Jn hf (by rw [qC]) ?_;have mh := ND.b [aT _, row 5 1 kv _ _, ag ib _ _, row 5 1 p.d _ _];have hz3 := C2 (y := ⟨{ z.it with key := key }, kv, z.vv⟩) hz rfl rfl mh;exact hz3.b [ag ib _ _, aT _, row 5 1 p.d _ _]
theorem Rs {p : bm} {ib ic k o : Nat} {z : bT} {kv : Value} {key : bN} {c : Int} {R1 : List az} (ho : ops[i]? = some ⟨none, .store s x y, t, pp, af, g⟩) (hg : Gd ops e g) (hx : ev e x = some (.pointer (some ⟨ib, o, none⟩))) (hy : ev e y = some (gQ (bT.cells ⟨⟨key, [], c, 0⟩, kv, nQ⟩))) (h1 : kV P s 4 = true)
  (hw : ar G L w) (hq : dg (row 5 1 kv key.length (dV key)) L R1) (hp : dg (aR p) R1 R) (hs : p.s = sQ ib p.l.length ic) (hz : p.l[k]? = some z) (aJ : o = k * 4) (j6 : iI P ops dr done i = [])
  (h : ∀ w', ar G (aR { p with l := p.l.set k ⟨⟨key, [], c, 0⟩, kv, nQ⟩ } :: R) w' -> XL P n ops dr (i :: done) r K e w') : XL P n ops dr done (i :: r) K e w := by
 have hk := (nU.1 hz).1;obtain ⟨ka, kc, Qs⟩ := aM (hw.pick hq);obtain ⟨ib', ic', cur, hf, oE⟩ := DW ((hw.pick hq).AZ (As := [aR p]) (.cons (.there hp) .nil)) oM;have hb := hf.s;rw [hs] at hb; cases hb;subst aJ;refine aL (z := 4) (cs := bT.cells ⟨⟨key, [], c, 0⟩, kv, nQ⟩) (l' := ((p.l.set k ⟨⟨key, [], c, 0⟩, kv, nQ⟩).map bT.cells).flatten ++ cur) ho hg hx hy h1 rfl (by
  intro u hu;rw [Qs] at hu;simp only [bT.cells, bB, cW, or_false] at hu
  rcases hu with rfl | rfl | rfl | rfl <;> rfl) oE .here (by rw [ga]; omega) (by rw [tS]; exact ui (kX _) rfl (by rw [bA]; exact hk)) j6 (fun w2 ND => h w2 ?_)
 refine Jn hf (by rw [qC]) ?_;have SI := cf ND 5 1;have mh := SI.b [aT _, row 5 1 kv _ _, row 5 1 (nQ) 0 [], ag ib _ _, row 5 1 p.d _ _];have hz3 := Ka (y := ⟨⟨key, [], c, 0⟩, kv, nQ⟩) hz mh;exact hz3.b [ag ib _ _, aT _, row 5 1 p.d _ _]
end
def G0 (new : It) (V : Va) (T : Tr) (n : Int) (p : Pg) : Va × Tr × Int :=
 let at_ := (dw new.key p.items 0).1
 if p.items.length <= at_ then (V, T, 5) else
 let w := V.write n { p with items := p.items.take at_ ++ [new] ++ p.items.drop (at_ + 1) }
 if w.1 ≠ 0 then (w.2, T, w.1) else
 let r := nq w.2 (p.items.getD at_ zF)
 (r.2, T, r.1)
def Lu (b : Bool) (new : It) : Va -> Tr -> Int -> Pg -> Va × Tr × Int := if b = true then G0 new else Ch new
def Zq (b : Bool) : Nat := if b = true then 47 else 46
def yT (f : Nat) (V : Va) (T : Tr) (key value : bN) : Option (Tr × Bool × Int × Va) :=
 if ¬ (1 <= key.length /\ key.length <= 24) then some (kp, false, 7, V) else if 3840 < value.length then some (kp, false, 8, V) else
 if (nV V.rd T key).2.2 ≠ 0 then some (kp, false, (nV V.rd T key).2.2, V) else
 if (cN V key value).1 ≠ 0 then some (kp, false, (cN V key value).1, V) else
 match Bz (cN V key value).2.1 (Lu (nV V.rd T key).2.1 (cN V key value).2.1) f (cN V key value).2.2 T with
 | none => none
 | some r => some (if r.2.2 ≠ 0 then (kp, false, r.2.2, V) else (r.2.1, (nV V.rd T key).2.1, 0, r.1))
theorem Lt.rep {V : Va} (aJ : V.Ok) (new : It) (T : Tr) (n : Int) (p : Pg) : Lt V 4294967300 (G0 new V T n p).1 := by
 unfold G0;simp only;have h := Lt.write aJ n { p with items := p.items.take (dw new.key p.items 0).1 ++ [new] ++ p.items.drop ((dw new.key p.items 0).1 + 1) };split
 ·exact (Lt.refl aJ).mono oM
 split
 ·exact h.mono oM
 exact (h.trans (Lt.rel h.ok _)).mono oM
theorem Su (b : Bool) (new : It) : ∀ (V : Va) (T : Tr) (n : Int) (p : Pg), V.Ok -> Lt V 4294967300 (Lu b new V T n p).1 := fun V T n p aJ => by
 unfold Lu;split
 ·exact Lt.rep aJ _ _ _ _
 exact (Lt.add aJ _ _ _ _).mono oM
theorem Lf {key : bN} {leaf : Va -> Tr -> Int -> Pg -> Va × Tr × Int} (hl : ∀ (V : Va) (T : Tr) (n : Int) (p : Pg), V.Ok -> Lt V 4294967300 (leaf V T n p).1) {r : Va × Tr × Int} : ∀ {f : Nat} {V : Va} {T : Tr} {n : Int}, V.Ok -> Ae key leaf f V T n = some r -> Lt V (20 * f + 4294967300) r.1
 | 0, V, T, n, _, h => by rw [Ae] at h; cases h
 | f + 1, V, T, n, aJ, h => by
  rw [Ae] at h;split at h
  ·cases h; exact (Lt.refl aJ).mono oM
  split at h
  ·cases h; exact (hl _ _ _ _ aJ).mono oM
  have hd := Lt.down aJ n (by assumption) key;split at h
  ·cases h; exact hd.mono oM
  exact (hd.trans (Lf hl hd.ok h)).mono oM
theorem Ld {new : It} {leaf : Va -> Tr -> Int -> Pg -> Va × Tr × Int} (hl : ∀ (V : Va) (T : Tr) (n : Int) (p : Pg), V.Ok -> Lt V 4294967300 (leaf V T n p).1) {r : Va × Tr × Int} {f : Nat} {V : Va} {T : Tr} (aJ : V.Ok) (h : Bz new leaf f V T = some r) : Lt V (20 * f + 4294967321) r.1 := by
 unfold Bz at h;split at h
 ·cases h; exact (Lt.make aJ _).mono oM
 have hr := Lt.root aJ T;split at h
 ·cases h; exact hr.mono oM
 exact (hr.trans (Lf hl hr.ok h)).mono oM
section
variable {G : Gh} {L R : List az} {w : World}
theorem vi {vq xq : Nat} {V : Va} {T : Tr} {x : bT} {was : Bool} {n : Int} {p : bm} (hw : ar G (aZ vq V :: ag xq (yU vq T x was) 116 :: aR p :: L) w) (aJ : V.Ok) (dm : V.sz <= 999999999900) (hx : x.Ok L) (ft : p.Sm) (hT : 0 <= T.items /\ T.items <= 1000000000000) (py : V.rd n = some p.pg) :
  Calls prog 47 #[pQ xq, iQ n, gQ p.cells] w (dv fun r w' => r = iQ (G0 x.it V T n p.pg).2.2 /\ ar G (aZ vq (G0 x.it V T n p.pg).1 :: ag xq (yU vq (G0 x.it V T n p.pg).2.1 x was) 116 :: L) w') := by
 have kA : p.pg.items.length = p.l.length := by simp [bm.pg]
 have Yi := (fP (Va.vL aJ py)).1;obtain ⟨ia, ic, hs⟩ := ft.form hw pK;refine al (args := [_, _, _]) func47 rfl ntmps47 rfl rfl ?_;refine z2 ?_;refine bE rfl rfl rfl hw rfl fun w b5 hw => ?_;refine z3 ?_;refine bu [0, 1, 2, 3, 4, 5, 6, 7, 8, 9, 10, 11] bK kR ?_;replace hw := hw.drawn (w.drawn + 1);refine lA (l := p.cells) ad hw ?_;refine z3 ?_;refine cy rfl cE rfl ?_;refine lD (v := x.kv) ay hw ?_;refine an rfl mo rfl (nG (p := p) hw (aB ft pK) (hx.k.of sF)) kR fun w TV hv => ?_;obtain ⟨rfl, hw⟩ := hv;obtain ⟨at_, oY⟩ : ∃ a, a = (dw x.it.key p.pg.items 0).1 := ⟨_, rfl⟩;rw [<-oY];have MY : G0 x.it V T n p.pg = if p.pg.items.length <= at_ then (V, T, 5) else if (V.write n { p.pg with items := p.pg.items.take at_ ++ [x.it] ++ p.pg.items.drop (at_ + 1) }).1 ≠ 0 then ((V.write n { p.pg with items := p.pg.items.take at_ ++ [x.it] ++ p.pg.items.drop (at_ + 1) }).2, T, (V.write n { p.pg with items := p.pg.items.take at_ ++ [x.it] ++ p.pg.items.drop (at_ + 1) }).1) else
   ((nq (V.write n { p.pg with items := p.pg.items.take at_ ++ [x.it] ++ p.pg.items.drop (at_ + 1) }).2 (p.pg.items.getD at_ zF)).2, T, (nq (V.write n { p.pg with items := p.pg.items.take at_ ++ [x.it] ++ p.pg.items.drop (at_ + 1) }).2 (p.pg.items.getD at_ zF)).1) := by
  unfold G0; rw [<-oY]
 refine Oc ?_;refine bt rfl rfl (aj.bx (v := .slice ia p.l.length ic) ao hw pK (by rw [<-hs]; rfl)) ?_;refine z3 ?_;refine aS rfl (fun h1 => ?_) fun h1 => ?_
 ·
  rw [ah oM] at MY;refine z5 ?_;exact br rfl rfl rfl (by
 rw [MY];exact ⟨rfl, (hw.b [ag b5 _ _, aR p]).tail.tail⟩)
 rw [ae oM] at MY;obtain ⟨y, hy⟩ : ∃ y, p.l[at_]? = some y := ⟨_, cV oM⟩;have Wx : p.pg.items.getD at_ zF = y.it := by
  rw [qW, show p.pg.items[at_]? = some y.it by show (p.l.map bT.it)[at_]? = _; rw [dB, hy]; rfl]; rfl
 rw [Wx] at MY;obtain ⟨ib, ic2, vw⟩ := qF hw (p := p) pK oM;rw [hs] at vw
 cases vw;have GM : ∀ {w : World} {L : List az}, ar G (aR p :: L) w -> jN y.cells := fun hw => mB ((aB ft (L := aR p :: _) .here).its.it y (ed hy)) hw
 refine z4 ?_;refine bt rfl rfl (aj.bx (v := .slice (some ⟨ib, 0, none⟩) p.l.length ic) ao hw pK (by rw [<-hs]; rfl)) ?_;refine z1 ?_;refine dD rfl aG aY rfl rfl ⟨oM, oM⟩ ?_;refine bt rfl rfl (aj.many (cs := y.cells) aI rfl (by
 have h2 := (aB ft (L := aR p :: _) .here).its.sl.at (hw.b [aR p]);rw [hs] at h2
 rw [fQ];exact h2.at (show (p.l.map bT.cells)[at_]? = some y.cells by rw [dB, hy]; rfl))) ?_
 refine aN rfl fV hw rfl fun w b9 hw => ?_;refine aL (cs := y.cells) (l' := y.cells) rfl tV rfl rfl aI rfl (GM (hw.b [aR p])) hw pK (by simp [bT.cells]) rfl rfl fun w hw => ?_;refine z2 ?_;refine bu [0, 1, 2, 3, 4, 5, 6, 7, 8, 9, 10] bK kR ?_;replace hw := hw.drawn (w.drawn + 1);refine lA (l := p.cells) ad hw ?_;refine z4 ?_;refine bt rfl rfl (aj.Kb (cs := x.cells) aI hw pK (by rfl) rfl) ?_;refine an rfl Ca rfl (DG (p := p) (x := x) (at_ := at_) hw (aB ft pK) (sR (hw.pick (A := aR p) pK)) (hx.of sF) oM) kR fun w v38 hv => ?_;obtain ⟨-, p2, rfl, T6, Dj, hw⟩ := hv.resolve_left (fun h => h.1 oM);have JP := cF (aB Dj pK) hw;refine z3 ?_;refine aL (cs := p2.cells) (l' := p2.cells) rfl tV rfl rfl ad rfl JP hw pK (by simp [bm.cells]) rfl kR fun w hw => ?_;refine z3 ?_;refine bu [0, 1, 2, 3, 4, 5, 6, 7] bK kR ?_;replace hw := hw.drawn (w.drawn + 1);refine z3 ?_;refine lD (v := pQ vq) au hw ?_;refine z1 ?_;refine lA (l := p2.cells) ad hw ?_;refine an rfl fU rfl (gA (p := p2) (n := n) (hw.b [aZ vq V]) (aB Dj pK) aJ oM) kR fun w v47 hv => ?_;rw [T6] at hv;obtain ⟨rfl, hw⟩ := hv;have LM := Lt.write aJ n { p.pg with items := p.pg.items.take at_ ++ [x.it] ++ p.pg.items.drop (at_ + 1) };obtain ⟨z, XN⟩ : ∃ z, z = V.write n { p.pg with items := p.pg.items.take at_ ++ [x.it] ++ p.pg.items.drop (at_ + 1) } := ⟨_, rfl⟩;rw [<-XN] at hw LM MY
 rw [<-XN];have hwo := LM.ok;have Iw := LM.sz;refine z7 ?_;refine aS rfl (fun h2 => ?_) fun h2 => ?_
 ·
  rw [ah h2] at MY;refine z6 ?_;exact br rfl rfl rfl (by
 rw [MY];exact ⟨rfl, (hw.b [aR p2, ag b9 _ _, ag b5 _ _, aR p]).tail.tail.tail.tail.b [aZ vq _, ag xq _ _]⟩)
 rw [ae h2] at MY;refine z2 ?_;refine bu [0, 1, 2, 3, 4, 5, 6] bK kR ?_;replace hw := hw.drawn (w.drawn + 1);refine z3 ?_;refine lD (v := pQ vq) au hw ?_;refine lA (l := y.cells) aI hw ?_;refine an rfl tw rfl (uT (x := y) (hw.b [aZ vq _]) hwo oM) kR fun w v56 hv => ?_;obtain ⟨rfl, hw⟩ := hv;refine z3 ?_;exact br rfl rfl rfl (by
 rw [MY];exact ⟨rfl, (hw.b [aR p2, ag b9 _ _, ag b5 _ _, aR p]).tail.tail.tail.tail.b [aZ vq _, ag xq _ _]⟩)
theorem abc {vq xq : Nat} {V : Va} {T : Tr} {x : bT} {was b : Bool} {n : Int} {p : bm} (hw : ar G (aZ vq V :: ag xq (yU vq T x was) 116 :: aR p :: L) w) (aJ : V.Ok) (dm : V.sz <= 999999999900) (hx : x.Ok L) (ft : p.Sm) (hT : 0 <= T.items /\ T.items <= 1000000000000) (py : V.rd n = some p.pg) :
  Calls prog (Zq b) #[pQ xq, iQ n, gQ p.cells] w (dv fun r w' => r = iQ (Lu b x.it V T n p.pg).2.2 /\ ar G (aZ vq (Lu b x.it V T n p.pg).1 :: ag xq (yU vq (Lu b x.it V T n p.pg).2.1 x was) 116 :: L) w') := by
 cases b
 ·exact AL hw aJ dm hx ft hT
 exact vi hw aJ dm hx ft hT py
theorem VZ (b : Bool) : aw prog (Zq b) := by
 cases b
 ·exact zy
 exact uD
theorem wG {vq f : Nat} {V : Va} {T : Tr} {kv vv : Value} {key value : bN} {res : Tr × Bool × Int × Va} (hw : ar G (aZ vq V :: L) w) (aJ : V.Ok) (dm : V.sz + 20 * f <= 999999999000) (kk : aX L (kL kv key)) (kl : aX L (kL vv value)) (hh : 0 <= T.aK /\ T.aK <= 1000000) (hT : 0 <= T.items /\ T.items <= 1000000000000) (bQ : yT f V T key value = some res) :
  Calls prog 19 #[pQ vq, gQ (aC T), kv, vv] w (dv fun r w' => r = .tuple #[gQ (aC res.1), .bool res.2.1, iQ res.2.2.1] /\ ar G (aZ vq res.2.2.2 :: L) w') := by
 obtain ⟨ka, kc, rfl⟩ := (kk.at hw.tail).form;obtain ⟨la, lc, rfl⟩ := (kl.at hw.tail).form;have Vk := aJ.vf;have MS := aJ.pf;refine al (args := [_, _, _, _]) func19 rfl ntmps19 rfl rfl ?_;refine z2 ?_;refine bE rfl rfl rfl hw rfl fun w b4 hw => ?_;refine bE rfl rfl rfl hw rfl fun w b5 hw => ?_;refine aN rfl mu hw rfl fun w b8 hw => ?_;refine aN rfl Ri hw rfl fun w b9 hw => ?_;refine aN rfl rk hw rfl fun w qk hw => ?_;refine z9 ?_;refine bY (l1 := [4, 5, 6, 7]) (l2 := [8]) rfl (d := 22) (¬ (1 <= key.length /\ key.length <= 24)) rfl ?_ ?_
 ·
  refine aE (d := 18) rfl (fun h1 => ?_) fun h1 => ?_
  ·
   refine z5 ?_;refine cQ ?_
   first | (symm; rw [decide_eq_true_eq]; omega) | (refine cZ.2 ?_; omega)
  refine z5 ?_;refine cQ ?_
  first | (symm; rw [decide_eq_true_eq]; omega) | (refine cZ.2 ?_; omega)
 refine z2 ?_;refine aS rfl (fun h2 => ?_) fun h2 => ?_
 ·
  have e : some res = some (kp, false, 7, V) := by rw [<-bQ]; unfold yT; rw [ah h2]
  cases e;refine z2 ?_;refine aQ (v := .agg #[iQ 0, iQ 0, iQ 0]) rfl rfl (fun w => kR) ?_;refine aL (cs := aC kp) (l' := aC kp) rfl tV rfl rfl aF rfl (by intro u hu; simp [aC] at hu; rcases hu with rfl | rfl | rfl <;> rfl) hw pK (by simp [aC]) rfl rfl (fun w hw => ?_);refine bS (l' := [.bool false]) rfl tV rfl rfl cr rfl hw pK rfl rfl rfl fun w hw => ?_;refine bS (l' := [iQ 7]) rfl tV rfl rfl aD rfl hw pK rfl rfl rfl fun w hw => ?_;refine z2 ?_;refine xQ rfl rfl ⟨_, rfl, (aj.cw (l := aC kp) aF hw pK rfl)⟩ ⟨_, rfl, (aj.bx (v := .bool false) cr hw pK rfl)⟩ ⟨_, rfl, (aj.bx (v := iQ 7) aD hw pK rfl)⟩ ⟨rfl, ?_⟩;exact (hw.b [ag qk _ _, ag b9 _ _, ag b8 _ _, ag b5 _ _, ag b4 _ _]).tail.tail.tail.tail.tail
 have Yt := cJ.1 h2;refine z7 ?_;refine aS rfl (fun h3 => ?_) fun h3 => ?_
 ·
  have e : some res = some (kp, false, 8, V) := by rw [<-bQ]; unfold yT; rw [ae h2, ah oM]
  cases e;refine z2 ?_;refine aQ (v := .agg #[iQ 0, iQ 0, iQ 0]) rfl rfl (fun w => kR) ?_;refine aL (cs := aC kp) (l' := aC kp) rfl tV rfl rfl aF rfl (by intro u hu; simp [aC] at hu; rcases hu with rfl | rfl | rfl <;> rfl) hw pK (by simp [aC]) rfl rfl (fun w hw => ?_);refine bS (l' := [.bool false]) rfl tV rfl rfl cr rfl hw pK rfl rfl rfl fun w hw => ?_;refine bS (l' := [iQ 8]) rfl tV rfl rfl aD rfl hw pK rfl rfl rfl fun w hw => ?_;refine z2 ?_;refine xQ rfl rfl ⟨_, rfl, (aj.cw (l := aC kp) aF hw pK rfl)⟩ ⟨_, rfl, (aj.bx (v := .bool false) cr hw pK rfl)⟩ ⟨_, rfl, (aj.bx (v := iQ 8) aD hw pK rfl)⟩ ⟨rfl, ?_⟩;exact (hw.b [ag qk _ _, ag b9 _ _, ag b8 _ _, ag b5 _ _, ag b4 _ _]).tail.tail.tail.tail.tail
 have abG : value.length <= 3840 := oM;refine z3 ?_;refine lD (v := pQ vq) au hw ?_;refine lA (l := aC T) aF hw ?_;refine z1 ?_;refine an rfl AX rfl (CY (t := T) (key := key) (hw.b [aZ vq V]) aJ (kk.of sF) oM) rfl fun w v33 hv => ?_;obtain ⟨gv, rfl, hw⟩ := hv;obtain ⟨g, hg⟩ : ∃ g, g = nV V.rd T key := ⟨_, rfl⟩
 (try unfold sQ at hw); rw [<-hg] at hw
 rw [<-hg];refine z4 ?_;refine bS (l' := [.bool g.2.1]) rfl tV rfl rfl cr rfl hw pK rfl rfl rfl fun w hw => ?_;refine bS (l' := [iQ g.2.2]) rfl tV rfl rfl aD rfl hw pK rfl rfl rfl fun w hw => ?_;refine z4 ?_;refine lD (v := iQ g.2.2) aD hw ?_;refine z2 ?_;refine aS rfl (fun h4 => ?_) fun h4 => ?_
 ·
  have e : some res = some (kp, false, g.2.2, V) := by rw [<-bQ, hg]; unfold yT; rw [ae h2, ae oM, ah (by rw [<-hg]; exact h4)]
  cases e;refine zL ?_;refine bu [0, 1, 2, 3, 4] bK kR ?_;replace hw := hw.drawn (w.drawn + 1);refine aQ (v := .agg #[iQ 0, iQ 0, iQ 0]) rfl rfl (fun w => kR) ?_;refine lD (v := iQ g.2.2) aD hw ?_;refine vz (cs := aC kp) (l' := aC kp) rfl tV rfl rfl aF rfl (by intro u hu; simp [aC] at hu; rcases hu with rfl | rfl | rfl <;> rfl) hw pK (by simp [aC]) rfl (fun w hw q' hq => ?_) (fun w hw => ?_)
  ·
   have hq := a9 (l := [1]) kR hq;simp only [bB, cW, or_false] at hq;subst hq;exact aV rfl rfl rfl (aj.bx (v := iQ g.2.2) aD hw pK rfl)
  refine rW (l' := [.bool false]) rfl tV rfl rfl cr rfl hw pK rfl rfl (fun w hw q' hq => ?_) fun w hw => ?_
  ·
   have hq := a9 (l := [1]) kR hq;simp only [bB, cW, or_false] at hq;subst hq;exact aV rfl rfl rfl (aj.bx (v := iQ g.2.2) aD hw pK rfl)
  refine bS (l' := [iQ g.2.2]) rfl tV rfl rfl aD rfl hw pK rfl rfl kR fun w hw => ?_;refine z2 ?_;refine xQ rfl rfl ⟨_, rfl, (aj.cw (l := aC kp) aF hw pK rfl)⟩ ⟨_, rfl, (aj.bx (v := .bool false) cr hw pK rfl)⟩ ⟨_, rfl, (aj.bx (v := iQ g.2.2) aD hw pK rfl)⟩ ⟨rfl, ?_⟩;exact (hw.b [ag qk _ _, ag b9 _ _, ag b8 _ _, ag b5 _ _, ag b4 _ _, row 5 1 gv _ _]).tail.tail.tail.tail.tail.tail
 have hg0 : g.2.2 = 0 := cJ.1 h4;rw [hg0] at hw;refine z3 ?_;refine lD (v := pQ vq) au hw ?_;refine an rfl fg rfl (fH (hw.b [aZ vq V]) ⟨Vk, by unfold Va.sz at dm; omega⟩) rfl (fun w Zg hv => ?_);obtain ⟨rfl, hw⟩ := hv;refine aN rfl HS hw rfl fun w mT hw => ?_;refine bS (l' := [iQ V.mark]) rfl tV rfl rfl ai rfl hw pK rfl rfl rfl fun w hw => ?_;refine z2 ?_;refine Of (fs := 0) (fn := .func 43) (first := #[]) (captured := #[pQ qk, pQ b4, pQ mT, pQ b8, pQ b9]) (hm := rfl) rfl ?_;refine mO (v1 := #[]) (v2 := #[pQ qk, pQ b4, pQ mT, pQ b8, pQ b9]) rfl (by intro z hz; simp at hz; rcases hz with rfl | rfl | rfl | rfl | rfl <;> exact ⟨_, rfl⟩) sM (by simp only [oS, cG, j3]; rfl) ?_;refine aH ?_;refine ⟨rfl, ?_⟩;refine z2 ?_;refine lD (v := pQ vq) au hw ?_;refine lA (l := aC T) aF hw ?_;refine lD (v := .bool g.2.1) cr hw ?_;refine aQ (v := gQ (yU vq T ⟨zF, nQ, nQ⟩ g.2.1)) rfl rfl (fun w => kR) ?_;refine bE rfl rfl rfl hw rfl fun w Rb hw => ?_;refine z5 ?_;refine lD (v := pQ vq) au hw ?_;refine z2 ?_;refine an rfl Gt rfl (HE (key := key) (value := value) (hw.b [aZ vq V]) aJ oM (kk.of sF) (kl.of sF) (by unfold bz; omega) (by unfold bz; omega)) rfl (fun w v54 hv => ?_);obtain ⟨x', rfl, TZ, hw⟩ := hv;have kO := Er aJ key value;have T0 := kO.sz;have q8 := kO.ok;have T4 := RM (V := V) (value := value) Yt.2;have Ya := PA (V := V) (key := key) (value := value);obtain ⟨st, gD⟩ : ∃ st, st = cN V key value := ⟨_, rfl⟩;rw [<-gD] at hw TZ T0 q8 T4 Ya kO
 rw [<-gD];have Ko : jN x'.cells := by
  have h0 := hw.b [aT (bn x')];have h1 := h0.cD;obtain ⟨a1, c1, h2⟩ := aM h1;obtain ⟨a2, c2, h3⟩ := aM h1.tail;intro u hu;simp [bT.cells, h2, h3] at hu;rcases hu with rfl | rfl | rfl | rfl <;> rfl
 refine z5 ?_;refine aL (cs := x'.cells) (l' := yU vq T x' g.2.1) rfl tV rfl rfl aI rfl Ko hw pK (by simp [yU, bT.cells]) rfl rfl fun w hw => ?_;refine bS (l' := [iQ st.1]) rfl tV rfl rfl aD rfl hw pK rfl rfl rfl fun w hw => ?_;refine z4 ?_;refine lD (v := iQ st.1) aD hw ?_;refine z2 ?_;refine aS rfl (fun h5 => ?_) fun h5 => ?_
 ·
  have e : some res = some (kp, false, st.1, V) := by rw [<-bQ, gD]; unfold yT; rw [ae h2, ae oM, ae (by rw [<-hg]; exact h4), ah (by rw [<-gD]; exact h5)]
  cases e;rw [Ya h5] at hw;refine zL ?_;refine bu [0, 1, 2, 3, 4, 5] bK kR ?_;replace hw := hw.drawn (w.drawn + 1);refine lA (l := [iQ 0, iQ 0, iQ 0]) aF hw ?_;refine lD (v := .bool g.2.1) cr hw ?_;refine lD (v := iQ st.1) aD hw ?_;refine vz (cs := aC kp) (l' := aC kp) rfl tV rfl rfl aF rfl (by intro u hu; simp [aC] at hu; rcases hu with rfl | rfl | rfl <;> rfl) hw pK (by simp [aC]) rfl (fun w hw q' hq => ?_) (fun w hw => ?_)
  ·
   have hq := a9 (l := [2, 1]) kR hq;simp only [bB, cW, or_false] at hq;rcases hq with rfl | rfl
   ·exact aV rfl rfl rfl (aj.bx (v := iQ st.1) aD hw pK rfl)
   exact aV rfl rfl rfl (aj.bx (v := .bool g.2.1) cr hw pK rfl)
  refine rW (l' := [.bool g.2.1]) rfl tV rfl rfl cr rfl hw pK rfl rfl (fun w hw q' hq => ?_) fun w hw => ?_
  ·
   have hq := a9 (l := [2]) kR hq;simp only [bB, cW, or_false] at hq;subst hq;exact aV rfl rfl rfl (aj.bx (v := iQ st.1) aD hw pK rfl)
  refine bS (l' := [iQ st.1]) rfl tV rfl rfl aD rfl hw pK rfl rfl kR fun w hw => ?_;refine z2 ?_;have hz := hw.b [aZ vq V, ag qk _ _, ag b4 _ _, ag mT _ _, ag b8 _ _, ag b9 _ _];refine bX rfl ?_;refine tY yz (AM hz aJ oM ⟨by unfold Va.mark; omega, oM⟩) (fun v w hv => ?_);obtain ⟨-, hw⟩ := hv.resolve_right (fun h => h5 h.1);rw [show (V.mark - V.mark).toNat = 0 by omega, show V.popN 0 = V from rfl] at hw;refine Jw rfl ⟨_, rfl, (aj.cw (l := aC kp) aF hw pK rfl)⟩ ⟨_, rfl, (aj.bx (v := .bool false) cr hw pK rfl)⟩ ⟨_, rfl, (aj.bx (v := iQ st.1) aD hw pK rfl)⟩ ⟨rfl, ?_⟩;exact (hw.b [ag qk _ _, ag b4 _ _, ag mT _ _, ag b8 _ _, ag b9 _ _, aT (bn x'), ag Rb _ _, row 5 1 gv _ _, ag b5 _ _]).tail.tail.tail.tail.tail.tail.tail.tail.tail
 have h5 : st.1 = 0 := cJ.1 h5;rw [h5] at hw;have e : yT f V T key value = match Bz st.2.1 (Lu g.2.1 st.2.1) f st.2.2 T with
   | none => none
   | some r => some (if r.2.2 ≠ 0 then (kp, false, r.2.2, V) else (r.2.1, g.2.1, 0, r.1)) := by
  unfold yT; rw [ae h2, ae oM, ae (by rw [<-hg]; exact h4), ae (by rw [<-gD]; omega), <-gD, <-hg]
 rw [e] at bQ;obtain ⟨r, hr⟩ : ∃ r, Bz st.2.1 (Lu g.2.1 st.2.1) f st.2.2 T = some r := by
  cases h : Bz st.2.1 (Lu g.2.1 st.2.1) f st.2.2 T with
  | none => rw [h] at bQ; cases bQ
  | some r => exact ⟨r, rfl⟩
 rw [hr] at bQ;have bQ := Option.some.inj bQ;rw [<-TZ] at hr
 have kA := kO.trans (Ld (Su _ _) q8 hr);have hpu := kA.GX;have ft := kA.sz;have xp := kA.ok;have ot : ∀ R, x'.Ok (row 5 1 x'.kv x'.it.key.length (dV x'.it.key) :: row 5 1 x'.vv x'.it.value.length (dV x'.it.value) :: R) := fun R =>
  ⟨vH rfl .here, vH rfl (.there .here), by rw [TZ]; exact T4.1, by rw [TZ]; exact T4.2⟩
 have hz := (hw.b [aT (bn x')]).cD;simp only [bn, j4, jG] at hz;clear hw;have hw := hz;clear hz;refine z4 ?_;refine mO (v1 := #[pQ Rb]) (v2 := #[]) rfl (by intro z hz; simp at hz; subst hz; exact ⟨_, rfl⟩) (by simp only [oS, cG, j3]; rfl) sM ?_;refine z2 ?_;refine mZ (fun e w => e = [(1000000000, .func (.func 43) #[] #[pQ qk, pQ b4, pQ mT, pQ b8, pQ b9]), (8, pQ b8), (9, pQ b9), (10, pQ qk), (12, pQ Rb), (13, .func (.func (Zq g.2.1)) #[pQ Rb] #[])] /\ ar G (row 5 1 x'.kv x'.it.key.length (dV x'.it.key) :: row 5 1 x'.vv x'.it.value.length (dV x'.it.value) :: aZ vq st.2.2 :: ag Rb (yU vq T x' g.2.1) 116 :: ag qk [iQ 0] 41 :: ag b4 [pQ vq] 28 :: ag mT [iQ V.mark] 3 :: ag b8 (aC kp) 62 :: ag b9 [.bool g.2.1] 4 :: row 5 1 gv g.1.length (dV g.1) :: ag b5 (aC T) 62 :: L) w) ?_ ?_
 ·
  refine z2 ?_;refine lD (v := .bool g.2.1) cr hw ?_;refine aH ?_;refine fm rfl (fun h6 => ?_) fun h6 => ?_
  ·
   refine z2 ?_;refine mO (v1 := #[pQ Rb]) (v2 := #[]) rfl (by intro z hz; simp at hz; subst hz; exact ⟨_, rfl⟩) (by simp only [oS, cG, j3]; rfl) sM ?_;refine z2 ?_;have Ba : Zq g.2.1 = 47 := by rw [h6]; rfl
   have hz := hw.b [row 5 1 x'.kv _ _, row 5 1 x'.vv _ _, aZ vq _, ag Rb _ _, ag qk _ _, ag b4 _ _, ag mT _ _, ag b8 _ _, ag b9 _ _, row 5 1 gv _ _, ag b5 _ _];rw [Ba];exact ⟨[(1000000000, _), (8, _), (9, _), (10, _), (12, _), (13, _)], sB, rfl, hz⟩
  refine eH ?_;have Ba : Zq g.2.1 = 46 := by rw [h6]; rfl
  have hz := hw.b [row 5 1 x'.kv _ _, row 5 1 x'.vv _ _, aZ vq _, ag Rb _ _, ag qk _ _, ag b4 _ _, ag mT _ _, ag b8 _ _, ag b9 _ _, row 5 1 gv _ _, ag b5 _ _];rw [Ba];exact ⟨[(1000000000, _), (8, _), (9, _), (10, _), (12, _), (13, _)], sB, rfl, hz⟩
 clear hw;rintro e w ⟨rfl, hw⟩;refine z4 ?_;refine an rfl zx rfl (AK (f := f) (lf := Zq g.2.1) (leaf := Lu g.2.1 x'.it) (res := r) (x := x') (T := T) (was := g.2.1) (hw.b [aZ vq st.2.2, ag Rb _ _, row 5 1 x'.kv _ _, row 5 1 x'.vv _ _]) q8 oM (ot _) hh hT (VZ _) (fun hw aJ dm hx ft hT py => abc hw aJ dm hx ft hT py) hr) rfl fun w v71 hv => ?_;obtain ⟨rfl, hw⟩ := hv;refine bS (l' := [iQ r.2.2]) rfl tV rfl rfl aD rfl hw pK rfl rfl rfl fun w hw => ?_;refine z2 ?_;refine bu [0, 1, 2, 3, 4, 5, 6, 7, 8] bK kR ?_;replace hw := hw.drawn (w.drawn + 1);refine z3 ?_;refine bt rfl rfl (aj.Kb (cs := aC r.2.1) aF hw pK (by rfl) rfl) ?_;refine lD (v := .bool g.2.1) cr hw ?_;refine lD (v := iQ r.2.2) aD hw ?_;refine vz (cs := aC r.2.1) (l' := aC r.2.1) rfl tV rfl rfl aF rfl (by intro u hu; simp [aC] at hu; rcases hu with rfl | rfl | rfl <;> rfl) hw pK (by simp [aC]) rfl (fun w hw q' hq => ?_) (fun w hw => ?_)
 ·
  have hq := a9 (l := [5, 4]) kR hq;simp only [bB, cW, or_false] at hq;rcases hq with rfl | rfl
  ·exact aV rfl rfl rfl (aj.bx (v := iQ r.2.2) aD hw pK rfl)
  exact aV rfl rfl rfl (aj.bx (v := .bool g.2.1) cr hw pK rfl)
 refine rW (l' := [.bool g.2.1]) rfl tV rfl rfl cr rfl hw pK rfl rfl (fun w hw q' hq => ?_) fun w hw => ?_
 ·
  have hq := a9 (l := [5]) kR hq;simp only [bB, cW, or_false] at hq;subst hq;exact aV rfl rfl rfl (aj.bx (v := iQ r.2.2) aD hw pK rfl)
 refine bS (l' := [iQ r.2.2]) rfl tV rfl rfl aD rfl hw pK rfl rfl kR fun w hw => ?_;refine z2 ?_;have hz := hw.b [aZ vq r.1, ag qk _ _, ag b4 _ _, ag mT _ _, ag b8 _ _, ag b9 _ _];refine bX rfl ?_;refine tY yz (AM hz xp oM ⟨hpu.2.1, hpu.2.2⟩) fun v w hv => ?_
 by_cases h7 : r.2.2 = 0
 ·rw [ae (not_not_intro h7)] at bQ;subst bQ;obtain ⟨-, hw⟩ := hv.resolve_left (fun h => h.1 h7);rw [h7] at hw
  refine Jw rfl ⟨_, rfl, (aj.cw (l := aC r.2.1) aF hw pK rfl)⟩ ⟨_, rfl, (aj.bx (v := .bool g.2.1) cr hw pK rfl)⟩ ⟨_, rfl, (aj.bx (v := iQ 0) aD hw pK rfl)⟩ ⟨rfl, ?_⟩;exact (hw.b [ag qk _ _, ag b4 _ _, ag mT _ _, ag b8 _ _, ag b9 _ _, ag Rb _ _, row 5 1 x'.kv _ _, row 5 1 x'.vv _ _, row 5 1 gv _ _, ag b5 _ _]).tail.tail.tail.tail.tail.tail.tail.tail.tail.tail
 rw [ah h7] at bQ;subst bQ;obtain ⟨-, hw⟩ := hv.resolve_right (fun h => h7 h.1);rw [hpu.1] at hw
 refine Jw rfl ⟨_, rfl, (aj.cw (l := aC kp) aF hw pK rfl)⟩ ⟨_, rfl, (aj.bx (v := .bool false) cr hw pK rfl)⟩ ⟨_, rfl, (aj.bx (v := iQ r.2.2) aD hw pK rfl)⟩ ⟨rfl, ?_⟩;exact (hw.b [ag qk _ _, ag b4 _ _, ag mT _ _, ag b8 _ _, ag b9 _ _, ag Rb _ _, row 5 1 x'.kv _ _, row 5 1 x'.vv _ _, row 5 1 gv _ _, ag b5 _ _]).tail.tail.tail.tail.tail.tail.tail.tail.tail.tail
end
def N3 (b : Nat) (l : List Value) (T : TypeId) : az := pt b (.cells l.toArray T (l.length, l.length + 1))
section
variable {P : Program} {n : Nat} {ops : Array Oper} {dr : Bool} {done r : List Nat} {K : gj -> World -> Prop} {e : gj} {w : World} {i d s : Nat} {t : TypeId} {p : String} {af : Array Edge} {g : Option (Nat × Bool)}
variable {G : Gh} {L R : List az}
theorem NU {w : World} {b : Nat} {c : Array Value} {T : TypeId} (h : w.heap[b]? = some (.cells c T (0, 0))) : w.freeze ⟨b, c.size, none⟩ 1 = { w with heap := w.heap.setIfInBounds b (.cells c T (c.size, c.size + 1)) } := by
 obtain ⟨hb, h2⟩ := sO.1 h;unfold World.freeze;rw [ae dM]
 congr 1
 apply Array.ext
 ·simp
 intro k h3 h4;simp only [Array.getElem_modify, Array.getElem_setIfInBounds]
 by_cases hk : b = k
 ·subst hk;rw [ah rfl, Array.getElem_setIfInBounds_self, h2];rfl
 rw [ae hk, UN _ hk]
theorem DS {c : TypeId} {x : Operand} {b m cap : Nat} {l : List Value} {T : TypeId} (ho : ops[i]? = some ⟨some d, .convert s s x, t, p, af, g⟩) (hs : P.underlying s = some (.slice c)) (hc : P.underlying c = some (.int .u8))
  (hx : ev e x = some (sQ b m cap)) (hw : ar G L w) (hp : dg (ag b l T) L R) (j6 : iI P ops dr done i = [])
  (h : ∀ w', ar G (N3 b l T :: R) w' -> XL P n ops dr (i :: done) r K ((d, sQ b m cap) :: e) w') (hd : Nat.blt d n = true := by exact rfl) (hg : Gd ops e g := by first | trivial | exact ⟨_, rfl, rfl⟩) : XL P n ops dr done (i :: r) K e w := by
 have hb := (hw.pick hp).eQ;have Df : w.shape? b = some (T, l.length) := by unfold World.shape?; rw [hb]; simp
 have hfz := NU hb;have lG := (hw.pick hp).set (.cells l.toArray T (l.length, l.length + 1));refine iY ho (by simpa [cS] using hd) hg (ρ := rh e) (by intro z hZ; simp [Op.operands] at hZ; exact GL hx hZ) (by simp [ek, hs]) (v := sQ b m cap) (w' := { w with heap := w.heap.setIfInBounds b (.cells l.toArray T (l.length, l.length + 1)) }) ?_ (gx j6) (h _ lG);simp only [List.size_toArray] at hfz;simp [execOp, bO hx, convert, run_underlying hs, run_underlying hc, markStringish, Df, hfz]
end
theorem Gu {b : Nat} {l : bN} {T : TypeId} {R : List az} : aX (N3 b (dV l) T :: R) (kL (sQ b l.length l.length) l) := fun g w hw => by
 have hb := hw.eQ;refine .inr ⟨b, 0, l.length, rfl, eW _, fun j u hu => ?_⟩;rw [iV, cell_of_row w b _ _ _ _ hb]
 simpa using hu
theorem TJ {b : Nat} {l : List Value} {T : TypeId} {R : List az} : aX (N3 b l T :: R) (tF (sQ b l.length l.length) l) := fun g w hw => by
 have hb := hw.eQ;refine .inr ⟨b, 0, l.length, rfl, eW _, fun j u hu => ?_⟩;rw [iV, cell_of_row w b _ _ _ _ hb]
 simpa using hu
theorem Lc {f : Nat} {V : Va} {T : Tr} {key value : bN} (BO : (nV V.rd T key).2.1 = false) : yT f V T key value = Le f V T key value := by
 unfold yT Le;rw [BO];rfl
theorem VJ {j : Nat} (hj : j < 8) : (dV [97, 98, 99, 100, 109, 110, 111, 112])[j]? = some (bv (Hs.getD j 0)) := by
 rcases j with _ | _ | _ | _ | _ | _ | _ | _ | j <;> first | rfl | omega
theorem PG {b T : Nat} {t : Tr} {R : List az} : aX (row T 4 (sQ b 1 1) 1 (dR (1, t)) :: R) (gC 4 (sQ b 1 1) ([(1, t)].map dR)) := by
 have h := (gC.row (T := T) (z := 4) (m := 1) (v := sQ b 1 1) (rs := [(1, t)].map dR) rfl (fun r hr => by simp at hr; subst hr; rfl)).head R
 simpa using h
theorem U0 {L : List az} : aX L (gC 4 (nQ) (([] : List (Int × Tr)).map dR)) := fun g w hw => .inl ⟨none, rfl, by simp, rfl⟩
theorem RR {r : Rp} (h : r.bad = []) (L : List az) : (⟨r, nQ⟩ : mY).Ok L := ⟨fun g w hw => by rw [h]; exact .inl ⟨⟨none, rfl⟩, rfl⟩, by rw [h]; simp⟩
section
variable {G : Gh} {L R : List az} {w : World}
theorem F7 (hw : ar G L w) (Q0 : aX L EvK) : Calls prog 5 #[] w (dv fun r w' => r = .bool true /\ ar G L w') := by
 refine al (args := []) func5 rfl ntmps5 rfl rfl ?_;refine z6 ?_;refine an rfl yw rfl (AG hw) rfl fun w v12 hv => ?_;obtain ⟨-, vq, om, q, cv, lv, fq, fv, rfl, hw⟩ := hv.resolve_left (fun h => h.1 dM);have hw : ar G (pI [] :: _) w := ar.bH (M := []) hw;have hw := hw.b [ag vq _ _, cX om _];have hw : ar G (aZ vq Tx :: L) w := Ik (on := []) dM (fun x hx => by cases hx) hw;have ab1 : Tx.Ok := Il ⟨by decide, by decide, fun i x hx h0 => by have hm := ed hx; rw [PV hm] at h0; omega⟩;refine KA ?_;refine aE (d := 17) rfl (fun h1 => ?_) fun h1 => ?_
 ·
  exact absurd rfl h1
 refine z1 ?_;refine Oe rfl kR uX rfl ?_;refine z2 ?_;refine fm rfl (fun h2 => ?_) fun h2 => ?_
 ·
  cases h2
 refine z3 ?_;refine aQ (v := gQ (aC kp)) rfl rfl (fun w => kR) ?_;refine aN rfl mu hw rfl fun w b3 hw => ?_;refine aL (cs := aC kp) (l' := aC kp) rfl tV rfl rfl aF rfl (by intro u hu; simp [aC] at hu; rcases hu with rfl | rfl | rfl <;> rfl) hw pK (by simp [aC]) rfl rfl (fun w hw => ?_);refine z4 ?_;refine Ee (cs := dV [97, 98, 99, 100, 109, 110, 111, 112]) rfl bL dX zJ dM rfl kR hw rfl fun w ZN hw => ?_;refine DS rfl bL xz rfl hw pK rfl fun w hw => ?_;refine z4 ?_;have hw := hw.b [ag b3 _ _, N3 ZN _ _, aZ vq Tx];refine cO (fun m e w => ∃ (j : Nat) (T : Tr) (V : Va), j <= 8 /\ m = 8 - j /\ e = [(1, pQ vq), (3, pQ b3), (23, sQ ZN 8 8), (24, iQ 8), (25, iQ j)] /\ (Mc j = some (T, V) /\ V.Ok) /\ ar G (ag b3 (aC T) 62 :: N3 ZN (dV [97, 98, 99, 100, 109, 110, 111, 112]) 5 :: aZ vq V :: L) w)
  (m := 8) sB
  ⟨0, kp, Tx, fo _, rfl, rfl, ⟨rfl, ab1⟩, hw⟩ ?_
 rintro m e w ⟨j, T, V, hj, rfl, rfl, ⟨hfx, aJ⟩, hw⟩;obtain ⟨T', V', hgp, xp, Qx, dm, hh, hT⟩ := Tw oM hfx;have Hb := UR aJ xp;refine z5 ?_;refine aS rfl (fun h3 => ?_) fun h3 => ?_
 ·
  have hj8 : j < 8 := oM;refine z5 ?_;refine fk rfl bL dX rfl rfl ⟨oM, oM⟩ ?_;refine bt rfl rfl (aj.one (v := bv (Hs.getD j 0)) xh (by
 have h := ((TJ (b := ZN) (l := dV [97, 98, 99, 100, 109, 110, 111, 112])).of sF).at hw;exact tF.at h (i := j) (by rw [fQ]; exact VJ hj8))) ?_
  refine z5 ?_;refine lA (l := aC T) aF hw ?_;refine z1 ?_;refine hY (cs := dV [Hs.getD j 0]) rfl bL dX k8 dM rfl rfl rfl hw rfl fun w Y5 hw => ?_;refine Ee (cs := dV [120, 120]) rfl bL dX zJ dM rfl kR hw rfl fun w b34 hw => ?_;refine DS rfl bL xz rfl hw pK rfl fun w hw => ?_;refine an rfl wS rfl (wG (f := 4) (T := T) (key := [Hs.getD j 0]) (value := [120, 120]) ((jE (z := 1) (m := 1) (hw.b [ag Y5 _ _]) rfl dM).b [aZ vq V]) aJ oM ((vH rfl .here).of sF) ((Gu (l := [120, 120])).of sF) oM oM ((Lc hgp).trans xp)) rfl fun w v36 hv => ?_;obtain ⟨rfl, hw⟩ := hv;refine z4 ?_;refine aL (cs := aC T') (l' := aC T') rfl tV rfl rfl aF rfl (by intro u hu; simp [aC] at hu; rcases hu with rfl | rfl | rfl <;> rfl) hw pK (by simp [aC]) rfl rfl (fun w hw => ?_);refine z7 ?_;refine aS rfl (fun h4 => ?_) fun h4 => ?_
  ·
   exact absurd rfl h4
  refine z5 ?_;exact ⟨8 - (j + 1), oM, [(1, _), (3, _), (23, _), (24, _), (25, iQ (j + 1 : Nat))], sB, j + 1, T', V', oM, rfl, rfl, ⟨Qx, Hb⟩, (hw.b [row 5 1 (sQ Y5 _ _) _ _, N3 b34 _ _, ag b3 _ _, N3 ZN _ _, aZ vq V']).tail.tail⟩
 have hj8 : j = 8 := oM;rw [hj8] at Qx xp hgp;refine z4 ?_;refine lA (l := aC T) aF hw ?_;refine hY (cs := dV [113]) rfl bL dX k8 dM rfl rfl rfl hw rfl fun w b46 hw => ?_;refine DS rfl bL xz rfl hw pK rfl fun w hw => ?_;refine Ee (cs := dV [120, 120]) rfl bL dX zJ dM rfl kR hw rfl fun w Rb hw => ?_;refine DS rfl bL xz rfl hw pK rfl fun w hw => ?_;refine an rfl wS rfl (wG (f := 4) (T := T) (key := [113]) (value := [120, 120]) (hw.b [aZ vq V]) aJ oM ((Gu (l := [113])).of sF) ((Gu (l := [120, 120])).of sF) oM oM ((Lc hgp).trans xp)) rfl fun w v50 hv => ?_;obtain ⟨rfl, hw⟩ := hv;refine z4 ?_;refine aL (cs := aC T') (l' := aC T') rfl tV rfl rfl aF rfl (by intro u hu; simp [aC] at hu; rcases hu with rfl | rfl | rfl <;> rfl) hw pK (by simp [aC]) rfl rfl (fun w hw => ?_);refine z5 ?_;refine lA (l := aC T') aF hw ?_;refine aQ (v := gQ (dR (1, T'))) rfl rfl (fun w => kR) ?_;refine hY (cs := dR (1, T')) rfl fz jR ld dM rfl rfl rfl hw rfl fun w b58 hw => ?_;have hw := jE (z := 4) (m := 1) hw rfl dM;refine an rfl jL rfl (kH (V := V') (l := [(1, T')]) (hw.b [aZ vq V']) Hb (PG.of sF) sM (Q0.of sF)) rfl fun w v59 hv => ?_;obtain ⟨rp, er, rfl, ⟨SQ, acw⟩, hw⟩ := hv;obtain ⟨acj, aci⟩ := QJ Qx;obtain ⟨rfl, rfl⟩ := SQ.one acj;refine z3 ?_;refine aN rfl jW hw rfl fun w b6 hw => ?_;refine aL (cs := mY.cells ⟨⟨1, 3, 2, 1, 0, 9, 18, []⟩, nQ⟩) (l' := mY.cells ⟨⟨1, 3, 2, 1, 0, 9, 18, []⟩, nQ⟩) rfl tV rfl rfl ct rfl (by intro u hu; simp [mY.cells] at hu; rcases hu with rfl | rfl | rfl | rfl | rfl | rfl | rfl | rfl <;> rfl) hw pK (by simp [mY.cells]) rfl rfl (fun w hw => ?_);refine z5 ?_;refine an rfl jL rfl (kH (V := V') (l := []) (hw.b [aZ vq V']) Hb U0 sM (Q0.of sF)) rfl fun w v64 hv => ?_;obtain ⟨rp2, er2, rfl, ⟨abD, aa3⟩, hw⟩ := hv;obtain ⟨rfl, rfl⟩ := abD.one aci;refine z3 ?_;refine aN rfl jW hw rfl fun w b8 hw => ?_;refine aL (cs := mY.cells ⟨GZ, nQ⟩) (l' := mY.cells ⟨GZ, nQ⟩) rfl tV rfl rfl ct rfl (by intro u hu; simp [mY.cells] at hu; rcases hu with rfl | rfl | rfl | rfl | rfl | rfl | rfl | rfl <;> rfl) hw pK (by simp [mY.cells]) rfl rfl (fun w hw => ?_);refine z4 ?_;refine aQ (v := gQ (mY.cells ⟨⟨1, 3, 2, 1, 0, 9, 18, []⟩, nQ⟩)) rfl rfl (fun w => kR) ?_;refine aN rfl jW hw rfl fun w qk hw => ?_;refine aL (cs := mY.cells ⟨⟨1, 3, 2, 1, 0, 9, 18, []⟩, nQ⟩) (l' := mY.cells ⟨⟨1, 3, 2, 1, 0, 9, 18, []⟩, nQ⟩) rfl tV rfl rfl ct rfl (by intro u hu; simp [mY.cells] at hu; rcases hu with rfl | rfl | rfl | rfl | rfl | rfl | rfl | rfl <;> rfl) hw pK (by simp [mY.cells]) rfl rfl (fun w hw => ?_);refine z6 ?_;refine aE (d := 70) rfl (fun h5 => ?_) fun h5 => ?_
 ·
  refine z4 ?_;refine aE (d := 74) rfl (fun h6 => ?_) fun h6 => ?_
  ·
   refine lA (l := mY.cells ⟨⟨1, 3, 2, 1, 0, 9, 18, []⟩, nQ⟩) ct hw ?_;refine lA (l := mY.cells ⟨⟨1, 3, 2, 1, 0, 9, 18, []⟩, nQ⟩) ct hw ?_;refine an rfl wW rfl (xW (a := ⟨⟨1, 3, 2, 1, 0, 9, 18, []⟩, nQ⟩) (b := ⟨⟨1, 3, 2, 1, 0, 9, 18, []⟩, nQ⟩) hw (RR rfl _) (RR rfl _)) rfl fun w v77 hv => ?_;obtain ⟨rfl, hw⟩ := hv;refine z2 ?_;refine aE (d := 79) rfl (fun h7 => ?_) fun h7 => ?_
   ·
    refine z6 ?_;exact br rfl rfl rfl ⟨by simp, (by repeat (first | exact hw | replace hw := hw.tail))⟩
   exact absurd rfl h7
  exact absurd rfl h6
 exact absurd rfl h5
end

section
open Go.ChangeShapes Go.WideShapes Go.RowKit
theorem Rd.append {w : World} {b o : Nat} {xs ys : List Value} (h1 : Rd w ⟨b, o, none⟩ xs) (h2 : Rd w ⟨b, o + xs.length, none⟩ ys) : Rd w ⟨b, o, none⟩ (xs ++ ys) := fun j u hu => by
 rw [List.getElem?_append] at hu;split at hu
 ·exact h1 j u hu
 rename_i hj;have := h2 (j - xs.length) u hu;rw [iV] at this ⊢
 rwa [show o + xs.length + (j - xs.length) = o + j by omega] at this
theorem Rd.rows {w : World} {b o z : Nat} (f : Nat -> List Value) : ∀ n, (∀ i, i < n -> (f i).length = z /\ Rd w ⟨b, o + i * z, none⟩ (f i)) -> Rd w ⟨b, o, none⟩ ((List.range n).map f).flatten /\ ((List.range n).map f).flatten.length = n * z
 | 0, _ => ⟨Rd.nil, by simp⟩
 | n + 1, h => by
  obtain ⟨h1, h2⟩ := Rd.rows f n fun i hi => h i oM
  obtain ⟨h3, h4⟩ := h n oM;rw [List.range_succ, il, K8];refine ⟨h1.append (by rw [h2]; simpa using h4), ?_⟩;simp only [cj, h2, cG, j3, C9, List.flatten_nil, my, h3, yQ, Nat.one_mul]
theorem IP {w : World} {a : Addr} {n : Nat} {cs : List Value} (h : w.cells? 0 a n = some cs) : cs.length = n /\ ∀ i, i < n -> w.cell? (a.add i) = cs[i]? := by
 unfold World.cells? at h;rw [ah (fo _)] at h
 exact ⟨by simpa using mapM_some_length h, fun i hi => mapM_some_get h i i (by simp [hi])⟩
section
variable {H : Type} {enc : TypeId × Value -> H} {P : Program} {w : World} {n : Nat} {cs : List Value} {x : DataW H × List MemPlace} {t : TypeId}
theorem EL {e : TypeId} {z k : Nat} (ht : P.underlying t = some (.slice e)) (hz : P.cellsOf e = z) (A9 : 0 < z) (hk : P.bytesOf e = k) (h : DataW.trod enc P w 0 (fun _ => true) true n t cs = some x) (OR : ∀ q ∈ DataW.weights P t x.1, q <= reachBytes) :
  ∃ (v : Value) (rows : List (List Value)), cs = [v] /\ rows.length * k <= reachBytes ∧
   (((∃ a, v = .slice a 0 0) /\ rows = []) \/ ∃ b o cap, v = .slice (some ⟨b, o, none⟩) rows.length cap /\ rows.length <= cap /\ Rd w ⟨b, o, none⟩ rows.flatten) ∧
   ∀ r ∈ rows, ∃ m y, DataW.trod enc P w 0 (fun _ => true) true m e r = some y /\ ∀ q ∈ DataW.weights P e y.1, q <= reachBytes := by
 rcases DataW.trod_slice ht h with ⟨rfl, rfl⟩ | ⟨a, len, cap, elems, rest, m, rfl, rfl, rfl, _, IB, yl, hel, sY, OX, _⟩
 ·exact ⟨_, [], rfl, by simp, .inl ⟨⟨_, rfl⟩, rfl⟩, by simp⟩
 obtain ⟨NI, WE⟩ := OX rfl;rw [hz] at sY WE;simp only [DataW.weights, ht, hk, bA, bB, eu] at OR
 have jv : ∀ (y : DataW H × List MemPlace), y ∈ elems -> ∀ q ∈ DataW.weights P e y.1, q <= reachBytes := fun y hy q hq => by
  refine OR q (.inr (.inl ?_));have gen : ∀ l : List (DataW H), y.1 ∈ l -> q ∈ DataW.weightsAll P e l := by
   intro l
   induction l with
   | nil => intro h; cases h
   | cons d l ih =>
    intro h;rw [DataW.weightsAll, eu];rcases bB.1 h with h | h
    ·subst h; exact .inl hq
    exact .inr (ih h)
  exact gen _ (pB hy)
 by_cases hc : cap = 0
 ·have : len = 0 := oM;subst hc; subst this;exact ⟨_, [], rfl, by simp, .inl ⟨⟨_, rfl⟩, rfl⟩, by simp⟩
 have YC : ∃ c0, w.cells? 0 (a.add (0 * z)) z = some c0 := by
  by_cases hl : 0 < len
  ·have h1 := sY 0 hl;have : 0 < elems.length := oM;rw [cV this] at h1;obtain ⟨c0, h2, _⟩ := Option.bind_eq_some_iff.1 h1;exact ⟨c0, h2⟩
  have hl0 : len = 0 := oM;have h1 := WE 0 oM;have : 0 < rest.length := oM;rw [cV this] at h1;obtain ⟨c0, h2, _⟩ := Option.bind_eq_some_iff.1 h1;rw [hl0] at h2
  exact ⟨c0, h2⟩
 obtain ⟨b, o, spot⟩ := a;have tC : spot = none := by
  obtain ⟨c0, h0⟩ := YC;obtain ⟨h1, h2⟩ := IP h0;have h3 := h2 0 A9;have : 0 < c0.length := oM;rw [cV this] at h3
  simpa [Addr.add] using World.cell?_spot h3
 subst tC;have ma : ∀ i, i < len -> ∃ r, w.cells? 0 (Addr.add ⟨b, o, none⟩ (i * z)) z = some r /\ ∃ y, y ∈ elems /\ DataW.trod enc P w 0 (fun _ => true) true m e r = some y := fun i hi => by
  have h1 := sY i hi;have uP : i < elems.length := oM;rw [cV uP] at h1;obtain ⟨r, h2, h3⟩ := Option.bind_eq_some_iff.1 h1;exact ⟨r, h2, _, PM uP, h3⟩
 let f : Nat -> List Value := fun i => (w.cells? 0 (Addr.add ⟨b, o, none⟩ (i * z)) z).getD []
 have hf : ∀ i, i < len -> (f i).length = z /\ Rd w ⟨b, o + i * z, none⟩ (f i) := fun i hi => by
  obtain ⟨r, h1, _⟩ := ma i hi;have Tg : f i = r := by simp only [f, h1, RX]
  obtain ⟨h2, h3⟩ := IP h1;rw [Tg];refine ⟨h2, fun j u hu => ?_⟩;have hj : j < z := by
   rcases K2 j z with h | h
   ·exact h
   rw [Jm oM] at hu; cases hu
  have := (h3 j hj).trans hu
  rwa [iV] at this
 refine ⟨_, (List.range len).map f, rfl, ?_, .inr ⟨b, o, cap, by simp, by simpa using IB, (Rd.rows f len hf).1⟩, fun r hr => ?_⟩
 ·have := OR _ (.inl rfl);rw [bA, R0, <-hel];exact K1 (UH _ (Nat.le_add_right _ _)) this
 obtain ⟨i, hi, rfl⟩ := dd.1 hr;obtain ⟨r, h1, y, hy, h2⟩ := ma i (sL.1 hi);exact ⟨m, y, by simpa [f, h1] using h2, jv y hy⟩
theorem Xz {α : Type} {f : α -> List Value} {Q : α -> Prop} : ∀ (rows : List (List Value)), (∀ r ∈ rows, ∃ c, r = f c /\ Q c) -> ∃ l : List α, rows = l.map f /\ ∀ c ∈ l, Q c
 | [], _ => ⟨[], rfl, by simp⟩
 | r :: rows, h => by
  obtain ⟨c, rfl, hc⟩ := h r (fp ..);obtain ⟨l, rfl, hl⟩ := Xz rows fun r hr => h r (gF _ hr)
  exact ⟨c :: l, rfl, fun d hd => by
   rcases bB.1 hd with h | h
   ·subst h; exact hc
   ·exact hl d h⟩
theorem EM {e : TypeId} (ht : P.underlying t = some (.slice e)) (he : P.underlying e = some (.int .u8)) (hz : P.cellsOf e = 1) (hk : P.bytesOf e = 1) (h : DataW.trod enc P w 0 (fun _ => true) true n t cs = some x) (OR : ∀ q ∈ DataW.weights P t x.1, q <= reachBytes) :
  ∃ (v : Value) (l : bN), cs = [v] /\ kL v l w /\ l.length <= 140737488351232 := by
 obtain ⟨v, rows, rfl, hb, hs, hr⟩ := EL ht hz dM hk h OR;obtain ⟨l, rfl, -⟩ := Xz (f := fun c : UInt8 => [bv c]) (Q := fun _ => True) rows fun r hm => by
  obtain ⟨m, y, h1, _⟩ := hr r hm;obtain ⟨k, rfl, rfl, XS⟩ := DataW.trod_int he h1;have := bounds_u8 XS;refine ⟨UInt8.ofNat k.toNat, ?_, trivial⟩;simp only [bv, List.cons.injEq, and_true, Value.int.injEq, true_and];have h2 : (UInt8.ofNat k.toNat).toNat = k.toNat % 2 ^ 8 := UInt8.toNat_ofNat';rw [h2]; omega
 have ud : (l.map fun c : UInt8 => [bv c]).flatten = dV l := by
  clear hb hs hr
  induction l with
  | nil => rfl
  | cons c l ih => rw [cG, C9, ih]; rfl
 rw [bA, ud] at hs;refine ⟨v, l, rfl, ?_, by simp [reachBytes] at hb; omega⟩;rcases hs with ⟨ha, hl⟩ | hs
 ·exact .inl ⟨ha, by simpa using hl⟩
 exact .inr hs
end
theorem TH {G : Gh} {R : List az} {W w : World} {a : Addr} {u : Value} (hs : ar G (Rh W :: R) w) (h : W.cell? a = some u) : w.cell? a = some u := by
 cases hb : W.heap[a.block]? with
 | none => simp [World.cell?, hb] at h
 | some o =>
  have h1 := hs.EO hb;simp only [World.cell?, hb] at h;simp only [World.cell?, h1];exact h
theorem Rd.C' {W : World} {a : Addr} {cs : List Value} (h : Rd W a cs) : aX [Rh W] (fun w => Rd w a cs) := fun g w hs j u hu => TH hs (h j u hu)
theorem kL.C' {W : World} {v : Value} {l : bN} (h : kL v l W) : aX [Rh W] (kL v l) := fun g w hs => by
 rcases h with h | ⟨b, o, cap, h1, h2, h3⟩
 ·exact .inl h
 exact .inr ⟨b, o, cap, h1, h2, h3.C'.at hs⟩
theorem gC.C' {W : World} {z : Nat} {v : Value} {l : List (List Value)} (h : gC z v l W) : aX [Rh W] (gC z v l) := fun g w hs => by
 rcases h with h | ⟨b, o, cap, h1, h2, h3, h4⟩
 ·exact .inl h
 exact .inr ⟨b, o, cap, h1, h2, h3, h4.C'.at hs⟩
section
variable {H : Type} {enc : TypeId × Value -> H} {W W' : World} {n : Nat} {cs : List Value} {x : DataW H × List MemPlace}
theorem coI : prog.cellsOf 3 = 1 := by kernel_rfl
theorem coB : prog.cellsOf 55 = 1 := by kernel_rfl
theorem coU : prog.cellsOf 5 = 1 := by kernel_rfl
theorem boU : prog.bytesOf 5 = 1 := by kernel_rfl
theorem kids : Kids prog (· < prog.types.size) := kids_rows kR kR
theorem full : ∀ t e, t < prog.types.size -> prog.underlying t = some (.slice e) -> 0 < prog.cellsOf e := slices_full_of _ kR
theorem Xp {z : Nat} {v : Value} {rows : List (List Value)} (hz : ∀ r ∈ rows, r.length = z) (hs : ((∃ a, v = .slice a 0 0) /\ rows = []) \/ ∃ b o cap, v = .slice (some ⟨b, o, none⟩) rows.length cap /\ rows.length <= cap /\ Rd W ⟨b, o, none⟩ rows.flatten) : gC z v rows W := by
 rcases hs with ⟨⟨a, h1⟩, h2⟩ | ⟨b, o, cap, h1, h2, h3⟩
 ·exact .inl ⟨a, h1, fun _ _ => rfl, h2⟩
 exact .inr ⟨b, o, cap, h1, h2, hz, h3⟩
theorem RQ {R : List az} {G : Gh} (hs : ar G (Rh W :: R) W') {p : MemPlace} (hp : p.block < W.heap.size) : W.sameAt W' p := by
 have hb : W'.heap[p.block]? = W.heap[p.block]? := by
  have h1 := Nj hp;rw [hs.EO h1, h1]
 cases p with
 | cell b off => simp only [MemPlace.block] at hb; simp only [World.sameAt, World.cell?, hb]
 | map b => exact hb
theorem yd {sp : Nat -> Bool} : ∀ {ts : List TypeId} {vs : List Value} {ds : List (DataW H)} {ps : List MemPlace}, DataW.TrodAll enc prog W 0 sp true ts vs ds ps -> (∀ p ∈ ps, W.sameAt W' p) -> DataW.TrodAll enc prog W' 0 sp true ts vs ds ps
 | [], [], [], _, h, _ => h
 | _ :: _, _ :: _, _ :: _, _, ⟨p, q, ⟨n, hn⟩, h2, e⟩, hs =>
  ⟨p, q, ⟨n, DataW.trod_carry n _ _ _ hn fun x hx => hs x (by rw [e]; exact oT _ hx)⟩, yd h2 fun x hx => hs x (by rw [e]; exact qV _ hx), e⟩
theorem Zl {f : Func} {s : ChangeSpec} {args : Array Value} {ds gs : List (DataW H)} {before : List MemPlace} (hW : DataW.Whole enc prog f.params.toList s.vars false W args.toList ds gs before) (hv : s.vars = [])
  (hs : ar (YT W) [Rh W] W') (hr : f.resultTypes = #[4]) (Qx : s.fn H (ds ++ gs) = ⟨[.lit (.bool true)], ds, []⟩) (hp : ∀ t ∈ f.params.toList, t < prog.types.size) :
  s.post enc prog f false true false false W args (.bool true) W' := by
 have hW' := hW;obtain ⟨p, q, hA, hV, rfl, _, _⟩ := hW;have hV' : DataW.TrodVars enc prog W (fun _ => true) [] gs q := by rw [hv] at hV; exact hV
 obtain ⟨rfl, rfl⟩ := trodVars_none hV';have iD := DataW.TrodAll.lt hA;refine ⟨ds, [], p ++ [], [], p, [], hW', ?_, ?_, ?_, ?_, fun h => by cases h⟩
 ·rw [Qx, hr];exact trodAll_mk1 (shut_bool underlying4 true)
 ·rw [Qx];exact yd (DataW.TrodAll.respare kids full hp hA fun x hx => by simpa using iD x hx) fun x hx => RQ hs (iD x hx)
 ·rw [Qx, hv]; rfl
 have hg := hs.1;refine ⟨congrArg Gh.os hg, congrArg Gh.output hg, fun i hi => ?_⟩;have h1 := Nj hi;have h2 := hs.EO h1;rw [h1, h2];split <;> simp_all
end
end
def oQ : Nat -> (Nat -> Int) -> Int
 | 0, _ => 0
 | n + 1, f => oQ n f + f n
theorem iZ {f g : Nat -> Int} : ∀ {n : Nat}, (∀ i, i < n -> f i = g i) -> oQ n f = oQ n g
 | 0, _ => rfl
 | n + 1, h => by rw [oQ, oQ, iZ (n := n) fun i hi => h i oM, h n oM]
theorem Ep {f g : Nat -> Int} : ∀ {n j : Nat}, j < n -> (∀ i, i < n -> i ≠ j -> f i = g i) -> oQ n g = oQ n f + (g j - f j)
 | 0, _, hj, _ => by omega
 | n + 1, j, hj, h => by
  rw [oQ, oQ]
  by_cases e : j = n
  ·subst e;rw [iZ (n := j) fun i hi => (h i oM oM).symm]; omega
  rw [Ep (n := n) (j := j) oM fun i hi hn => h i oM hn, h n oM oM]; omega
theorem I8 {f : Nat -> Int} : ∀ {n : Nat}, (∀ i, i < n -> 0 <= f i) -> 0 <= oQ n f
 | 0, _ => lV _
 | n + 1, h => by
  have h1 := I8 (n := n) fun i hi => h i oM
  have h2 := h n oM;rw [oQ]; omega
theorem Ot {f : Nat -> Int} : ∀ {n j : Nat}, (∀ i, i < n -> 0 <= f i) -> j < n -> f j <= oQ n f
 | 0, _, _, hj => by omega
 | n + 1, j, h, hj => by
  have h1 := I8 (n := n) fun i hi => h i oM
  have h2 := h n oM;rw [oQ]
  by_cases e : j = n
  ·subst e; omega
  have := Ot (n := n) (j := j) (fun i hi => h i oM) oM;omega
inductive Gn where
 | nd (l f : Nat) (ks : List bN)
 | bl (k : bN) (left : Int)
def Gn.ks : Gn -> List bN
 | .nd _ _ ks => ks
 | .bl _ _ => []
abbrev mJ := Int -> Gn
def Jz (gh : mJ) (l : Nat) (p : Pg) : Prop := ∀ i x, p.items[i]? = some x -> ∃ f ks, gh x.child = .nd l f ks /\ 4 <= f /\ ks ≠ [] /\ ∀ k ∈ ks, lH (nt p i) k
def jV (gh : mJ) (p : Pg) : Gn -> Prop
 | .nd 0 f ks => f = p.items.length /\ p.kind = 1 /\ ks = p.items.map It.key /\ ∀ x ∈ p.items, 32 < x.size -> gh x.child = .bl x.key x.size /\ x.child ≠ 0
 | .nd (l + 1) f ks => f = p.items.length /\ p.kind = 2 /\ p.level = (l : Int) + 1 /\ ks = p.items.flatMap (fun x => (gh x.child).ks) /\ Jz gh l p
 | .bl key left => p.kind = 3 /\ 0 < left /\ (p.data.length : Int) = min 480 left /\ (p.next = 0 ↔ left <= 480) /\ (480 < left -> gh p.next = .bl key (left - 480))
def cI (l : List Int) (a : Int) : Int := (l.count a : Int)
theorem bW (l : List Int) (a : Int) : 0 <= cI l a := by unfold cI; omega
theorem sA (a : Int) : cI [] a = 0 := rfl
theorem gr (b : Int) (l : List Int) (a : Int) : cI (b :: l) a = cI l a + if a = b then 1 else 0 := by
 unfold cI;rw [List.count_cons]
 by_cases h : a = b
 ·subst h; simp
 have : ¬ b = a := fun e => h e.symm
 simp [h, this]
theorem cM (l m : List Int) (a : Int) : cI (l ++ m) a = cI l a + cI m a := by unfold cI; rw [List.count_append]; omega
theorem df {l : List Int} {a : Int} (h : a ∈ l) : 1 <= cI l a := by
 have := UB.2 h;unfold cI; omega
theorem uF {l : List Int} {a : Int} (h : cI l a ≠ 0) : a ∈ l := by
 refine UB.1 ?_;unfold cI at h; omega
def dl (n a : Int) : Int := if a = n then 1 else 0
def uI (V : Va) (O : Int -> Bool) (a : Int) (i : Nat) : Int := if V.bw ((i : Int) + 1) ≠ 0 /\ O ((i : Int) + 1) = false then cI (aA (V.pg ((i : Int) + 1))) a else 0
def arr (V : Va) (O : Int -> Bool) (a : Int) : Int := oQ V.po.c.length (uI V O a)
def xD (gh : mJ) (n : Int) (g : Gn) : mJ := fun m => if m = n then g else gh m
def eR (O : Int -> Bool) (n : Int) : Int -> Bool := fun m => m == n || O m
def xZ (O : Int -> Bool) (n : Int) : Int -> Bool := fun m => O m && !(m == n)
structure jx (V : Va) (H : Int -> Int) (O : Int -> Bool) (gh : mJ) : Prop where
 bw : ∀ a, V.bw a = H a + arr V O a
 loc : ∀ n, V.bw n ≠ 0 -> O n = false -> jV gh (V.pg n) (gh n)
theorem Kf (V : Va) (O : Int -> Bool) (a : Int) (i : Nat) : 0 <= uI V O a i := by
 unfold uI; split
 ·exact bW _ _
 exact lV _
theorem Gx (V : Va) (O : Int -> Bool) (a : Int) : 0 <= arr V O a := I8 fun i _ => Kf V O a i
theorem Ke {V : Va} {O : Int -> Bool} {n : Int} (hn : V.bw n ≠ 0) (ho : O n = false) (a : Int) : cI (aA (V.pg n)) a <= arr V O a := by
 have ht : bg V.po.c n := cg hn;unfold bg at ht;have h := Ot (n := V.po.c.length) (j := (n - 1).toNat) (f := uI V O a) (fun i _ => Kf V O a i) oM;refine Int.le_trans ?_ h;unfold uI;rw [show (((n - 1).toNat : Nat) : Int) + 1 = n by omega, ah ⟨hn, ho⟩];exact lV _
theorem A4 {V V' : Va} {O O' : Int -> Bool} {n : Int} (hl : V'.po.c.length = V.po.c.length) (hn : bg V.po.c n) (h : ∀ m, m ≠ n -> (V'.bw m ≠ 0 /\ O' m = false ↔ V.bw m ≠ 0 /\ O m = false) /\ V'.pg m = V.pg m) (a : Int) :
  arr V' O' a = arr V O a + ((if V'.bw n ≠ 0 /\ O' n = false then cI (aA (V'.pg n)) a else 0) - if V.bw n ≠ 0 /\ O n = false then cI (aA (V.pg n)) a else 0) := by
 unfold bg at hn;unfold arr;rw [hl, Ep (f := uI V O a) (g := uI V' O' a) (j := (n - 1).toNat) oM fun i _ hi => ?_]
 ·unfold uI;rw [show (((n - 1).toNat : Nat) : Int) + 1 = n by omega]
 obtain ⟨h1, h2⟩ := h ((i : Int) + 1) oM;unfold uI;rw [h2];simp only [h1]
theorem jx.congr {V V' : Va} {H H' : Int -> Int} {O : Int -> Bool} {gh : mJ} (h : jx V H O gh) (h1 : V'.po.c = V.po.c) (h2 : ∀ n, V.bw n ≠ 0 -> V'.on n = V.on n) (h3 : ∀ a, H' a = H a) : jx V' H' O gh := by
 have hc : ∀ n, V'.bw n = V.bw n := fun n => by unfold Va.bw Po.bw; rw [h1]
 have hp : ∀ n, V.bw n ≠ 0 -> V'.pg n = V.pg n := fun n hn => by unfold Va.pg; rw [h2 n hn]
 refine ⟨fun a => ?_, fun n hn ho => ?_⟩
 ·rw [hc, h3, h.bw]
  congr 1
  unfold arr;rw [h1];refine iZ fun i _ => ?_
  unfold uI;rw [hc]
  by_cases hi : V.bw ((i : Int) + 1) ≠ 0 /\ O ((i : Int) + 1) = false
  ·rw [ah hi, ah hi, hp _ hi.1]
  rw [ae hi, ae hi]
 rw [hc] at hn;rw [hp n hn]; exact h.loc n hn ho
theorem jx.held {V : Va} {H H' : Int -> Int} {O : Int -> Bool} {gh : mJ} (h : jx V H O gh) (h3 : ∀ a, H' a = H a) : jx V H' O gh := h.congr rfl (fun _ _ => rfl) h3
theorem Lz {p : Pg} (hc : bD p = 0) (hk : p.kind = 1) {x : It} (hx : x ∈ p.items) (hs : 32 < x.size) : x.child ≠ 0 := by
 unfold bD at hc;simp only [bZ] at hc
 have h3 := hc.2.1;have : ∀ (l : List It) (i : Nat) (dp : bN), ir p.kind i dp l = 0 -> x ∈ l -> x.child ≠ 0 := by
  intro l
  induction l with
  | nil => intro i a _ hx; cases hx
  | cons y l ih =>
   intro i a h hx;rw [ir, bZ] at h;rcases bB.1 hx with rfl | hx
   ·have h4 := h.1;unfold uM at h4;simp only [bZ] at h4
    have h5 := h4.2.2.2;unfold B4 at h5;rw [ae oM, ae oM] at h5
    have h6 := (gz dM).1 h5;unfold kW at h6; omega
   exact ih _ _ h.2 hx
 exact this _ _ _ h3 hx
theorem sU {p : Pg} (hk : p.kind = 1) {x : It} (hx : x ∈ p.items) (h0 : x.child ≠ 0) : x.child ∈ aA p := by
 unfold aA;refine oT _ (UF.2 ⟨x, hx, ?_⟩);rw [ah (.inr ⟨hk, h0⟩)]
theorem LA {p : Pg} (hc : bD p = 0) (hk : p.kind = 1) {x : It} (hx : x ∈ p.items) (hs : 32 < x.size) : x.child ∈ aA p := sU hk hx (Lz hc hk hx hs)
theorem g9 {p : Pg} (hk : p.kind = 2) {x : It} (hx : x ∈ p.items) : x.child ∈ aA p := by
 rw [dy hk]; exact dd.2 ⟨x, hx, rfl⟩
theorem MC {p : Pg} (hk : p.kind = 3) (hn : p.next ≠ 0) : p.next ∈ aA p := by
 unfold aA;refine qV _ ?_;rw [ah ⟨hk, hn⟩]; exact Jj.2 rfl
theorem jV.F9 {gh gh' : mJ} {p : Pg} {g : Gn} (he : ∀ k ∈ aA p, gh' k = gh k) (h : jV gh p g) : jV gh' p g := by
 cases g with
 | nd l f ks =>
  cases l with
  | zero =>
   obtain ⟨h1, h2, h3, h4⟩ := h;exact ⟨h1, h2, h3, fun x hx hs => by rw [he _ (sU h2 hx (h4 x hx hs).2)]; exact h4 x hx hs⟩
  | succ l =>
   obtain ⟨h1, h2, h3, h4, h5⟩ := h;have e : ∀ x ∈ p.items, gh' x.child = gh x.child := fun x hx => he _ (g9 h2 hx)
   refine ⟨h1, h2, h3, ?_, fun i x hx => ?_⟩
   ·rw [h4];have : ∀ l : List It, (∀ x ∈ l, gh' x.child = gh x.child) -> l.flatMap (fun x => (gh x.child).ks) = l.flatMap (fun x => (gh' x.child).ks) := by
     intro l
     induction l with
     | nil => intro _; rfl
     | cons x l ih => intro h; rw [ku, ku, h x (fp ..), ih fun y hy => h y (gF _ hy)]
    exact this _ e
   rw [e x (ed hx)]; exact h5 i x hx
 | bl key left =>
  obtain ⟨h1, h2, h3, h4, h5⟩ := h;exact ⟨h1, h2, h3, h4, fun hl => by rw [he _ (MC h1 (fun hz => by have := h4.1 hz; omega))]; exact h5 hl⟩
theorem jV.congr {gh gh' : mJ} {p : Pg} {g : Gn} (_ : bD p = 0) (he : ∀ k ∈ aA p, gh' k = gh k) (h : jV gh p g) : jV gh' p g := h.F9 he
theorem dN {gh : mJ} {n m : Int} {g : Gn} (h : m ≠ n) : xD gh n g m = gh m := ae h
theorem jy {gh : mJ} {n : Int} {g : Gn} : xD gh n g n = g := ah rfl
section
variable {x : Vw} {H H' : Int -> Int} {O : Int -> Bool} {gh : mJ} {n : Int}
theorem lu {b : Int} (ht : bg x.v.po.c n) (m : Int) : (x.act n b).v.bw m = x.v.bw m + b * dl n m := by
 have h := Kh (x := x) (b := b) ht m
 show (x.act n b).v.po.bw m = _
 rw [h];unfold dl;split <;> simp [Va.bw]
theorem Za (b m : Int) : (x.act n b).v.pg m = x.v.pg m := rfl
theorem lN (b : Int) : (x.act n b).v.po.c.length = x.v.po.c.length := by show (dI _ _ _).length = _; exact iO _ _ _
theorem dS : dl n n = 1 := ah rfl
theorem js {m : Int} (h : m ≠ n) : dl n m = 0 := ae h
theorem jx.act (h : jx x.v H O gh) {b : Int} (hn : x.v.bw n ≠ 0) (hb : x.v.bw n + b ≠ 0) : jx (x.act n b).v (fun a => H a + b * dl n a) O gh := by
 have ht : bg x.v.po.c n := cg hn;have hc := fun m => lu (x := x) (b := b) ht m
 have hz : ∀ m, (x.act n b).v.bw m ≠ 0 ↔ x.v.bw m ≠ 0 := fun m => by
  rw [hc]
  by_cases e : m = n
  ·subst e; rw [dS, Int.mul_one]; exact ⟨fun _ => hn, fun _ => hb⟩
  rw [js e]; simp
 refine ⟨fun a => ?_, fun m hm ho => h.loc m ((hz m).1 hm) ho⟩;rw [hc, h.bw];have : arr (x.act n b).v O a = arr x.v O a := by
  unfold arr;rw [lN];refine iZ fun i _ => ?_
  unfold uI;simp only [hz, Za]
 rw [this]; omega
theorem jx.die (h : jx x.v H O gh) (hn : x.v.bw n = 1) (ho : O n = false) : jx (x.act n (-1)).v (fun a => H a - dl n a + cI (aA (x.v.pg n)) a) O gh := by
 have ht : bg x.v.po.c n := cg (by show x.v.bw n ≠ 0; omega);have hc := fun m => lu (x := x) (b := -1) ht m
 have hz : ∀ m, m ≠ n -> (x.act n (-1)).v.bw m = x.v.bw m := fun m hm => by rw [hc, js hm]; omega
 have h0 : (x.act n (-1)).v.bw n = 0 := by rw [hc, dS]; omega
 refine ⟨fun a => ?_, fun m hm Iz => ?_⟩
 ·rw [hc, h.bw, A4 (V := x.v) (O := O) (O' := O) (n := n) (lN _) ht (fun m hm => ⟨by rw [hz m hm], rfl⟩), ae (fun h => h.1 h0), ah ⟨oM, ho⟩];omega
 have Hc : m ≠ n := fun e => by subst e; exact hm h0
 rw [hz m Hc] at hm;exact h.loc m hm Iz
theorem jx.acM (h : jx x.v H O gh) (hn : x.v.bw n = 1) (ho : O n = true) : jx (x.act n (-1)).v (fun a => H a - dl n a) (xZ O n) gh := by
 have ht : bg x.v.po.c n := cg (by show x.v.bw n ≠ 0; omega);have hc := fun m => lu (x := x) (b := -1) ht m
 have hz : ∀ m, m ≠ n -> (x.act n (-1)).v.bw m = x.v.bw m := fun m hm => by rw [hc, js hm]; omega
 have h0 : (x.act n (-1)).v.bw n = 0 := by rw [hc, dS]; omega
 have gJ : ∀ m, m ≠ n -> xZ O n m = O m := fun m hm => by unfold xZ; simp [hm]
 refine ⟨fun a => ?_, fun m hm Iz => ?_⟩
 ·rw [hc, h.bw, A4 (V := x.v) (O := O) (O' := xZ O n) (n := n) (lN _) ht (fun m hm => ⟨by rw [hz m hm, gJ m hm], rfl⟩), ae (fun h => h.1 h0), ae (fun h => by rw [ho] at h; cases h.2)];omega
 have Hc : m ≠ n := fun e => by subst e; exact hm h0
 rw [hz m Hc] at hm;rw [gJ m Hc] at Iz
 exact h.loc m hm Iz
theorem qE (p : Option Pg) (m : Int) : (x.put n p).v.pg m = if m = n then p.getD bI.pg else x.v.pg m := by
 show (rz x.v.on n p m).getD _ = _
 unfold rz;split <;> rfl
theorem jx.gone (h : jx x.v H O gh) (hn : x.v.bw n = 0) (p : Option Pg) : jx (x.put n p).v H O gh :=
 h.congr rfl (fun m hm => by show rz x.v.on n p m = _; unfold rz; rw [ae (fun e => by subst e; exact hm hn)]) (fun _ => rfl)
theorem jx.free (h : jx x.v H O gh) (hn : x.v.bw n = 0) : jx (x.free n).v H O gh := by
 unfold Vw.free;split
 ·exact h.gone hn none
 exact h
theorem Ag {V : Va} {a : Int} (h : arr V O a = 0) {m : Int} (hm : V.bw m ≠ 0) (ho : O m = false) : a ∉ aA (V.pg m) := fun hk => by
 have h1 := Ke hm ho a;have h2 := df hk;omega
theorem jx.put (h : jx x.v H O gh) {p : Pg} {g : Gn} (aJ : ∀ m, x.v.bw m ≠ 0 -> bD (x.v.pg m) = 0) (hn : x.v.bw n ≠ 0) (ho : O n = true) (ha : arr x.v O n = 0) (hl : jV (xD gh n g) p g) : jx (x.put n (some p)).v (fun a => H a - cI (aA p) a) (xZ O n) (xD gh n g) := by
 have ht : bg x.v.po.c n := cg hn;have gJ : ∀ m, m ≠ n -> xZ O n m = O m := fun m hm => by unfold xZ; simp [hm]
 have xt : xZ O n n = false := by unfold xZ; simp
 have re : ∀ m, m ≠ n -> (x.put n (some p)).v.pg m = x.v.pg m := fun m hm => by rw [qE, ae hm]
 have WI : (x.put n (some p)).v.pg n = p := by rw [qE, ah rfl]; rfl
 refine ⟨fun a => ?_, fun m hm Iz => ?_⟩
 ·show x.v.bw a = _
  rw [h.bw, A4 (V := x.v) (V' := (x.put n (some p)).v) (O := O) (O' := xZ O n) (n := n) rfl ht (fun m hm => ⟨by rw [gJ m hm]; rfl, re m hm⟩), WI, ah ⟨hn, xt⟩, ae (fun h => by rw [ho] at h; cases h.2)];omega
 by_cases e : m = n
 ·subst e; rw [WI, jy]; exact hl
 have hm : x.v.bw m ≠ 0 := hm;rw [gJ m e] at Iz;rw [re m e, dN e];refine (h.loc m hm Iz).congr (aJ m hm) fun k hk => dN fun e => ?_
 subst e;exact Ag ha hm Iz hk
theorem jx.eR {V : Va} (h : jx V H O gh) (hn : V.bw n ≠ 0) (ho : O n = false) : jx V (fun a => H a + cI (aA (V.pg n)) a) (eR O n) gh := by
 have ht : bg V.po.c n := cg hn;have gJ : ∀ m, m ≠ n -> X.eR O n m = O m := fun m hm => by unfold X.eR; simp [hm]
 have xt : X.eR O n n = true := by unfold X.eR; simp
 refine ⟨fun a => ?_, fun m hm Iz => ?_⟩
 ·rw [h.bw, A4 (V := V) (V' := V) (O := O) (O' := X.eR O n) (n := n) rfl ht (fun m hm => ⟨by rw [gJ m hm], rfl⟩), ae (fun h => by rw [xt] at h; cases h.2), ah ⟨hn, ho⟩];omega
 by_cases e : m = n
 ·subst e; rw [xt] at Iz; cases Iz
 rw [gJ m e] at Iz; exact h.loc m hm Iz
theorem jx.born (h : jx x.v H O gh) {p : Pg} {g : Gn} (aJ : ∀ m, x.v.bw m ≠ 0 -> bD (x.v.pg m) = 0) (ht : bg x.v.po.c n) (hn : x.v.bw n = 0) (ho : O n = false) (hh : 0 <= H n) (hl : jV (xD gh n g) p g) : jx ((x.act n 1).put n (some p)).v (fun a => H a + dl n a - cI (aA p) a) O (xD gh n g) := by
 have hc := fun m => lu (x := x) (b := 1) ht m
 have h0 := h.bw n;have h2 := Gx x.v O n;have ha : arr x.v O n = 0 := oM;have hz : ∀ m, m ≠ n -> (x.act n 1).v.bw m = x.v.bw m := fun m hm => by rw [hc, js hm]; omega
 have h1 : (x.act n 1).v.bw n = 1 := by rw [hc, dS]; omega
 have re : ∀ m, m ≠ n -> ((x.act n 1).put n (some p)).v.pg m = x.v.pg m := fun m hm => by rw [qE, ae hm]; rfl
 have WI : ((x.act n 1).put n (some p)).v.pg n = p := by rw [qE, ah rfl]; rfl
 have hcp : ∀ m, ((x.act n 1).put n (some p)).v.bw m = (x.act n 1).v.bw m := fun _ => rfl
 refine ⟨fun a => ?_, fun m hm Iz => ?_⟩
 ·rw [hcp, hc, h.bw, A4 (V := x.v) (V' := ((x.act n 1).put n (some p)).v) (O := O) (O' := O) (n := n) (lN _) ht (fun m hm => ⟨by rw [hcp, hz m hm], re m hm⟩), WI, ah ⟨by rw [hcp, h1]; decide, ho⟩, ae (fun h => h.1 hn)];omega
 rw [hcp] at hm
 by_cases e : m = n
 ·subst e; rw [WI, jy]; exact hl
 rw [hz m e] at hm;rw [re m e, dN e];refine (h.loc m hm Iz).congr (aJ m hm) fun k hk => dN fun e => ?_
 subst e;exact Ag ha hm Iz hk
end
section
variable {P : Program} {ops : Array Oper}
def TW (P : Program) (ops : Array Oper) (post : List Nat) : Nat -> List (List Nat) -> List Nat -> Array Bool -> Bool
 | 0, _, _, _ => false
 | f + 1, gY, A, listed => match gY with
  | [] => match A with
   | [] => G4 P ops post listed
   | a :: A1 => (Region.ready .any ops listed).all (fun k => (a :: A1).contains k) && !(Region.ready .any ops listed).isEmpty && (a :: A1).all fun b => TW P ops post f [] ((a :: A1).erase b) (listed.setIfInBounds b true)
  | [] :: _ => false
  | (m :: ps) :: ss => (Region.ready .any ops listed).all (fun k => k == m || A.contains k) && !(Region.ready .any ops listed).isEmpty && PE P ops ps (listed.setIfInBounds m true) && TW P ops post f ss A (nm (m :: ps) listed) &&
    A.all fun b => TW P ops post f ((m :: ps) :: ss) (A.erase b) (listed.setIfInBounds b true)
def vj (gY : List (List Nat)) (A post : List Nat) : Nat := gY.flatten.length + A.length + post.length
theorem Kk {Q : Act -> World -> Prop} : ∀ (l d1 d2 : List Nat) (a : Act) (w : World), (∀ q ∈ d2, q ∈ d1) -> SL P ops Q d1 l a w -> SL P ops Q d2 l a w
 | [], _, _, _, _, _, h => h
 | i :: l, d1, d2, a, w, hs, h => by
  simp only [SL] at h ⊢;split
  ·rename_i ho; rw [ho] at h; exact h
  rename_i o ho;rw [ho] at h;exact xB hs (hG (fun v w' hx => Kk l _ _ _ w' (fun q hq => by
    rcases bB.1 hq with rfl | hq
    ·exact fp ..
    ·exact gF _ (hs q hq)) hx) h)
theorem xv {listed : Array Bool} (hc : kS .any ops listed) {done : List Nat} (hd : ∀ q ∈ done, listed.getD q false = true) : ∀ q ∈ done, q ∈ List.range ops.size := fun q hq => by
 have h := hd q hq;rw [sL, <-hc.size];refine sN fun h' => ?_
 simp only [Array.getD, h', dif_neg, not_false_iff] at h;cases h
theorem zC {n : Nat} (gJ : Co P .any ops n) {Q : Act -> World -> Prop} {post : List Nat} (Φ : List (List Nat) -> List Nat -> Act -> World -> Prop)
  (hs : ∀ s ss A a w, Φ (s :: ss) A a w -> SL P ops (Φ ss A) (List.range ops.size) s a w)
  (ha : ∀ gY A b a w, b ∈ A -> Φ gY A a w -> SL P ops (Φ gY (A.erase b)) (List.range ops.size) [b] a w)
  (hp : ∀ a w, Φ [] [] a w -> SL P ops Q (List.range ops.size) post a w) :
  ∀ (f : Nat) (gY : List (List Nat)) (A : List Nat) (listed : Array Bool) (done : List Nat) (a : Act) (w : World), a.tmps.size = n -> kS .any ops listed -> (∀ q ∈ done, listed.getD q false = true) -> TW P ops post f gY A listed = true -> Φ gY A a w →
   Ck P .any ops Q (vj gY A post) listed done a w
 | 0, _, _, _, _, _, _, _, _, _, hB, _ => by simp [TW] at hB
 | f + 1, gY, A, listed, done, a, w, dm, hc, hd, hB, hΦ => by
  have dH : ∀ {b : Nat}, b ∈ A -> TW P ops post f gY (A.erase b) (listed.setIfInBounds b true) = true -> b ∈ Region.ready .any ops listed -> ∀ o, ops[b]? = some o -> me P .any ops done b o (Ck P .any ops Q (vj gY (A.erase b) post) (listed.setIfInBounds b true) (b :: done)) a w := fun {b} hb VH hr o ho => by
   have h1 := ha gY A b a w hb hΦ;simp only [SL, ho] at h1;refine xB (xv hc hd) (hG (fun v w' hx => ?_) h1);refine zC gJ Φ hs ha hp f gY (A.erase b) _ _ _ w' (sP dm _ _) (hc.set hr) (fun q hq => ?_) VH hx;rcases bB.1 hq with rfl | hq
   ·have iD : q < listed.size := by rw [hc.size]; exact (sO.1 ho).1
    simp [iD]
   exact getD_set_true (hd q hq)
  have cb : ∀ {b : Nat}, b ∈ A -> vj gY A post = vj gY (A.erase b) post + 1 := fun {b} hb => by
   have := List.length_erase_of_mem hb;have := List.length_pos_of_mem hb;unfold vj; omega
  cases gY with
  | nil =>
   cases A with
   | nil =>
    have hB : G4 P ops post listed = true := hB;have e1 : vj [] [] post = post.length := by simp [vj]
    rw [e1];exact A7 gJ post listed done a w dm hc hd hB (Kk _ _ _ _ _ (xv hc hd) (hp a w hΦ))
   | cons a1 A1 =>
    simp only [TW, qD, yR] at hB;obtain ⟨⟨h1, h2⟩, h3⟩ := hB;have Qw : vj [] (a1 :: A1) post = (A1.length + post.length) + 1 := by simp [vj]; omega
    rw [Qw];refine ⟨fun h0 => by rw [h0] at h2; simp at h2, fun i hi o ho => ?_⟩;have hm : i ∈ a1 :: A1 := By.1 (h1 i hi);have h5 := dH hm (h3 i hm) hi o ho;have h6 := cb hm;rw [Qw] at h6;have h7 : vj [] ((a1 :: A1).erase i) post = A1.length + post.length := oM;rw [h7] at h5
    exact h5
  | cons s ss =>
   cases s with
   | nil => simp [TW] at hB
   | cons m ps =>
    simp only [TW, qD, yR] at hB;obtain ⟨⟨⟨⟨h1, h2⟩, h3⟩, h4⟩, h5⟩ := hB;have Qw : vj ((m :: ps) :: ss) A post = (ps.length + vj ss A post) + 1 := by simp [vj]; omega
    rw [Qw];refine ⟨fun h0 => by rw [h0] at h2; simp at h2, fun i hi o ho => ?_⟩;have h6 := h1 i hi
    by_cases Ub : i = m
    ·subst Ub;have h7 := hs (i :: ps) ss A a w hΦ;simp only [SL, ho] at h7;refine xB (xv hc hd) (hG (fun v w' hx => ?_) h7);have Bc : ∀ q ∈ i :: done, (listed.setIfInBounds i true).getD q false = true := fun q hq => by
      rcases bB.1 hq with rfl | hq
      ·have iD : q < listed.size := by rw [hc.size]; exact (sO.1 ho).1
       simp [iD]
      exact getD_set_true (hd q hq)
     have L4 := hc.set hi;refine A6 gJ (vj ss A post) (Φ ss A) ps _ _ _ w' (sP dm _ _) L4 Bc h3 (fun a' MM hK MQ YJ yk => ?_) (Kk _ _ _ _ _ (fun q hq => gF _ (xv L4 Bc q hq)) hx);exact zC gJ Φ hs ha hp f ss A _ _ a' MM MQ YJ yk h4 hK
    have hm : i ∈ A := by
     simp only [Bool.or_eq_true, beq_iff_eq, By] at h6;exact h6.resolve_left Ub
    have h8 := dH hm (h5 i hm) hi o ho;have h9 := cb hm;rw [Qw] at h9;have oG : vj ((m :: ps) :: ss) (A.erase i) post = ps.length + vj ss A post := oM;rw [oG] at h8
    exact h8
def Xu (P : Program) (ops : Array Oper) (n : Nat) (pre : List Nat) (gY : List (List Nat)) (A post : List Nat) : Bool :=
 Region.noSelect ops && VK n ops && Jh P ops && (pre.length + vj gY A post == ops.size) && PE P ops pre (Array.replicate ops.size false) &&
  TW P ops post (gY.length + A.length + 1) gY A (nm pre (Array.replicate ops.size false))
theorem C5 {ro : Option Nat} {n : Nat} {pre : List Nat} {gY : List (List Nat)} {A post : List Nat} {id : Nat} {Q : Exit -> Act -> World -> Prop} {a : Act} {w : World} (hm : P.follows .mixedOrders = true) (hB : Xu P ops n pre gY A post = true) (dm : a.tmps.size = n)
  (Φ : List (List Nat) -> List Nat -> Act -> World -> Prop)
  (hs : ∀ s ss A a w, Φ (s :: ss) A a w -> SL P ops (Φ ss A) (List.range ops.size) s a w)
  (ha : ∀ gY A b a w, b ∈ A -> Φ gY A a w -> SL P ops (Φ gY (A.erase b)) (List.range ops.size) [b] a w)
  (hp : ∀ a w, Φ [] [] a w -> SL P ops (Q .normal) (List.range ops.size) post a w)
  (h : SL P ops (Φ gY A) [] pre a { w with drawn := w.drawn + 1 }) : (Code.region id ops true).wpIn (Fw ro) 0 P Q a w := by
 simp only [Xu, qD, beq_iff_eq] at hB;obtain ⟨⟨⟨⟨⟨h1, h2⟩, h3⟩, h4⟩, h5⟩, h6⟩ := hB;refine wpIn_region_any hm (oz (Q := Q .normal) (fun _ _ h => h) _ _ [] _ _ ?_);have gJ := Ge (n := n) h1 h2 h3;have bQ := A6 gJ (Q := Q .normal) (vj gY A post) (Φ gY A) pre (Array.replicate ops.size false) [] a _ dm ⟨by simp, fun j o ho hl => ?_⟩ (fun q hq => by cases hq) h5
  (fun a' w' hK MQ hc hd => zC gJ Φ hs ha hp _ gY A _ _ a' w' MQ hc hd h6 hK) h
 ·rw [h4] at bQ;exact bQ
 exfalso;rcases K2 j ops.size with h' | h'
 ·simp [h'] at hl
 simp [R9 (show (Array.replicate ops.size false).size <= j by simpa using h')] at hl
end
theorem dT.aby {n : Nat} {e : gj} {a : Act} (h : dT n e a) {t : Nat} {v : Value} (ht : a.tmps.getD t undef = v) (hm : t ≠ 1000000000) : dT n ((t, v) :: e) a :=
 ⟨by rw [j5 hm]; exact h.defers, h.size, h.small, fun s u hu => by
  rcases lj hu with ⟨rfl, rfl⟩ | ⟨_, hu⟩
  ·exact ht
  ·exact h.get s u hu⟩
theorem Ju {α β : Type} {g : α -> β} : ∀ {l : List α}, (l.map g).Nodup -> ∀ {a b : α}, a ∈ l -> b ∈ l -> g a = g b -> a = b
 | [], _, _, _, ha, _, _ => by cases ha
 | x :: l, hn, a, b, ha, hb, h => by
  rw [cG, xH] at hn;rcases bB.1 ha with rfl | Hh <;> rcases bB.1 hb with rfl | L5
  ·rfl
  ·exact absurd (dd.2 ⟨b, L5, h.symm⟩) hn.1
  ·exact absurd (dd.2 ⟨a, Hh, h⟩) hn.1
  exact Ju hn.2 Hh L5 h
structure GK where
 op : Nat
 d : Nat
 c : List Value
 T : Nat
def aa9 (fl : List GK) (bs : Nat -> Nat) (e : gj) : gj := fl.foldr (fun f e => (f.d, .pointer (some ⟨bs f.op, 0, none⟩)) :: e) e
def uh (fl : List GK) (A : List Nat) (bs : Nat -> Nat) : List az := fl.map fun f => mU (f.op ∉ A) (ag (bs f.op) f.c f.T)
theorem QQ {M N : List az} {A B : az} {G : Gh} {R : List az} {w : World} (h : ar G (aT (M ++ A :: N) :: B :: R) w) : ar G (aT (M ++ B :: N) :: R) w := by
 have h1 := h.cD;rw [je, j4] at h1;have h2 := h1.drop im;rw [<-je] at h2
 have h3 := h2.pick (A := B) (R := (M ++ N) ++ R) im;refine ar.bH ?_;rw [je, j4];rw [je] at h3;exact h3.yK im
theorem NW {fl : List GK} {A : List Nat} {bs : Nat -> Nat} {f : GK} {b0 : Nat} (hn : (fl.map GK.op).Nodup) (hA : A.Nodup) (hf : f ∈ fl) (hfA : f.op ∈ A) {G : Gh} {R : List az} {w : World} (h : ar G (aT (uh fl A bs) :: ag b0 f.c f.T :: R) w) :
  ar G (aT (uh fl (A.erase f.op) (fun o => if o = f.op then b0 else bs o)) :: R) w := by
 obtain ⟨M, N, rfl⟩ := PS hf;rw [il, cG, Nf, xH] at hn;obtain ⟨h1, ⟨h2, h3⟩, h4⟩ := hn;have e : ∀ g : GK, g.op ≠ f.op -> mU (g.op ∉ A.erase f.op) (ag (if g.op = f.op then b0 else bs g.op) g.c g.T) = mU (g.op ∉ A) (ag (bs g.op) g.c g.T) := fun g hg => by
  have e1 : (g.op ∉ A.erase f.op) = (g.op ∉ A) := propext (by rw [List.mem_erase_of_ne hg]);rw [e1, ae hg]
 have eM : uh M (A.erase f.op) (fun o => if o = f.op then b0 else bs o) = uh M A bs := PU fun g hg => e g (fun hx => h4 _ (dd.2 ⟨g, hg, rfl⟩) _ (fp ..) hx)
 have eN : uh N (A.erase f.op) (fun o => if o = f.op then b0 else bs o) = uh N A bs := PU fun g hg => e g (fun hx => h2 (dd.2 ⟨g, hg, hx⟩))
 have eS : ∀ (A : List Nat) (bs : Nat -> Nat), uh (M ++ f :: N) A bs = uh M A bs ++ mU (f.op ∉ A) (ag (bs f.op) f.c f.T) :: uh N A bs := fun A bs => by unfold uh; rw [il, cG]
 rw [eS] at h ⊢;rw [eM, eN, ah rfl];have MU : f.op ∉ A.erase f.op := fun hx => ((List.Nodup.mem_erase_iff hA).1 hx).1 rfl
 refine QQ (A := mU (f.op ∉ A) (ag (bs f.op) f.c f.T)) ?_;exact (Nm (c := f.op ∉ A.erase f.op) (h.b [ag b0 f.c f.T])).b [aT _]
theorem QI : ∀ {fl : List GK} {bs : Nat -> Nat} {G : Gh} {R : List az} {w : World}, ar G (aT (uh fl [] bs) :: R) w -> ar G ((fl.map fun f => ag (bs f.op) f.c f.T) ++ R) w := fun {fl bs G R w} h => by
 have h1 := h.cD;clear h
 suffices ∀ (fl : List GK) (R : List az) (w : World), ar G (uh fl [] bs ++ R) w -> ar G ((fl.map fun f => ag (bs f.op) f.c f.T) ++ R) w from this fl R w h1
 intro fl
 induction fl with
 | nil => intro R w h; exact h
 | cons f fl ih =>
  intro R w h;have h2 := nu sM (show ar G (mU (f.op ∉ []) (ag (bs f.op) f.c f.T) :: (uh fl [] bs ++ R)) w from h);have h3 : ar G (uh fl [] bs ++ ag (bs f.op) f.c f.T :: R) w := h2.yK im;have h4 := ih _ _ h3;exact h4.pick im
theorem NV : ∀ {fl : List GK} {bs : Nat -> Nat} {G : Gh} {R : List az} {w : World}, ar G R w -> ar G (aT (uh fl (fl.map GK.op) bs) :: R) w := fun {fl bs G R w} h => by
 refine ar.bH ?_
 suffices ∀ (gl : List GK), (∀ f ∈ gl, f.op ∈ fl.map GK.op) -> ar G (uh gl (fl.map GK.op) bs ++ R) w from this fl (fun f hf => dd.2 ⟨f, hf, rfl⟩)
 intro gl
 induction gl with
 | nil => intro _; exact h
 | cons f gl ih => intro hg; exact Sn (not_not_intro (hg f (fp ..))) (ih fun g hx => hg g (gF _ hx))
theorem FT {n : Nat} {e : gj} {a : Act} {bs : Nat -> Nat} (h : dT n e a) : ∀ (fl : List GK), (∀ f ∈ fl, f.d ≠ 1000000000 /\ a.tmps.getD f.d undef = .pointer (some ⟨bs f.op, 0, none⟩)) -> dT n (aa9 fl bs e) a
 | [], _ => h
 | f :: fl, hf => (FT h fl fun g hg => hf g (gF _ hg)).aby (hf f (fp ..)).2 (hf f (fp ..)).1
def aba (ops : Array Oper) (gY : List (List Nat)) (fl : List GK) : Bool := decide ((fl.map GK.op).Nodup) && decide ((fl.map GK.d).Nodup) && gY.all fun s => fl.all fun f => !(DB ops s).contains f.d
theorem D8 {P : Program} {n : Nat} {ops : Array Oper} {q : Nat} {e1 e : gj} {w : World} (hs : kK e1 e) (h : vt P n ops q e1 w) : vt P n ops q e w := fun o ho a ha => h o ho a (ha.sub hs)
section
variable {P : Program} {n : Nat} {ro : Option Nat} {ops : Array Oper} {K : mK} {E0 : List (Nat × mK)} {F0 : mK} {e : gj} {w : World}
theorem zQ {id : Nat} {G : Gh} {α : Nat -> Type} (pre : List Nat) (gY : List (List Nat)) (fl : List GK) (post rq : List Nat) (E : ∀ k, α k -> gj) (L : ∀ k, α k -> List az) (hm : P.follows .mixedOrders = true) (hB : Xu P ops n pre gY (fl.map GK.op) post = true) (VH : aba ops gY fl = true)
  (ud : ∀ f ∈ fl, ∃ t p af, ops[f.op]? = some ⟨some f.d, .alloc f.T, t, p, af, none⟩ /\ cd P f.T = some f.c.toArray /\ Nat.blt f.d n = true /\ ∀ q ∈ iI P ops true (List.range ops.size) f.op, q ∈ rq)
  (Bb : ∀ k x, Fy (fl.map GK.d) (E k x) = true)
  (hrq : ∀ k, k <= gY.length -> ∀ x w F, ar G (F :: L k x) w -> ∀ q ∈ rq, vt P n ops q (E k x) w)
  (h0 : XL P n ops true [] pre (fun e' w' => ∃ x, kK (E 0 x) e' /\ ar G (L 0 x) w') e { w with drawn := w.drawn + 1 })
  (hs : ∀ k Xr, gY[k]? = some Xr -> ∀ x w F, ar G (F :: L k x) w -> XL P n ops true (List.range ops.size) Xr (fun e' w' => ∃ x', kK (E (k + 1) x') e' /\ ar G (F :: L (k + 1) x') w') (E k x) w)
  (hp : ∀ x w bs, ar G ((fl.map fun f => ag (bs f.op) f.c f.T) ++ L gY.length x) w -> XL P n ops true (List.range ops.size) post K (aa9 fl bs (E gY.length x)) w) : X P n ro (.region id ops true) K E0 F0 e w := fun a0 ha0 => by
 simp only [aba, qD, decide_eq_true_eq, yR, Bool.not_eq_true'] at VH;obtain ⟨⟨Q5, hn2⟩, hn3⟩ := VH;have GO := ha0.small;refine C5 hm hB ha0.size (fun S A a w => ∃ k x bs, S = gY.drop k /\ k <= gY.length /\ A.Nodup /\ (∀ b ∈ A, ∃ f ∈ fl, f.op = b) /\ dT n (E k x) a /\ (∀ f ∈ fl, f.op ∉ A -> a.tmps.getD f.d undef = .pointer (some ⟨bs f.op, 0, none⟩)) /\ ar G (aT (uh fl A bs) :: L k x) w) ?_ ?_ ?_ ?_
 ·rintro s ss A a w ⟨k, x, bs, hS, hk, hA, hAf, QC, Tf, hw⟩;have Hg : k < gY.length := by
   refine sN fun h => ?_
   rw [u0 oM] at hS; cases hS
  have hd := PW Hg;rw [hd] at hS;obtain ⟨rfl, rfl⟩ := List.cons.inj hS;have X8 : gY[k]? = some gY[k] := cV Hg;have h1 := hs k _ X8 x w _ hw a QC;have hS : ∀ i ∈ gY[k], ∀ o, ops[i]? = some o -> ∀ t, o.dst = some t -> (DB ops gY[k]).contains t = true := fun i hi o ho => AE hi ho
  refine rV (fun a' w' ⟨⟨e', Qz, x', SZ, oE⟩, Kr⟩ => ?_) _ _ _ _ (A5 _ _ _ _ hS h1);exact ⟨k + 1, x', bs, rfl, Hg, hA, hAf, Qz.sub SZ, fun f hf hfA => (Kr.same _ (hn3 _ (ed X8) f hf)).trans (Tf f hf hfA), oE⟩
 ·rintro S A b a w hb ⟨k, x, bs, hS, hk, hA, hAf, QC, Tf, hw⟩;obtain ⟨f, hf, rfl⟩ := hAf b hb;obtain ⟨t, p, af, ho, hz, hd, j6⟩ := ud f hf;have h1 : XL P n ops true (List.range ops.size) [f.op] (fun e' w' => ∃ b0, e' = (f.d, pQ b0) :: E k x /\ ar G (ag b0 f.c f.T :: aT (uh fl A bs) :: L k x) w') (E k x) w := by
   refine qy (hd := hd) (hg := trivial) ho hz hw (fun w' b0 oE q hq => ?_) (fun w' b0 oE => aH ⟨b0, rfl, oE⟩);have h2 := hrq k hk x w' (aT [ag b0 f.c f.T, aT (uh fl A bs)]) (ar.bH (M := [_, _]) oE) q (j6 q hq);intro o S7 a' Hh;refine h2 o S7 a' (Hh.sub ⟨fun t v hv => ?_, ?_⟩)
   ·have ly : f.d ≠ t := fun e => by
     have h3 := ug (Bb k x) hv;rw [<-e] at h3;have h4 : (fl.map GK.d).contains f.d = true := By.2 (dd.2 ⟨f, hf, rfl⟩);rw [h4] at h3; cases h3
    simp only [get, uH ly, Bool.false_and, cond]; exact hv
   refine (j5 ?_).symm;have := Nat.le_of_ble_eq_true hd; omega
  have VF : ∀ i ∈ [f.op], ∀ o, ops[i]? = some o -> ∀ t, o.dst = some t -> (DB ops [f.op]).contains t = true := fun i hi o ho => AE hi ho
  refine rV (fun a' w' ⟨⟨e', Qz, b0, hee, oE⟩, Kr⟩ => ?_) _ _ _ _ (A5 _ _ _ _ VF (h1 a QC));subst hee;have rf : f.d ≠ 1000000000 := by have := Nat.le_of_ble_eq_true hd; omega
  refine ⟨k, x, fun o => if o = f.op then b0 else bs o, hS, hk, hA.erase _, fun c hc => hAf c (List.mem_of_mem_erase hc), Qz.sub ⟨fun t v hv => ?_, (j5 rf).symm⟩, fun g hg hgA => ?_, ?_⟩
  ·have ly : f.d ≠ t := fun e => by
    have h3 := ug (Bb k x) hv;rw [<-e] at h3;have h4 : (fl.map GK.d).contains f.d = true := By.2 (dd.2 ⟨f, hf, rfl⟩);rw [h4] at h3; cases h3
   simp only [get, uH ly, Bool.false_and, cond]; exact hv
  ·by_cases hgf : g.op = f.op
   ·have e1 : g = f := Ju Q5 hg hf hgf;subst e1
    show a'.tmps.getD g.d undef = .pointer (some ⟨if g.op = g.op then b0 else bs g.op, 0, none⟩)
    rw [ah rfl];exact Qz.get g.d _ (by simp only [get, Nat.beq_refl, uH rf, Bool.not_false, Bool.and_true, cond])
   simp only [ae hgf];have ach : g.op ∉ A := fun h => hgA ((List.mem_erase_of_ne hgf).2 h)
   refine (Kr.same _ ?_).trans (Tf g hg ach);have e1 : DB ops [f.op] = [f.d] := by simp [DB, ho]
   rw [e1];cases hc : [f.d].contains g.d with
   | false => rfl
   | true =>
    exfalso;have hc := By.1 hc;rw [Jj] at hc;exact hgf (congrArg GK.op (Ju hn2 hg hf hc))
  exact NW Q5 hA hf hb (oE.b [aT _])
 ·rintro a w ⟨k, x, bs, hS, hk, hA, hAf, QC, Tf, hw⟩;have iX : k = gY.length := by
   refine sN fun h => ?_
   have := congrArg List.length hS;rw [iC] at this; simp at this; omega
  subst iX;refine hp x w bs (QI hw) a (FT QC fl fun f hf => ⟨?_, Tf f hf sM⟩);obtain ⟨t, p, af, ho, hz, hd, j6⟩ := ud f hf;have := Nat.le_of_ble_eq_true hd; omega
 have h1 := h0 a0 ha0;refine rV (fun a' w' ⟨e', Qz, x, SZ, oE⟩ => ?_) _ _ _ _ h1;exact ⟨0, x, fun _ => 0, rfl, fo _, Q5, fun b hb => by
   obtain ⟨f, hf, rfl⟩ := dd.1 hb; exact ⟨f, hf, rfl⟩, Qz.sub SZ, fun f hf hfA => absurd (dd.2 ⟨f, hf, rfl⟩) hfA, NV oE⟩
end
end Go.Proofs.YteifbglognfgdaaGreatDoor.X
