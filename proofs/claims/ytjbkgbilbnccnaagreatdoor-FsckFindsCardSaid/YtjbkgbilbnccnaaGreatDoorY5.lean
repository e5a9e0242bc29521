/- The ground and the walks of this claim, part 5: XMapC XDsk XFk1 XWire2 XSum XBank XDec XDec2 XDec3 XSuper XSuper2 XFk2 XLook XLook2 XLook3 XAs XTold XKids XSort. -/
import Derived.Test.YtjbkgbilbnccnaaGreatDoorY4
namespace Go.Proofs.YtjbkgbilbnccnaaGreatDoor.X
open _root_.Go.Proofs.Tryz _root_.Go.Proofs.YtjbkgbilbnccnaaGreatDoor.Tryz
set_option linter.unusedVariables false
set_option linter.unusedSimpArgs false
set_option maxRecDepth 20000
set_option maxHeartbeats 8000000
abbrev CK := Int × Int
def qZ (c : CK) : List Value := [iQ c.1, iQ c.2]
def yz (c : CK) : Value := gQ (qZ c)
abbrev KC := List (CK × Value)
def qY : KC -> CK -> Option Value
 | [], _ => none
 | (k, v) :: r, i => if i = k then some v else qY r i
def mJ : KC -> CK -> Value -> KC
 | [], i, v => [(i, v)]
 | (k, u) :: r, i, v => if i = k then (k, v) :: r else (k, u) :: mJ r i v
def fM : KC -> CK -> Nat -> Option (Nat × Value)
 | [], _, _ => none
 | (k, v) :: r, i, j => if i = k then some (j, v) else fM r i (j + 1)
theorem Js (kv : KC) (i : CK) (v : Value) (j : CK) : qY (mJ kv i v) j = if j = i then some v else qY kv j := by
 induction kv with
 | nil => simp [mJ, qY]
 | cons p r ih =>
  obtain ⟨k, u⟩ := p
  by_cases h : i = k
  ·subst h; simp only [mJ, if_true, qY]; split <;> rfl
  simp only [mJ, aj h, qY, ih]
  by_cases h1 : j = k
  ·subst h1; simp [Ne.symm h]
  simp [h1]
theorem zw (i : CK) : ∀ (kv : KC) (j : Nat), (fM kv i j).map (·.2) = qY kv i
 | [], _ => rfl
 | (k, v) :: r, j => by by_cases h : i = k <;> simp [fM, qY, h, zw i r]
theorem Gv {i : CK} {v : Value} : ∀ {kv : KC} {j : Nat}, fM kv i j = none -> mJ kv i v = kv ++ [(i, v)]
 | [], _, _ => rfl
 | (k, u) :: r, j, h => by
  by_cases hk : i = k
  ·subst hk; simp [fM] at h
  simp [fM, hk] at h; simp [mJ, hk, Gv (v := v) h]
theorem MY {a : CK} {u : Value} : ∀ {kv : KC} {j q : Nat}, fM kv a j = some (q, u) -> j <= q
 | [], j, q, h => by simp [fM] at h
 | (k, x) :: r, j, q, h => by
  by_cases hk : a = k
  ·simp [fM, hk] at h; omega
  simp [fM, hk] at h; have := MY h; omega
def KW (es : List MapEntry) : List (Value × Value) := es.map fun e => (e.key, e.val)
def rS (kv : KC) : List (Value × Value) := kv.map fun p => (yz p.1, p.2)
theorem Jw {a : CK} {u : Value} : ∀ {kv : KC} {j q : Nat}, fM kv a j = some (q + j, u) -> (rS kv)[q]? = some (yz a, u)
 | [], j, q, h => by simp [fM] at h
 | (k, x) :: r, j, q, h => by
  by_cases hk : a = k
  ·subst hk;simp [fM] at h;obtain ⟨h1, rfl⟩ := h;subst h1; simp [rS]
  simp only [fM, aj hk] at h;have h1 := MY h;obtain ⟨q', rfl⟩ : ∃ q', q = q' + 1 := ⟨q - 1, oM⟩;rw [show q' + 1 + j = q' + (j + 1) by omega] at h
  have := Jw h
  simpa [rS] using this
theorem Ct (i : CK) (v : Value) : ∀ (es : List MapEntry) (kv : KC) (j : Nat), KW es = rS kv -> ∀ q u, fM kv i j = some (q, u) -> j <= q /\ ∃ e, es[q - j]? = some e /\ e.key = yz i /\ KW (es.modify (q - j) fun e => { e with key := yz i, val := v }) = rS (mJ kv i v)
 | [], [], _, _, _, _, h => by simp [fM] at h
 | [], _ :: _, _, h, _, _, _ => by simp [KW, rS] at h
 | _ :: _, [], _, h, _, _, _ => by simp [KW, rS] at h
 | e :: es, (k, u) :: kv, j, h, q, u', hf => by
  simp only [KW, rS, cH, List.cons.injEq, Prod.mk.injEq] at h;obtain ⟨⟨h1, h2⟩, h3⟩ := h
  by_cases hk : i = k
  ·subst hk;simp [fM] at hf;obtain ⟨rfl, rfl⟩ := hf;refine ⟨g8 _, e, ?_⟩;simp [mJ, KW, rS, h1, h3]
  simp [fM, hk] at hf;obtain ⟨hle, e', h4, h5, h6⟩ := Ct i v es kv (j + 1) h3 q u' hf;have hq : q - j = (q - (j + 1)) + 1 := oM;refine ⟨oM, e', ?_⟩;rw [hq];refine ⟨by simpa using h4, h5, ?_⟩;unfold KW rS at h6 ⊢
  simp only [Tw, cH, mJ, aj hk, h6, h1, h2]
theorem MR {a : CK} {u v : Value} : ∀ {kv : KC}, mJ (mJ kv a u) a v = mJ kv a v
 | [] => by simp [mJ]
 | (k, x) :: r => by
  by_cases h : a = k
  ·subst h; simp [mJ]
  simp [mJ, h, MR (kv := r)]
theorem tw {a : CK} {v : Value} : ∀ {kv : KC} {j : Nat}, fM (mJ kv a v) a j = some (((fM kv a j).map (·.1)).getD (j + kv.length), v)
 | [], j => by simp [mJ, fM]
 | (k, x) :: r, j => by
  by_cases h : a = k
  ·subst h; simp [mJ, fM]
  simp only [mJ, aj h, fM, tw (kv := r) (j := j + 1), g5];rw [show j + 1 + r.length = j + (r.length + 1) by omega]
structure Hi (es : List MapEntry) (ck : Nat) (kv : KC) : Prop where
 nH : KW es = rS kv
 pI : ∀ e ∈ es, e.born < ck
 Bh : (es.map (·.born)).Nodup
theorem Hi.push {es : List MapEntry} {ck : Nat} {kv : KC} {a : CK} {v : Value} (h : Hi es ck kv) (hn : fM kv a 0 = none) : Hi (es ++ [{ key := yz a, val := v, born := ck }]) (ck + 1) (mJ kv a v) := by
 refine ⟨?_, fun e he => ?_, ?_⟩
 ·rw [Gv hn];have := h.nH;unfold KW rS at this ⊢;simp [this]
 ·simp at he; rcases he with he | rfl
  ·have := h.pI e he; omega
  simp
 simp only [kz, cH, gE];refine N2.2 ⟨h.Bh, by simp, fun b hb c hc => ?_⟩;simp at hc; subst hc;obtain ⟨e, he, rfl⟩ := dE.1 hb;have := h.pI e he; omega
theorem Aj (k : Value -> Value) (f : Value -> Value) : ∀ (es : List MapEntry) (q : Nat), (es.modify q fun e => { e with key := k e.key, val := f e.val }).map (·.born) = es.map (·.born)
 | [], q => by simp
 | e :: es, 0 => by simp
 | e :: es, q + 1 => by simp only [Tw, cH, Aj k f es q]
theorem Hi.set {es : List MapEntry} {ck : Nat} {kv : KC} {a : CK} {u v : Value} {q : Nat} (h : Hi es ck kv) (hq : fM kv a 0 = some (q, u)) : ∃ e, es[q]? = some e /\ e.key = yz a /\ Hi (es.modify q fun e => { e with key := yz a, val := v }) ck (mJ kv a v) := by
 obtain ⟨_, e', h4, h5, h6⟩ := Ct a v es kv 0 h.nH q u hq;simp only [Ra] at h4 h6;have hb := Aj (fun _ => yz a) (fun _ => v) es q;refine ⟨e', h4, h5, h6, fun x hx => ?_, by rw [hb]; exact h.Bh⟩;have Vj : x.born ∈ (es.modify q fun e => { e with key := yz a, val := v }).map (·.born) := dE.2 ⟨x, hx, rfl⟩;rw [hb] at Vj
 obtain ⟨z, hz, hzb⟩ := dE.1 Vj;have := h.pI z hz; omega
def yV (m : Nat) (kv : KC) : aw := fun h => ∃ es ck, h m = some (.map es ck) /\ Hi es.toList ck kv
def Of (m : Nat) (kv : KC) (a : CK) (u : Value) (st : Nat) : aw := fun h => ∃ es ck q e, h m = some (.map es ck) /\ Hi es.toList ck (mJ kv a u) /\ fM (mJ kv a u) a 0 = some (q, u) /\ es.toList[q]? = some e /\ e.born = st
structure Ck2 (P : Program) (kt : TypeId) : Prop where
 eq : ∀ (a b : CK) (w : World), (Op.equal kt (yz a) (yz b)).run P w = .ok (decide (a = b)) w
 YK : ∀ (b : Bool) (a : CK) (w : World), (Instr.checkKey b 10000 kt (yz a)).run P w = .ok () w
 und : ∃ fs, P.underlying kt = some (.struct fs)
section
variable {P : Program} {n : Nat} {ops : Array Oper} {dr : Bool} {done r : List Nat} {K : fm -> World -> Prop} {e : fm} {w : World} {i d : Nat} {t : TypeId} {p : String} {af : Array Edge} {g : Option (Nat × Bool)}
variable {G : Gh} {L R : List aw} {s T : TypeId} {x y c : Operand} {m : Nat} {kv : KC} {v : Value} {kt et : TypeId} {a : CK}
theorem I2 (hw : an G (yV m kv :: R) w) : ∃ es ck, Hi es.toList ck kv /\ an G (pt m (.map es ck) :: R) w := by
 obtain ⟨hg, h, hh, h1, h2, hd, hu, ⟨es, ck, hm, hf⟩, hL⟩ := hw;exact ⟨es, ck, hf, hg, h, hh, h1, h2, hd, hu, hm, hL⟩
theorem I1 {es : Array MapEntry} {ck : Nat} (hf : Hi es.toList ck kv) (hw : an G (pt m (.map es ck) :: R) w) : an G (yV m kv :: R) w := hw.eV fun h hm => ⟨es, ck, hm, hf⟩
theorem EO (hk : Ck2 P kt) (w : World) : ∀ (es : List MapEntry) (kv : KC) (j : Nat), KW es = rS kv -> (Instr.findAsking kt (yz a) es j).run P w = .ok (fM kv a j) w
 | [], [], _, _ => rfl
 | [], _ :: _, _, h => by simp [KW, rS] at h
 | _ :: _, [], _, h => by simp [KW, rS] at h
 | e :: es, (k, u) :: kv, j, h => by
  simp only [KW, rS, cH, List.cons.injEq, Prod.mk.injEq] at h;obtain ⟨⟨h1, h2⟩, h3⟩ := h;rw [Instr.findAsking, Sem.run_bind, h1, hk.eq, Result.andThen_ok]
  by_cases hh : a = k
  ·simp [hh, fM, h2]
  simp only [hh, decide_false, Bool.false_eq_true, if_false, fM];exact EO hk w es kv (j + 1) h3
theorem BG (hk : Ck2 P kt) {es : List MapEntry} (hf : KW es = rS kv) (w : World) : (Instr.findKey kt (yz a) es).run P w = .ok (fM kv a 0) w := by
 obtain ⟨fs, hu⟩ := hk.und;unfold Instr.findKey;rw [Sem.run_bind, run_underlying hu, Result.andThen_ok];cases es with
 | nil => cases kv with
  | nil => rfl
  | cons x kv => simp [KW, rS] at hf
 | cons e es =>
  have h1 : Instr.findNow (.struct fs) (yz a) (e :: es) 0 = none := by simp [Instr.findNow, Instr.sameNow]
  rw [h1];exact EO hk w _ _ _ hf
theorem Tl (a : CK) : Instr.sameBits 10000 (yz a) (yz a) = true := by
 obtain ⟨x, y⟩ := a;simp [yz, qZ, Instr.sameBits]
theorem YW (ho : ops[i]? = some ⟨some d, .makeMap s none, t, p, af, g⟩) (hd : Nat.blt d n = true) (hg : Gd ops e g) (hw : an G L w) (i' : gU P ops dr done i = [])
  (h : ∀ w' m, an G (yV m [] :: L) w' -> XL P n ops dr (i :: done) r K ((d, .map (some m)) :: e) w') : XL P n ops dr done (i :: r) K e w := by
 refine fU ho (by simpa [cy] using hd) hg (ρ := rh e) (by intro z hZ; simp [Op.operands] at hZ) rfl (v := .map (some w.heap.size)) (w' := { w with heap := w.heap.push (.map #[] 0) }) ?_ (fb i') (h _ _ (I1 ⟨rfl, by simp, by simp⟩ (hw.push _)));simp [execOp, Instr.makeMap, newObj, Sem.run]
theorem SQ {z : Value} (ho : ops[i]? = some ⟨some d, .lookup s x y false, t, p, af, g⟩) (hd : Nat.blt d n = true) (hg : Gd ops e g) (hs : P.underlying s = some (.map kt et)) (hk : Ck2 P kt) (hz : (P.info? et).bind (·.zero) = some z) (hx : ev e x = some (.map (some m))) (hy : ev e y = some (yz a))
  (hw : an G L w) (hp : cG (yV m kv) L R) {v0 : Value} (RO : (qY kv a).getD z = v0) (h : XL P n ops dr (i :: done) r K ((d, v0) :: e) w) : XL P n ops dr done (i :: r) K e w := by
 subst RO;obtain ⟨es, ck, hf, nL⟩ := I2 (hw.pick hp);refine wV ho (by simpa [cy] using hd) hg (ρ := rh e) (by intro z hZ; simp [Op.operands] at hZ; exact CX hx hy hZ) rfl (v := (qY kv a).getD z) ?_ h;have h1 := ey (P := P) nL.cW sM;have h2 := zw a kv 0;have h3 := BG (a := a) hk hf.nH;cases hi : P.info? et with
 | none => simp [hi] at hz
 | some inf =>
  have qw : inf.zero = some z := by simpa [hi] using hz
  cases uU : fM kv a 0 with
  | none => rw [uU] at h2 h3; simp at h2; simp [execOp, bj hx, bj hy, Instr.lookup, run_underlying hs, h1, hk.YK, h3, zeroValue, typeInfo, hi, qw, <-h2]
  | some q => obtain ⟨q, u⟩ := q; rw [uU] at h2 h3; simp at h2; simp [execOp, bj hx, bj hy, Instr.lookup, run_underlying hs, h1, hk.YK, h3, <-h2]
theorem IZ {u : Value} {st : Nat} (hw : an G (Of m kv a u st :: R) w) : ∃ es ck q e, Hi es.toList ck (mJ kv a u) /\ fM (mJ kv a u) a 0 = some (q, u) /\ es.toList[q]? = some e /\ e.born = st /\ an G (pt m (.map es ck) :: R) w := by
 obtain ⟨hg, h, hh, h1, h2, hd, hu, ⟨es, ck, q, e, hm, hf, hq, he, hb⟩, hL⟩ := hw;exact ⟨es, ck, q, e, hf, hq, he, hb, hg, h, hh, h1, h2, hd, hu, hm, hL⟩
theorem aaE {z : Value} (ho : ops[i]? = some ⟨some d, .mapEntry s x y, t, p, af, g⟩) (hd : Nat.blt d n = true) (hg : Gd ops e g) (hs : P.underlying s = some (.map kt et)) (hk : Ck2 P kt) (hz : (P.info? et).bind (·.zero) = some z) (hx : ev e x = some (.map (some m))) (hy : ev e y = some (yz a))
  (hw : an G L w) (hp : cG (yV m kv) L R) {u : Value} (hu : (qY kv a).getD z = u) (i' : ∀ w' st, an G (Of m kv a u st :: R) w' -> ∀ q ∈ gU P ops dr done i, uR P n ops q ((d, .tuple #[u, iQ (st : Nat)]) :: e) w')
  (h : ∀ w' st, an G (Of m kv a u st :: R) w' -> XL P n ops dr (i :: done) r K ((d, .tuple #[u, iQ (st : Nat)]) :: e) w') : XL P n ops dr done (i :: r) K e w := by
 obtain ⟨es, ck, hf, nL⟩ := I2 (hw.pick hp);have h1 := ey (P := P) nL.cW sM;have BZ := fun o' => mX (P := P) o' nL.cW sM
 have h3 := BG (a := a) hk hf.nH;have h2 := zw a kv 0;cases hi : P.info? et with
 | none => simp [hi] at hz
 | some inf =>
  have qw : inf.zero = some z := by simpa [hi] using hz
  cases uU : fM kv a 0 with
  | none =>
   rw [uU] at h3 h2;have hul : u = z := by rw [<-hu, <-h2]; rfl
   subst hul;have rq := hf.push (v := u) uU;have hfp := tw (a := a) (v := u) (kv := kv) (j := 0);rw [uU] at hfp;simp only [Option.map_none, Option.getD_none, pY] at hfp
   have hlen : es.toList.length = kv.length := by have := congrArg List.length hf.nH; simpa [KW, rS] using this
   have uo : an G (Of m kv a u ck :: R) { w with heap := w.heap.setIfInBounds m (.map (es.push { key := yz a, val := u, born := ck }) (ck + 1)) } := (nL.set _).eV fun hh hm => ⟨_, ck + 1, kv.length, { key := yz a, val := u, born := ck }, hm, by rw [Array.toList_push]; exact rq, hfp, by rw [Array.toList_push, <-hlen]; simp, rfl⟩
   refine fU ho (by simpa [cy] using hd) hg (ρ := rh e) (by intro z hZ; simp [Op.operands] at hZ; exact CX hx hy hZ) rfl (v := .tuple #[u, iQ (ck : Nat)]) (w' := _) ?_ (i' _ ck uo) (h _ ck uo);simp [execOp, bj hx, bj hy, Instr.mapEntry, run_underlying hs, h1, hk.YK, h3, zeroValue, typeInfo, hi, qw, BZ, goInt]
  | some q =>
   obtain ⟨q, u'⟩ := q;rw [uU] at h3 h2;have hul : u = u' := by rw [<-hu, <-h2]; rfl
   subst hul;obtain ⟨e', h4, h5, rq⟩ := hf.set (v := u) uU;have hfp := tw (a := a) (v := u) (kv := kv) (j := 0);rw [uU] at hfp;simp only [NZ, To] at hfp
   have Z4 : ((es[q]?).map (·.key)).getD (yz a) = yz a := by
    have : es[q]? = some e' := by simpa using h4
    simp [this, h5]
   have ZI : e'.val = u := by
    obtain ⟨_, e2, h6, h7, h8⟩ := Ct a u es.toList kv 0 hf.nH q u uU;simp only [Ra] at h6;rw [h4] at h6
    cases h6;have hx : (KW es.toList)[q]? = some (e'.key, e'.val) := by simp [KW, h4]
    have RY : ∀ (kv : KC) (j : Nat), fM kv a j = some (q + j, u) -> (rS kv)[q]? = some (yz a, u) := by
     exact fun kv j hh => Jw hh
    have := RY kv 0 uU;rw [<-hf.nH, hx] at this;exact congrArg Prod.snd (Option.some.inj this)
   have xz : (es.modify q fun e => { e with key := yz a }).toList = es.toList.modify q fun e => { e with key := yz a, val := u } := by
    rw [Array.toList_modify];apply LF;intro j;rw [Tu, Tu]
    by_cases hj : q = j
    ·subst hj; simp [h4, ZI]
    simp [hj]
   have uo : an G (Of m kv a u e'.born :: R) { w with heap := w.heap.setIfInBounds m (.map (es.modify q fun e => { e with key := yz a }) ck) } := (nL.set _).eV fun hh hm => ⟨_, ck, q, { e' with key := yz a, val := u }, hm, by rw [xz]; exact rq, hfp, by rw [xz, Tu]; simp [h4], rfl⟩
   refine fU ho (by simpa [cy] using hd) hg (ρ := rh e) (by intro z hZ; simp [Op.operands] at hZ; exact CX hx hy hZ) rfl (v := .tuple #[u, iQ (e'.born : Nat)]) (w' := _) ?_ (i' _ _ uo) (h _ _ uo);have RX : es[q]? = some e' := by simpa using h4
   simp [execOp, bj hx, bj hy, Instr.mapEntry, run_underlying hs, h1, hk.YK, h3, BZ, goInt, Z4, Instr.keyThatStays, Tl, RX, h5]
theorem aaF {u : Value} {st : Nat} (ho : ops[i]? = some ⟨none, .entryStore s x y c, t, p, af, g⟩) (hg : Gd ops e g) (hx : ev e x = some (.map (some m))) (hy : ev e y = some (iQ (st : Nat))) (hc : ev e c = some v)
  (hw : an G L w) (hp : cG (Of m kv a u st) L R) (i' : gU P ops dr done i = []) (h : ∀ w', an G (yV m (mJ kv a v) :: R) w' -> XL P n ops dr (i :: done) r K e w') : XL P n ops dr done (i :: r) K e w := by
 obtain ⟨es, ck, q, e0, hf, hq, he, hb, nL⟩ := IZ (hw.pick hp);have h1 := ey (P := P) nL.cW sM;have BZ := fun o' => mX (P := P) o' nL.cW sM
 obtain ⟨e', h4, h5, rq⟩ := hf.set (v := v) hq;rw [he] at h4;cases h4;rw [MR] at rq
 have acI : es.findIdx? (fun e => (e.born : Int) == (st : Int)) = some q := by
  have h0 : es = es.toList.toArray := by simp
  rw [h0, List.findIdx?_toArray, List.findIdx?_eq_some_iff_getElem];obtain ⟨iy, heq⟩ := xu.1 he;refine ⟨iy, by rw [heq, hb]; simp, fun j hj => ?_⟩;intro hc2;have hjb : (es.toList[j]).born = st := by simp at hc2 ⊢; omega
  have Kb := hf.Bh;have h6 : (es.toList.map (·.born))[j]? = (es.toList.map (·.born))[q]? := by
   rw [dg, dg, he, dm oM];simp only [NZ, hjb, hb]
  have Uy : j < (es.toList.map (·.born)).length := by rw [bX]; omega
  have := (List.getElem?_inj Uy Kb).1 h6;omega
 have xz : (es.modify q fun e => { e with val := v }).toList = es.toList.modify q fun e => { e with key := yz a, val := v } := by
  rw [Array.toList_modify];apply LF;intro j;rw [Tu, Tu]
  by_cases hj : q = j
  ·subst hj; simp [he, h5]
  simp [hj]
 refine zT ho rfl hg (ρ := rh e) (by intro z hZ; simp [Op.operands] at hZ; exact oh3 hx hy hc hZ) rfl (w' := _) ?_ (fb (dst := none) i') (h _ (I1 (ck := ck) (by rw [xz]; exact rq) (nL.set _)));simp [execOp, bj hx, bj hy, bj hc, Instr.entryStore, h1, asInt, asIntOf, acI, BZ]
theorem Xo {q dq : Nat} {z u : Value} {st : Nat} {gq : Option (Nat × Bool)} {pq : String} {aq : Array Edge} {tq : TypeId} (ho : ops[q]? = some ⟨some dq, .lookup s x y false, tq, pq, aq, gq⟩) (hs : P.underlying s = some (.map kt et)) (hk : Ck2 P kt) (hz : (P.info? et).bind (·.zero) = some z)
  (hx : ev e x = some (.map (some m))) (hy : ev e y = some (yz a)) (hv : get e dq = some u) (hw : an G L w) (hp : cG (Of m kv a u st) L R) : uR P n ops q e w := by
 intro o' RS a' ha PQ;have : o' = ⟨some dq, .lookup s x y false, tq, pq, aq, gq⟩ := Option.some.inj (RS.symm.trans ho);subst this;obtain ⟨es, ck, q1, e0, hf, hq, he, hb, nL⟩ := IZ (hw.pick hp);have h1 := ey (P := P) nL.cW sM;have h3 := BG (a := a) hk hf.nH;rw [hq] at h3;refine ⟨u, ?_, fun d' zK => ?_⟩
 ·have PN := ha.ev hx;have hya := ha.ev hy;simp [execOp, PN, hya, Instr.lookup, run_underlying hs, h1, hk.YK, h3]
 cases zK; exact ha.get dq u hv
end
theorem xi : Ck2 prog 163 := by
 refine ⟨fun a b w => ?_, fun b a w => by kernel_rfl, ⟨prog.fieldsOf 163, by kernel_rfl⟩⟩;have hf : ((prog.fieldsOf 163).toList.map fun f => (f.name != "_", f.type, f.offset)) = [(true, 3, 0), (true, 3, 1)] := by kernel_rfl
 obtain ⟨f1, f2, h, h1, h2⟩ := ab6 hf;have hu : prog.underlying 3 = some (.int .i64) := cP;simp only [Prod.mk.injEq, bne_iff_ne, ne_eq] at h1 h2;have hp : ∀ (xs : Array Value) (o : Nat) (v : Value) (w : World), xs[o]? = some v -> (part 3 xs o).run prog w = .ok v w := by
  intro xs o v w hv;exact run_part_plain w kR hv
 unfold Op.equal
 show (Op.equalIn (9998 + 2) 163 (gQ (qZ a)) (gQ (qZ b))).run prog w = _
 rw [run_equalIn_agg _ _ _ _ _ kR kR, h];simp [Op.eqFields, h1, h2, hp, qZ, run_equalIn_int _ _ _ _ _ _ _ hu];obtain ⟨i, r⟩ := a;obtain ⟨j, r'⟩ := b
 by_cases e1 : i = j <;> by_cases e2 : r = r' <;> simp [e1, e2]
def zb : bW := List.replicate 512 0
theorem wT : zb.length = 512 := JZ ..
theorem OZ : cD zb = rep 512 (.int .u8 0) := List.map_replicate ..
def GR (c : bW) : Value := gQ (cD c)
def Y8 (x : Nat × bW) : List Value := iQ x.1 :: cD x.2
structure Dk where
 fh : List bW
 ws : List (Nat × bW)
 on : Bool
 G4 : Int
 wrote : Nat
 synced : Nat
structure Dk.Ok (D : Dk) : Prop where
 lo : 8 <= D.fh.length
 hi : D.fh.length <= 65536
 ah : ∀ c ∈ D.fh, c.length = 512
 ws : ∀ x ∈ D.ws, x.1 < D.fh.length /\ x.2.length = 512
 G4 : -1 <= D.G4 /\ D.G4 <= 9223372036854775807
 off : D.on = false -> D.G4 = -1
 fL : D.ws.length <= D.wrote
def j9 (l : List bW) (i : Nat) : bW := l.getD i zb
def jT : List (Nat × bW) -> Nat -> Option bW
 | [], _ => none
 | (j, c) :: r, i => match jT r i with
  | some x => some x
  | none => if j = i then some c else none
theorem Fj {ws : List (Nat × bW)} {i : Nat} {c : bW} (h : jT ws i = some c) : (i, c) ∈ ws := by
 induction ws with
 | nil => cases h
 | cons x r ih =>
  obtain ⟨k, b⟩ := x;simp only [jT] at h;split at h
  ·rename_i y hy; cases h; exact jN _ (ih hy)
  split at h
  ·rename_i e; cases h; subst e; exact iD ..
  cases h
structure yJ (kv : KV) (l : List bW) : Prop where
 nod : (kv.map (·.1)).Nodup
 look : ∀ i : Int, cO kv i = if 0 <= i /\ i < l.length /\ j9 l i.toNat ≠ zb then some (GR (j9 l i.toNat)) else none
structure CF (kv : KV) (ws : List (Nat × bW)) : Prop where
 nod : (kv.map (·.1)).Nodup
 look : ∀ i : Int, cO kv i = if 0 <= i then (jT ws i.toNat).map GR else none
theorem sH {l : List bW} {i j : Nat} {c : bW} (hi : i < l.length) : j9 (l.set i c) j = if j = i then c else j9 l j := by
 unfold j9
 by_cases h : j = i
 ·subst h; simp [hi]
 simp [h, Tq, Ne.symm h]
def I8 (kv : KV) (i : Nat) (c : bW) : KV := if c = zb then rm kv i else lr kv i (GR c)
theorem yJ.ab8 {kv : KV} {l : List bW} (h : yJ kv l) {i : Nat} (hi : i < l.length) (c : bW) : yJ (I8 kv i c) (l.set i c) := by
 unfold I8
 by_cases hc : c = zb
 ·rw [ao hc];refine ⟨Fs h.nod _, fun j => ?_⟩;rw [RF h.nod, h.look]
  by_cases hj : j = i
  ·subst hj; simp [sH hi, hc]
  rw [aj hj, EX]
  by_cases h0 : 0 <= j
  ·have qF : ¬ j.toNat = i := oM;simp only [sH hi, aj qF]
  simp [h0]
 rw [aj hc];refine ⟨yY h.nod _ _, fun j => ?_⟩;rw [I7, h.look]
 by_cases hj : j = i
 ·subst hj; rw [ao rfl, ao]
  ·simp [sH hi]
  simp [sH hi, hc, hi]
 rw [aj hj, EX]
 by_cases h0 : 0 <= j
 ·have qF : ¬ j.toNat = i := oM;simp only [sH hi, aj qF]
 simp [h0]
theorem CF.nil : CF [] [] := ⟨by simp, fun i => by simp [cO, jT]⟩
def tj (n : Nat) (ml ms : Nat) (sv : Value) (on : Bool) (G4 : Int) (wrote synced : Nat) : List Value :=
 [iQ n, .map (some ml), sv, .map (some ms), .bool on, iQ G4, iQ wrote, iQ synced]
def p7 (p ml ms : Nat) (sv : Value) (kl ks : KV) (D : Dk) : List aw :=
 [ah p (tj D.fh.length ml ms sv D.on D.G4 D.wrote D.synced) 191, bH ml kl, bH ms ks, row 459 513 sv D.ws.length (D.ws.flatMap Y8)]
def eL (p : Nat) (D : Dk) : aw := fun h => D.Ok /\ ∃ ml ms sv kl ks, yJ kl D.fh /\ CF ks D.ws /\ all (p7 p ml ms sv kl ks D) h
section
variable {G : Gh} {L R : List aw} {w : World} {p : Nat} {D : Dk}
theorem AM (hw : an G (eL p D :: R) w) : D.Ok /\ ∃ ml ms sv kl ks, yJ kl D.fh /\ CF ks D.ws /\ an G (p7 p ml ms sv kl ks D ++ R) w := by
 obtain ⟨hg, h, hh, h1, h2, hd, hu, ⟨aW, ml, ms, sv, kl, ks, hl, hs, ha⟩, hR⟩ := hw;exact ⟨aW, ml, ms, sv, kl, ks, hl, hs, an.cF (M := p7 p ml ms sv kl ks D) ⟨hg, h, hh, h1, h2, hd, hu, ha, hR⟩⟩
theorem nR {ml ms : Nat} {sv : Value} {kl ks : KV} (aW : D.Ok) (hl : yJ kl D.fh) (hs : CF ks D.ws) (hw : an G (p7 p ml ms sv kl ks D ++ R) w) : an G (eL p D :: R) w := by
 have := an.bz (M := p7 p ml ms sv kl ks D) hw;exact this.eV fun h ha => ⟨aW, ml, ms, sv, kl, ks, hl, hs, ha⟩
theorem KB {n : Nat} (hw : an G L w) (hn : 8 <= n /\ n <= 65536) :
  Calls prog 122 #[iQ n] w (bU fun v w' => ∃ p, v = pQ p /\ an G (eL p ⟨List.replicate n zb, [], true, -1, 0, 0⟩ :: L) w') := by
 refine ad (args := [_]) func122 rfl ntmps122 rfl rfl ?_;refine z7 ?_;refine Ew rfl hw rfl fun w m4 hw => ?_;refine Ew rfl hw rfl fun w m5 hw => ?_;refine aO (v := .agg #[iQ n, .map (some m4), nQ, .map (some m5), .bool true, iQ (-1), iQ 0, iQ 0]) rfl rfl (fun w => kR) ?_;refine a9 rfl rfl rfl hw rfl fun w b7 hw => ?_;have hw := bI hw 459 513;have aW : Dk.Ok ⟨List.replicate n zb, [], true, -1, 0, 0⟩ := ⟨by simp; omega, by simp; omega, fun c hc => by rw [List.eq_of_mem_replicate hc]; exact wT, by simp, by simp, by simp, by simp⟩;have hlm : yJ [] (List.replicate n zb) := ⟨by simp, fun i => by
  have : j9 (List.replicate n zb) i.toNat = zb := by
   unfold j9; rw [lP, Wb]; split <;> rfl
  simp [cO, this]⟩
 refine z3 ?_;exact aK rfl rfl rfl ⟨_, rfl, nR (ml := m4) (ms := m5) (sv := nQ) aW hlm CF.nil (by
 have h := hw.E3 (As := [ah b7 _ _, bH m4 _, bH m5 _, row _ _ _ _ _]) (by repeat (first | exact mD.nil | (apply mD.cons; repeat (first | with_reducible exact cG.here | apply cG.there))));refine h.of_eq ?_;simp [p7, tj])⟩
theorem MD : prog.eqGuardType prog.depth 246 = false := by kernel_rfl
theorem A4 {n ml i : Nat} {c : bW} {kv : KV} {a b1 b2 b3 b4 b5 b6 : Value} (hw : an G (ah p [a, .map (some ml), b1, b2, b3, b4, b5, b6] 191 :: bH ml kv :: L) w) (hc : c.length = 512) :
  Calls prog 123 #[pQ p, iQ i, GR c] w (bU fun v w' => v = .tuple #[] /\ an G (ah p [a, .map (some ml), b1, b2, b3, b4, b5, b6] 191 :: bH ml (I8 kv i c) :: L) w') := by
 refine ad (args := [_, _, _]) func123 rfl ntmps123 rfl rfl ?_;refine z2 ?_;refine a9 rfl rfl rfl hw rfl fun w b5 hw => ?_;refine z3 ?_;refine bt rfl rfl (ar.cU iY hw pK (by rw [cN, hc])) ?_;refine aO (v := gQ (cD zb)) rfl rfl (fun w => by rw [OZ]; kernel_rfl) ?_;refine iU rfl rfl rfl rfl (v := .bool (decide (c = zb))) (fun w' => by rw [Sem.run_bind, run_eqGuard_agg _ _ _ _ _ _ _ MD, Result.andThen_ok]; simp only [binOp, Sem.run_bind, Hw pE iN bh hc wT, Result.andThen_ok]; rfl) ?_;refine aC ?_;refine aE rfl (fun h1 => ?_) fun h1 => ?_
 ·
  refine z4 ?_;refine lD gV hw ?_;refine z1 ?_;refine S1 rfl tV rfl iO cP rfl rfl hw pK rfl fun w hw => ?_;refine aC ?_;exact kC rfl rfl ⟨rfl, by
 have h := hw.E3 (As := [ah p _ _, bH ml _]) (by repeat (first | exact mD.nil | (apply mD.cons; repeat (first | with_reducible exact cG.here | apply cG.there))));rw [I8, ao h1];exact h.drop (.there (.there .here))⟩
 refine bd [0, 1, 2, 3, 4, 5, 6] bJ kR ?_;replace hw := hw.drawn (w.drawn + 1);refine z3 ?_;refine lD gV hw ?_;refine z1 ?_;refine bt rfl rfl (ar.cU iY hw pK (by rw [cN, hc])) ?_;refine Ld rfl tV iO cP rfl rfl rfl hw pK kR fun w hw => ?_;refine aC ?_;exact kC rfl rfl ⟨rfl, by
 have h := hw.E3 (As := [ah p _ _, bH ml _]) (by repeat (first | exact mD.nil | (apply mD.cons; repeat (first | with_reducible exact cG.here | apply cG.there))));rw [I8, aj h1];exact h.drop (.there (.there .here))⟩
theorem o4 (hw : an G (eL p D :: L) w) : Calls prog 59 #[pQ p] w (bU fun v w' => v = iQ D.fh.length /\ an G (eL p D :: L) w') := by
 obtain ⟨aW, ml, ms, sv, kl, ks, hl, hs, hw⟩ := AM hw;simp only [p7, tj, iC, ie] at hw;refine ad (args := [_]) func59 rfl ntmps59 rfl rfl ?_;refine z9 ?_;refine lD ag hw ?_;refine z3 ?_;exact aK rfl rfl rfl ⟨rfl, nR aW hl hs hw⟩
theorem A6 (hw : an G (eL p D :: L) w) : Calls prog 125 #[pQ p] w (bU fun v w' => v = .bool D.on /\ an G (eL p D :: L) w') := by
 obtain ⟨aW, ml, ms, sv, kl, ks, hl, hs, hw⟩ := AM hw;simp only [p7, tj, iC, ie] at hw;refine ad (args := [_]) func125 rfl ntmps125 rfl rfl ?_;refine z9 ?_;refine lD bM hw ?_;refine z3 ?_;exact aK rfl rfl rfl ⟨rfl, nR aW hl hs hw⟩
theorem zq {n : Nat} {i : Int} {b0 b1 b2 b3 b4 b5 b6 : Value} (hw : an G (ah p [iQ n, b0, b1, b2, b3, b4, b5, b6] 191 :: L) w) :
  Calls prog 283 #[pQ p, iQ i] w (bU fun v w' => v = .bool (decide (0 <= i /\ i < n)) /\ an G (ah p [iQ n, b0, b1, b2, b3, b4, b5, b6] 191 :: L) w') := by
 refine ad (args := [_, _]) func283 rfl ntmps283 rfl rfl ?_;refine z9 ?_;refine ay (d := 7) rfl (fun h1 => ?_) fun h1 => ?_
 ·
  refine z2 ?_;refine Bx rfl rfl ?_;refine z1 ?_;refine lD ag hw ?_;refine z5 ?_;exact aK rfl rfl rfl ⟨by simp [h1], hw⟩
 refine mN ?_;exact aK rfl rfl rfl ⟨by simp [h1], hw⟩
def Dk.bK (D : Dk) (i : Nat) : bW := (jT D.ws i).getD (j9 D.fh i)
theorem Bj (h : D.Ok) (i : Nat) : (j9 D.fh i).length = 512 := by
 unfold j9;rw [lP];cases hx : D.fh[i]? with
 | none => exact wT
 | some c => exact h.ah c (gl hx)
theorem z0 (h : D.Ok) (i : Nat) : (D.bK i).length = 512 := by
 unfold Dk.bK;cases hx : jT D.ws i with
 | none => exact Bj h i
 | some c => exact (h.ws _ (Fj hx)).2
theorem R6 (o : Option bW) : (o.map GR).getD (gQ (rep 512 (.int .u8 0))) = GR (o.getD zb) := by
 cases o
 ·show Value.agg _ = Value.agg _; rw [<-OZ]; rfl
 rfl
theorem yJ.getD {kv : KV} {l : List bW} (h : yJ kv l) {i : Nat} (hi : i < l.length) : (cO kv i).getD (gQ (rep 512 (.int .u8 0))) = GR (j9 l i) := by
 rw [h.look]
 by_cases hz : j9 l i = zb
 ·rw [aj (by simp [hz]), Option.getD_none, hz, GR, OZ]
 rw [ao (by simp [hz, hi])]; rfl
theorem EG {c : bW} (hc : c.length = 512) (l : List Value) (hl : l.length = 512) : l.take 0 ++ cD c ++ l.drop (0 + (cD c).length) = cD c := by
 rw [cN, hc, vm oM]; simp
theorem A5 {i : Int} (hw : an G (eL p D :: L) w) : Calls prog 224 #[pQ p, iQ i] w (bU fun v w' =>
  (D.on = false /\ v = .tuple #[nQ, iQ 17] /\ an G (eL p D :: L) w') ∨
  (D.on = true /\ ¬ (0 <= i /\ i < D.fh.length) /\ v = .tuple #[nQ, iQ 16] /\ an G (eL p D :: L) w') ∨
  (D.on = true /\ (0 <= i /\ i < D.fh.length) /\ ∃ s, v = .tuple #[s, iQ 0] /\ an G (row 5 1 s 512 (cD (D.bK i.toNat)) :: eL p D :: L) w')) := by
 obtain ⟨aW, ml, ms, sv, kl, ks, hl, hs, hw⟩ := AM hw;simp only [p7, tj, iC, ie] at hw;refine ad (args := [_, _]) func224 rfl ntmps224 rfl rfl ?_;refine yb ?_;refine lD bM hw ?_;refine jG rfl rfl ?_;refine z2 ?_;refine di rfl (fun h1 => ?_) fun h1 => ?_
 ·
  refine z6 ?_;exact cz rfl rfl rfl rfl (.inl ⟨by simpa using h1, rfl, nR aW hl hs hw⟩)
 refine z4 ?_;refine al rfl x4 rfl (zq hw) rfl fun w ED hv => ?_;obtain ⟨rfl, hw⟩ := hv;refine fo rfl rfl ?_;refine z2 ?_;refine aE rfl (fun h2 => ?_) fun h2 => ?_
 ·
  refine z6 ?_;exact cz rfl rfl rfl rfl (.inr (.inl ⟨by simpa using h1, h2, rfl, nR aW hl hs hw⟩))
 have xA : 0 <= i /\ i < D.fh.length := c6.1 h2;obtain ⟨j, rfl⟩ := Int.eq_ofNat_of_zero_le xA.1;have hj : j < D.fh.length := oM;have hq : cO ks (j : Int) = (jT D.ws j).map GR := by rw [hs.look, ao xA.1]; rfl
 have xx : ((jT D.ws j).getD zb).length = 512 := by
  cases hx : jT D.ws j with
  | none => exact wT
  | some c => exact (aW.ws _ (Fj hx)).2
 refine z6 ?_;refine lD gV hw ?_;refine z1 ?_;refine SZ rfl iO cP x7 rfl rfl hw pK (v0 := GR ((jT D.ws j).getD zb)) (b0 := (jT D.ws j).isSome) (by rw [hq]; exact R6 _) (by rw [hq]; exact Option.isSome_map) ?_;refine z3 ?_;refine aF rfl zR hw rfl fun w b6 hw => ?_;refine aT (cs := cD ((jT D.ws j).getD zb)) (l' := cD ((jT D.ws j).getD zb)) rfl tV rfl rfl iY (by rw [cN, xx]) (ig _) hw pK (by rw [iA]; decide) (by rw [vm (by rw [iA]; decide)]; simp) rfl (fun w hw => ?_);refine z6 ?_;refine jG rfl rfl ?_;refine aC ?_;refine di rfl (fun h3 => ?_) fun h3 => ?_
 ·
  have hn : jT D.ws j = none := by simpa using h3
  have Uo : D.bK j = j9 D.fh j := by unfold Dk.bK; rw [hn]; rfl
  have s8 := Bj aW j;refine z4 ?_;refine lD gV hw ?_;refine z1 ?_;refine u0 rfl iO cP x7 rfl rfl hw pK (v0 := GR (j9 D.fh j)) (hl.getD hj) ?_;refine aT (cs := cD (j9 D.fh j)) (l' := cD (j9 D.fh j)) rfl tV rfl rfl iY (by rw [cN, s8]) (ig _) hw pK (by simp [cN, xx]) (by rw [vm (by simp [cN, xx])]; simp) rfl (fun w hw => ?_);refine z3 ?_;refine CN rfl aI bh gB pj rfl rfl ⟨oM, oM⟩ oM oM hw rfl fun w b37 hw => ?_;refine z5 ?_;refine NF rfl pE wY dM rfl rfl ?_;refine VR (cs := cD (j9 D.fh j)) (l' := cD (j9 D.fh j)) rfl aI bh rfl rfl hw pK (Rd.jE hw pK) (by rw [cN, s8]; rfl) (ig _) (by rw [cN, s8]; simp) (EG s8 _ (by simp [iA])) kR (fun w hw => ?_);refine z8 ?_;exact cz rfl rfl rfl rfl (.inr (.inr ⟨by simpa using h1, xA, _, rfl, by
 have h := hw.E3 (As := [ah p _ _, bH ml _, bH ms _, row _ _ _ _ _, ah b37 _ _]) (by repeat (first | exact mD.nil | (apply mD.cons; repeat (first | with_reducible exact cG.here | apply cG.there))));have h := nR aW hl hs (h.drop (.there (.there (.there (.there (.there .here))))));have h := h.pick (A := ah b37 _ _) pK;have h := gS (z := 1) (m := 512) h (by rw [cN, s8]) mL;rw [<-Uo] at h; exact h⟩))
 obtain ⟨c, hn⟩ : ∃ c, jT D.ws j = some c := by cases hx : jT D.ws j with
  | none => simp [hx] at h3
  | some c => exact ⟨c, rfl⟩
 have Uo : D.bK j = c := by unfold Dk.bK; rw [hn]; rfl
 rw [hn] at hw xx;simp only [To] at hw xx
 refine z3 ?_;refine CN rfl aI bh gB pj rfl rfl ⟨oM, oM⟩ oM oM hw rfl fun w b37 hw => ?_;refine z5 ?_;refine NF rfl pE wY dM rfl rfl ?_;refine VR (cs := cD c) (l' := cD c) rfl aI bh rfl rfl hw pK (Rd.jE hw pK) (by rw [cN, xx]; rfl) (ig _) (by rw [cN, xx]; simp) (EG xx _ (by simp [iA])) kR (fun w hw => ?_);refine z8 ?_;exact cz rfl rfl rfl rfl (.inr (.inr ⟨by simpa using h1, xA, _, rfl, by
 have h := hw.E3 (As := [ah p _ _, bH ml _, bH ms _, row _ _ _ _ _, ah b37 _ _]) (by repeat (first | exact mD.nil | (apply mD.cons; repeat (first | with_reducible exact cG.here | apply cG.there))));have h := nR aW hl hs (h.drop (.there (.there (.there (.there (.there .here))))));have h := h.pick (A := ah b37 _ _) pK;have h := gS (z := 1) (m := 512) h (by rw [cN, xx]) mL;rw [<-Uo] at h; exact h⟩))
end
def A9 (l : bW) (i : Nat) : bW := (l.drop (512 * i)).take 512
def tS (l : bW) (n k : Nat) : List bW := (List.range n).map fun i => if i < k then A9 l i else zb
def js (l : bW) (n : Nat) : List bW := (List.range n).map (A9 l)
theorem LW (l : bW) (n k : Nat) : (tS l n k).length = n := by simp [tS]
theorem ns (l : bW) (n : Nat) : (js l n).length = n := by simp [js]
theorem Rl (l : bW) (n : Nat) : tS l n 0 = List.replicate n zb := by
 apply Re <;> simp [tS]
theorem TJ (l : bW) (n : Nat) : tS l n n = js l n := by
 apply Re
 ·simp [tS, js]
 intro i h1 h2;simp [tS, js] at h1 h2 ⊢;intro h; omega
theorem Rm (l : bW) {n k : Nat} (h : k < n) : tS l n (k + 1) = (tS l n k).set k (A9 l k) := by
 apply Re
 ·simp [tS]
 intro i h1 h2;simp only [tS, List.getElem_map, List.getElem_range, List.getElem_set]
 by_cases hi : k = i
 ·subst hi; simp
 rw [aj hi]
 by_cases h3 : i < k
 ·rw [ao h3, ao oM]
 rw [aj h3, aj oM]
theorem A8 {l : bW} {i n : Nat} (hl : l.length = 512 * n) (hi : i < n) : (A9 l i).length = 512 := by
 simp only [A9, fB, gT]; omega
theorem Gs {l : bW} {n : Nat} (hl : l.length = 512 * n) : ∀ c ∈ js l n, c.length = 512 := fun c hc => by
 simp only [js, dE, rj] at hc;obtain ⟨i, hi, rfl⟩ := hc;exact A8 hl hi
def ld (l : bW) : Prop := l.length % 512 = 0 /\ 8 <= l.length / 512 /\ l.length / 512 <= 65536
instance (l : bW) : Decidable (ld l) := inferInstanceAs (Decidable (_ /\ _ /\ _))
def Dk.new (l : List bW) : Dk := ⟨l, [], true, -1, 0, 0⟩
theorem Dk.Ok.new {l : List bW} (h1 : 8 <= l.length /\ l.length <= 65536) (h2 : ∀ c ∈ l, c.length = 512) : (Dk.new l).Ok :=
 ⟨h1.1, h1.2, h2, by simp [Dk.new], by simp [Dk.new], by simp [Dk.new], by simp [Dk.new]⟩
section
variable {G : Gh} {L R : List aw} {w : World} {p : Nat} {D : Dk}
theorem KD {v : Value} {l : bW} (hw : an G L w) (ka : aG L (dP v l)) (nM : l.length <= 140737488355328) :
  Calls prog 57 #[v] w (bU fun r w' => (¬ ld l /\ r = .tuple #[.pointer none, iQ 1] /\ an G L w') ∨
   (ld l /\ ∃ p, r = .tuple #[pQ p, iQ 0] /\ an G (eL p (Dk.new (js l (l.length / 512))) :: L) w')) := by
 obtain ⟨a, cap, rfl⟩ := ((ka.of sF).at hw).form;obtain ⟨n, hn⟩ : ∃ n : Nat, l.length / 512 = n := ⟨_, rfl⟩;have hq : (l.length : Int) / 512 = (n : Int) := oM;refine ad (args := [_]) func57 rfl ntmps57 rfl rfl ?_;refine z9 ?_;refine re rfl rfl rfl oM oM ?_;rw [hq];refine z6 ?_;refine jH rfl rfl rfl oM ?_;refine z4 ?_;refine ay (d := 16) rfl (fun h1 => ?_) fun h1 => ?_
 ·
  refine z8 ?_;refine bY rfl ?_;refine z6 ?_;exact cz rfl rfl rfl rfl (.inl ⟨by unfold ld; omega, rfl, hw⟩)
 refine z4 ?_;refine ay (d := 20) rfl (fun h2 => ?_) fun h2 => ?_
 ·
  refine z4 ?_;refine bY rfl ?_;refine z6 ?_;exact cz rfl rfl rfl rfl (.inl ⟨by unfold ld; omega, rfl, hw⟩)
 refine z4 ?_;refine aE rfl (fun h3 => ?_) fun h3 => ?_
 ·
  refine z6 ?_;exact cz rfl rfl rfl rfl (.inl ⟨by unfold ld; omega, rfl, hw⟩)
 have hF : ld l := by unfold ld; omega
 have hnl : l.length = 512 * n := oM;have hn8 : 8 <= n /\ n <= 65536 := oM;obtain ⟨b, o, rfl⟩ := ((ka.of sF).at hw).nn oM;refine z4 ?_;refine al rfl Im rfl (KB (n := n) hw hn8) rfl fun w v25 hv => ?_;obtain ⟨q, rfl, hw⟩ := hv;obtain ⟨aW, ml, ms, sv, kl, ks, hl, hs, hw⟩ := AM hw;simp only [p7, tj, iC, ie, JZ] at hw;refine z9 ?_;refine bF (fun m e w => ∃ (k : Nat) (kl : KV), k <= n /\ m = n - k /\ e = [(0, .slice (some ⟨b, o, none⟩) l.length cap), (4, iQ n), (5, pQ q), (26, iQ n), (27, iQ k)] /\ yJ kl (tS l n k) /\ an G (ah q (tj n ml ms sv true (-1) 0 0) 191 :: bH ml kl :: bH ms ks :: row 459 513 sv 0 [] :: L) w)
  (m := n) sB
  ⟨0, kl, dy _, rfl, rfl, by rw [Rl]; exact hl, hw⟩ ?_
 rintro m e w ⟨k, kl, hk, rfl, rfl, hl, hw⟩;simp only [tj] at hw;refine z5 ?_;refine aE rfl (fun h4 => ?_) fun h4 => ?_
 ·
  have gK : k < n := oM;have gN := A8 hnl gK;refine mN ?_;refine aF rfl zR hw rfl fun w b7 hw => ?_;refine z2 ?_;refine bd [0, 1, 2, 3, 4, 5] bJ kR ?_;replace hw := hw.drawn (w.drawn + 1);refine NF rfl pE wY dM rfl rfl ?_;refine z2 ?_;refine jH rfl rfl rfl oM ?_;refine S2 rfl aI bh rfl rfl ⟨oM, oM⟩ (by have := ((ka.of sF).at hw).cap; omega) ?_;refine VR (cs := cD (A9 l k)) (l' := cD (A9 l k)) rfl aI bh rfl rfl hw pK (by
      have h := (((ka.of sF).at hw).rdd (512 * k)).take 512;rw [<-wO] at h;rw [show ((k : Int) * 512).toNat * 1 = 512 * k by omega];exact h) (by rw [cN, gN]; show 512 = min _ _; omega) (ig _) (by rw [cN, gN]; simp [iA]) (EG gN _ (by simp [iA])) kR (fun w hw => ?_)
  refine z4 ?_;refine bt rfl rfl (ar.cU iY hw pK (by rw [cN, gN])) ?_;refine al rfl zE rfl (A4 (n := n) (i := k) (c := A9 l k) (hw.E3 (As := [ah q _ _, bH ml _]) (by repeat (first | exact mD.nil | (apply mD.cons; repeat (first | with_reducible exact cG.here | apply cG.there))))) gN) rfl (fun w X9 hv => ?_);obtain ⟨-, hw⟩ := hv;simp only [iC, ie, List.append_eq] at hw;refine z5 ?_;refine ⟨n - (k + 1), oM, [(0, _), (4, _), (5, _), (26, _), (27, iQ (k + 1 : Nat))], sB, k + 1, I8 kl k (A9 l k), oM, rfl, rfl, ?_, ?_⟩
  ·rw [Rm l gK]; exact hl.ab8 (by rw [LW]; exact gK) _
  have h := hw.E3 (As := [ah q _ _, bH ml _, bH ms _, row _ _ _ _ _]) (by repeat (first | exact mD.nil | (apply mD.cons; repeat (first | with_reducible exact cG.here | apply cG.there))));exact h.drop (.there (.there (.there (.there (cG.here (A := ah b7 _ _))))))
 refine z8 ?_;exact cz rfl rfl rfl rfl (by
 have Jg : k = n := oM;subst Jg;rw [TJ] at hl;refine .inr ⟨hF, q, rfl, nR (D := Dk.new (js l (l.length / 512))) (ml := ml) (ms := ms) (sv := sv) (kl := kl) (ks := ks) (Dk.Ok.new (by rw [ns]; omega) (by rw [hn]; exact Gs hnl)) (by rw [hn]; exact hl) hs (hw.of_eq ?_)⟩;simp [p7, tj, Dk.new, ns, hn])
end
structure Cf where
 blocks : Int
 qh : Int
 refs : Int
structure Pl where
 pages : Int
 gL : Int
 first : Int
structure Su where
 gen : Int
 cf : Cf
 next : Int
 roots : List (Int × Tr)
def uQ (p : Nat) : Nat := (p + 239) / 240
def oQ (b : Nat) : Nat -> Nat
 | 0 => 0
 | p + 1 => if 2 + 2 * uQ (p + 1) + (p + 1) <= b then p + 1 else oQ b p
theorem LU {b : Nat} (hb : 2 <= b) : ∀ p, 2 + 2 * uQ (oQ b p) + oQ b p <= b
 | 0 => by simp [oQ, uQ]; omega
 | p + 1 => by
  rw [oQ];split
  ·assumption
  exact LU hb p
def gJ (c : Cf) : Prop := (8 <= c.blocks /\ c.blocks <= 65536) /\ (1 <= c.qh /\ c.qh <= 16) /\ (2 <= c.refs /\ c.refs <= 65535)
instance (c : Cf) : Decidable (gJ c) := by unfold gJ; infer_instance
def yg (c : Cf) : Nat := oQ c.blocks.toNat c.blocks.toNat
def aL (c : Cf) : Pl := ⟨yg c, uQ (yg c), 2 + 2 * uQ (yg c)⟩
theorem kA {c : Cf} (h : gJ c) : 0 <= (aL c).pages /\ 0 <= (aL c).gL /\ (aL c).first = 2 + 2 * (aL c).gL /\ (aL c).first + (aL c).pages <= c.blocks /\ (aL c).pages <= 240 * (aL c).gL /\ (aL c).gL = (uQ (aL c).pages.toNat : Nat) := by
 have h1 := LU (b := c.blocks.toNat) (by unfold gJ at h; omega) c.blocks.toNat;unfold aL;unfold yg at h1 ⊢;obtain ⟨p, hp⟩ : ∃ p, p = oQ c.blocks.toNat c.blocks.toNat := ⟨_, rfl⟩;rw [<-hp] at h1 ⊢
 have h2 : p <= 240 * uQ p := by unfold uQ; omega
 have h3 : 8 <= c.blocks := h.1.1;refine ⟨by simp, by simp, rfl, ?_, ?_, by simp⟩
 ·show (2 + 2 * (uQ p : Int)) + (p : Int) <= c.blocks
  omega
 show (p : Int) <= 240 * (uQ p : Int)
 omega
def py (next : Int) : Int -> List (Int × Tr) -> Prop
 | _, [] => True
 | cV, r :: l => (cV + 1 <= r.1 /\ r.1 <= next - 1) /\ py next r.1 l
instance NR (next : Int) : ∀ (cV : Int) (l : List (Int × Tr)), Decidable (py next cV l)
 | _, [] => .isTrue trivial
 | cV, r :: l => by unfold py; have := NR next r.1 l; infer_instance
def xP (pages : Int) (t : Tr) : Prop := jJ t \/ ((1 <= t.root /\ t.root <= pages) /\ (1 <= t.aQ /\ t.aQ <= 12) /\ 1 <= t.items /\ t.items <= pages * 8)
instance (pages : Int) (t : Tr) : Decidable (xP pages t) := by unfold xP; infer_instance
def eI (s : Su) : Int :=
 if ¬ gJ s.cf then 1 else if ¬ ((0 <= s.gen /\ s.gen <= 1099511627776) /\ (1 <= s.next /\ s.next <= 2147483648) /\ (s.roots.length : Int) <= s.cf.qh) then 4
 else if ¬ py s.next 0 s.roots then 11 else if ¬ ∀ r ∈ s.roots, xP (aL s.cf).pages r.2 then 5 else 0
theorem df {s : Su} (h : eI s = 0) : gJ s.cf /\ (0 <= s.gen /\ s.gen <= 1099511627776) /\ (s.roots.length : Int) <= s.cf.qh /\ ∀ r ∈ s.roots, xP (aL s.cf).pages r.2 := by
 unfold eI at h;split at h
 ·cases h
 rename_i h1;split at h
 ·cases h
 rename_i h2;split at h
 ·cases h
 split at h
 ·cases h
 rename_i h3;have h2 := c6.1 h2;exact ⟨c6.1 h1, h2.1, h2.2.2, c6.1 h3⟩
def gH (p : Pl) (gen : Int) : Int := if gen % 2 = 0 then 2 else 2 + p.gL
def kG (b : bW) : Prop := nm (b.drop 508) = (JR (b.take 508)).toNat
instance (b : bW) : Decidable (kG b) := by unfold kG; infer_instance
def Vg (pages i : Int) : Int := min (pages - i * 240) 240
def ue (b : bW) (k : Nat) : Int := (nm ((b.drop (17 + 2 * k)).take 2) : Nat)
def Dg (gen pages i : Int) (b : bW) : Prop := b.getD 0 0 = 66 /\ ((nm ((b.drop 1).take 8) : Nat) : Int) = gen /\ ((nm ((b.drop 9).take 4) : Nat) : Int) = i /\ ((nm ((b.drop 13).take 4) : Nat) : Int) = pages
instance (gen pages i : Int) (b : bW) : Decidable (Dg gen pages i b) := by unfold Dg; infer_instance
def oP (l : bW) : Prop := ∀ x ∈ l, x = 0
instance (l : bW) : Decidable (oP l) := by unfold oP; infer_instance
def q5 (gen pages i : Int) (b : bW) : Option (List Int) :=
 if kG b /\ Dg gen pages i b /\ oP ((b.take 508).drop (17 + 2 * (Vg pages i).toNat))
 then some ((List.range (Vg pages i).toNat).map (ue b)) else none
structure Rk where
 b : bW
 ok : Bool
def fQ (n : Nat) (r : Rk) : bW × Rk := if r.ok = true /\ n <= r.b.length then (r.b.take n, ⟨r.b.drop n, true⟩) else ([], ⟨r.b, false⟩)
def cr (n : Nat) (r : Rk) : Nat × Rk := (nm (fQ n r).1, (fQ n r).2)
def Aq (kind : Int) (r : Rk) : It × Rk :=
 let a := cr 1 r
 let k := fQ a.1 a.2
 if kind = 1 then
  let z := cr 2 k.2
  if (z.1 : Int) <= 32 then (⟨k.1, (fQ z.1 z.2).1, 0, z.1⟩, (fQ z.1 z.2).2) else (⟨k.1, [], (cr 4 z.2).1, z.1⟩, (cr 4 z.2).2)
 else (⟨k.1, [], (cr 4 k.2).1, 0⟩, (cr 4 k.2).2)
def jV (kind : Int) : Nat -> Rk -> List It × Rk
 | 0, r => ([], r)
 | n + 1, r => ((jV kind n r).1 ++ [(Aq kind (jV kind n r).2).1], (Aq kind (jV kind n r).2).2)
def YD (r : Rk) : (Nat × Nat × Nat × Nat) × Rk :=
 let a := cr 1 r
 let b := cr 1 a.2
 let c := cr 4 b.2
 let d := cr 8 c.2
 ((a.1, b.1, c.1, d.1), d.2)
def Jz (kind level : Nat) (r : Rk) : Pg × Rk :=
 if kind = 3 then
  let n := cr 2 r
  let m := cr 4 n.2
  (⟨kind, level, [], (fQ n.1 m.2).1, m.1⟩, (fQ n.1 m.2).2)
 else
  let n := cr 1 r
  (⟨kind, level, (jV kind n.1 n.2).1, [], 0⟩, (jV kind n.1 n.2).2)
def xC (no : Int) (b : bW) : Option (Pg × Int) :=
 if kG b /\ 1 <= no /\ no <= 65536 then
  let h := YD ⟨b.take 508, true⟩
  let p := Jz h.1.1 h.1.2.1 h.2
  if (h.1.2.2.1 : Int) = no /\ h.1.2.2.2 <= 1099511627776 /\ (oP p.2.b /\ p.2.ok = true) /\ cM p.1 = 0 then some (p.1, (h.1.2.2.2 : Int)) else none
 else none
theorem MI {no : Int} {b : bW} (h : ¬ kG b) : xC no b = none := by unfold xC; rw [aj (fun h1 => h h1.1)]
theorem MJ {no : Int} {b : bW} {p : Pg} {g : Int} (h : xC no b = some (p, g)) : cM p = 0 /\ kG b := by
 unfold xC at h;split at h
 ·rename_i h1;simp only at h;split at h
  ·rename_i h2;simp only [Option.some.injEq, Prod.mk.injEq] at h;exact ⟨by rw [<-h.1]; exact h2.2.2.2, h1.1⟩
  cases h
 cases h
theorem JA {gen pages i : Int} {b : bW} (h : ¬ kG b) : q5 gen pages i b = none := by unfold q5; rw [aj (fun h1 => h h1.1)]
theorem CC {gen pages i : Int} {b : bW} {l : List Int} (h : q5 gen pages i b = some l) : l.length = (Vg pages i).toNat /\ kG b := by
 unfold q5 at h;split at h
 ·rename_i h1; cases h; exact ⟨by simp, h1.1⟩
 cases h
def gy (s : Su) (Bk : Nat -> bW) (n : Int) : Option Pg :=
 if 1 <= n /\ n <= (aL s.cf).pages then
  match xC n (Bk ((aL s.cf).first + n - 1).toNat) with
  | some (p, g) => if g <= s.gen then some p else none
  | none => none
 else none
def ir (s : Su) (Bk : Nat -> bW) (i : Nat) : Option (List Int) := q5 s.gen (aL s.cf).pages i (Bk (gH (aL s.cf) s.gen + i).toNat)
def nV (f : Nat -> Option (List Int)) : Nat -> Option (List Int)
 | 0 => some []
 | k + 1 => match nV f k with
  | none => none
  | some a => match f k with
   | none => none
   | some b => some (a ++ b)
def vr (rd : Int -> Option Pg) (c : List Int) : Nat -> Option (List (Int × Pg))
 | 0 => some []
 | k + 1 => match vr rd c k with
  | none => none
  | some l => if c.getD k 0 = 0 then some l else match rd ((k : Int) + 1) with
   | none => none
   | some p => some (l ++ [((k : Int) + 1, p)])
def jS (s : Su) (Bk : Nat -> bW) : Option (List Int × List (Int × Pg)) :=
 match nV (ir s Bk) (aL s.cf).gL.toNat with
 | none => none
 | some c => match vr (gy s Bk) c c.length with
  | none => none
  | some l => some (c, l)
def jU (lev : Int) : Int := if lev = -1 then 3 else if lev = 0 then 1 else 2
def xh (s : Su) (Bk : Nat -> bW) (c : CK) : Option (List CK) := match gy s Bk c.1 with
 | none => none
 | some p => if p.kind ≠ jU c.2 \/ (jU c.2 = 2 /\ p.level ≠ c.2) then none
  else if ∃ k ∈ cL p, (aL s.cf).pages < k then none else some ((cL p).map fun k => (k, if jU c.2 = 2 then c.2 - 1 else -1))
def eP (l : List (Int × Tr)) : List CK := (l.filter fun x => decide (x.2.root ≠ 0)).map fun x => (x.2.root, x.2.aQ - 1)
structure Cls (f : CK -> Option (List CK)) (rs W : List CK) : Prop where
 root : ∀ c ∈ rs, c ∈ W
 T9 : ∀ c ∈ W, ∀ l, f c = some l -> ∀ k ∈ l, k ∈ W
 min : ∀ U : CK -> Prop, (∀ c ∈ rs, U c) -> (∀ c, U c -> ∀ l, f c = some l -> ∀ k ∈ l, U k) -> ∀ c ∈ W, U c
def S3 (q : Nat) (er : Int) : aw := ex fun v : Value => lZ (∃ a m c, v = .slice a m c) (ah q [v, iQ er] 399)
theorem sJ : ∃ ms, prog.underlying 20 = some (.interface ms) := Mg kR
section
variable {G : Gh} {L R : List aw} {w : World} {q : Nat} {b b' : bW} {er : Int}
theorem vO {p0 p1 p2 : Value} (hw : an G L w) : KS prog 335 #[p0, p1, p2] w (fun r w' => an G L w') := by
 obtain ⟨ms, hI⟩ := sJ;refine pH (u := .returning) (args := [_, _, _]) func335 rfl ntmps335 rfl rfl rfl rfl ?_;refine ju (cZ rfl ?_);refine z1 ?_;refine Lb rfl eH lS rfl ?_;refine z6 ?_;refine ju (cZ rfl ?_);refine z2 ?_;refine cg rfl ?_;refine ju (cZ rfl ?_);refine z1 ?_;refine uY rfl hI rfl ?_;refine aC ?_;refine cg rfl (dS ?_);exact yp rfl rfl hw
theorem uw {p0 p1 p2 : Value} (hw : an G L w) : KS prog 337 #[p0, p1, p2] w (fun r w' => an G L w') := by
 obtain ⟨ms, hI⟩ := sJ;refine pH (u := .returning) (args := [_, _, _]) func337 rfl ntmps337 rfl rfl rfl rfl ?_;refine ju (cZ rfl ?_);refine z1 ?_;refine Lb rfl eH lS rfl ?_;refine z6 ?_;refine ju (cZ rfl ?_);refine z2 ?_;refine cg rfl ?_;refine ju (cZ rfl ?_);refine z1 ?_;refine uY rfl hI rfl ?_;refine aC ?_;refine cg rfl (dS ?_);exact yp rfl rfl hw
theorem uv {p0 p1 p2 : Value} (hw : an G L w) : KS prog 333 #[p0, p1, p2] w (fun r w' => an G L w') := by
 obtain ⟨ms, hI⟩ := sJ;refine pH (u := .returning) (args := [_, _, _]) func333 rfl ntmps333 rfl rfl rfl rfl ?_;refine ju (cZ rfl ?_);refine z1 ?_;refine Lb rfl eH lS rfl ?_;refine z6 ?_;refine ju (cZ rfl ?_);refine z2 ?_;refine cg rfl ?_;refine ju (cZ rfl ?_);refine z1 ?_;refine uY rfl hI rfl ?_;refine aC ?_;refine cg rfl (dS ?_);exact yp rfl rfl hw
theorem uu {p0 p1 p2 : Value} (hw : an G L w) : KS prog 336 #[p0, p1, p2] w (fun r w' => an G L w') := by
 obtain ⟨ms, hI⟩ := sJ;refine pH (u := .returning) (args := [_, _, _]) func336 rfl ntmps336 rfl rfl rfl rfl ?_;refine ju (cZ rfl ?_);refine z1 ?_;refine Lb rfl eH lS rfl ?_;refine z6 ?_;refine ju (cZ rfl ?_);refine z2 ?_;refine cg rfl ?_;refine ju (cZ rfl ?_);refine z1 ?_;refine uY rfl hI rfl ?_;refine aC ?_;refine cg rfl (dS ?_);exact yp rfl rfl hw
theorem zf {p0 p1 p2 : Value} (hw : an G L w) : KS prog 338 #[p0, p1, p2] w (fun r w' => an G L w') := by
 obtain ⟨ms, hI⟩ := sJ;refine pH (u := .returning) (args := [_, _, _]) func338 rfl ntmps338 rfl rfl rfl rfl ?_;refine ju (cZ rfl ?_);refine z1 ?_;refine Lb rfl eH lS rfl ?_;refine z6 ?_;refine ju (cZ rfl ?_);refine z2 ?_;refine cg rfl ?_;refine ju (cZ rfl ?_);refine z1 ?_;refine uY rfl hI rfl ?_;refine aC ?_;refine cg rfl (dS ?_);exact yp rfl rfl hw
theorem zh {C : aw} {f : FuncId} {caps : List Value} {rv : Value} (hw : an G (iS q b 0 :: C :: L) w) (hf : ai prog f) (RR : rv.oneCell' = true)
  (P0 : ∀ (M : List aw) (w : World), an G (iS q b 0 :: C :: M) w -> Calls prog f caps.toArray w (bU fun r w' => r = rv /\ an G (iS q b' 0 :: C :: M) w')) :
  Calls prog 289 #[pQ q, .func (.func f) #[] caps.toArray] w (bU fun r w' => r = rv /\ an G (iS q b' 0 :: C :: L) w') := by
 obtain ⟨v, v0, b0, kv, hp, hw⟩ := lV hw;obtain ⟨a, cap, rfl⟩ := (((kv (C :: L)).of sF).at hw).form;refine ad (args := [_, _]) func289 rfl ntmps289 rfl rfl ?_;refine z2 ?_;refine a9 rfl rfl rfl hw rfl fun w b2 hw => ?_;refine aF rfl pj hw rfl fun w b4 hw => ?_;refine z4 ?_;refine lD (v := pQ q) aU hw ?_;refine z2 ?_;refine lD (v := iQ 0) aB hw ?_;refine z2 ?_;refine aE rfl (fun h1 => ?_) fun h1 => ?_
 ·
  exact absurd rfl h1
 refine z3 ?_;refine lD (v := pQ q) aU hw ?_;refine z2 ?_;refine lD (v := .slice a b.length cap) au hw ?_;refine aF rfl pP hw rfl fun w b5 hw => ?_;refine bu (l' := [.slice a b.length cap]) rfl tV rfl rfl au rfl hw pK rfl rfl rfl fun w hw => ?_;refine z2 ?_;refine sR (fs := 0) (fn := .func 335) (first := #[]) (captured := #[pQ b5, pQ b4, pQ b2]) (hm := rfl) rfl ?_;refine gP (v1 := #[]) (v2 := #[pQ b5, pQ b4, pQ b2]) rfl (by intro z hz; simp at hz; rcases hz with rfl | rfl | rfl <;> exact ⟨_, rfl⟩) sM (by simp only [jM, cH, gE]; rfl) ?_;refine aC ?_;refine ⟨rfl, ?_⟩;refine z3 ?_;have hw := lU kv hp (hw.b [ah q _ _, row 5 1 v0 _ _]);have hw := hw.b [iS q b 0, C];refine fc (args' := caps) rfl rfl hf rfl sM (P0 _ w hw) rfl fun w ED hv => ?_;obtain ⟨rfl, hw⟩ := hv;refine bu (l' := [ED]) rfl tV rfl rfl eC RR hw pK rfl rfl rfl fun w hw => ?_;refine z2 ?_;refine bB rfl ?_;refine iH uG (vO hw) fun v w hv => ?_;exact p6 rfl ⟨_, rfl, (ar.bL (v := ED) eC hv pK rfl)⟩ ⟨rfl, (hv.b [ah b4 _ _, ah b5 _ _, ah b2 _ _]).tail.tail.tail⟩
theorem AO (hw : an G (iS q b 0 :: L) w) (hn : 1 <= b.length) (hl : b.length <= 1000000000000) : Calls prog 230 #[pQ q] w (bU fun r w' => r = .int .u8 ((nm (b.take 1) : Nat) : Int) /\ an G (iS q (b.drop 1) 0 :: L) w') := by
 refine ad (args := [_]) func230 rfl ntmps230 rfl rfl ?_;refine z2 ?_;refine a9 rfl rfl rfl hw rfl fun w b1 hw => ?_;refine z4 ?_;refine lD (v := pQ q) aU hw ?_;refine gP (v1 := #[]) (v2 := #[pQ b1]) rfl (by intro z hz; simp at hz; subst hz; exact ⟨_, rfl⟩) sM (by simp only [jM, cH, gE]; rfl) ?_;have hw := hw.b [iS q b 0, ah b1 _ _];refine al rfl xQ rfl (zh (b' := b.drop 1) (rv := .int .u8 ((nm (b.take 1) : Nat) : Int)) (caps := [pQ b1]) hw wD rfl (fun M w hw => xH hw hn hl)) rfl fun w v5 hv => ?_;obtain ⟨rfl, hw⟩ := hv;refine z3 ?_;exact aK rfl rfl rfl ⟨rfl, (hw.b [ah b1 _ _]).tail⟩
theorem xG {C : aw} {f : FuncId} {caps : List Value} {rv : Value} (hw : an G (iS q b 0 :: C :: L) w) (hf : ai prog f) (RR : rv.oneCell' = true)
  (P0 : ∀ (M : List aw) (w : World), an G (iS q b 0 :: C :: M) w -> Calls prog f caps.toArray w (bU fun r w' => r = rv /\ an G (iS q b' 0 :: C :: M) w')) :
  Calls prog 295 #[pQ q, .func (.func f) #[] caps.toArray] w (bU fun r w' => r = rv /\ an G (iS q b' 0 :: C :: L) w') := by
 obtain ⟨v, v0, b0, kv, hp, hw⟩ := lV hw;obtain ⟨a, cap, rfl⟩ := (((kv (C :: L)).of sF).at hw).form;refine ad (args := [_, _]) func295 rfl ntmps295 rfl rfl ?_;refine z2 ?_;refine a9 rfl rfl rfl hw rfl fun w b2 hw => ?_;refine aF rfl SI hw rfl fun w b4 hw => ?_;refine z4 ?_;refine lD (v := pQ q) aU hw ?_;refine z2 ?_;refine lD (v := iQ 0) aB hw ?_;refine z2 ?_;refine aE rfl (fun h1 => ?_) fun h1 => ?_
 ·
  exact absurd rfl h1
 refine z3 ?_;refine lD (v := pQ q) aU hw ?_;refine z2 ?_;refine lD (v := .slice a b.length cap) au hw ?_;refine aF rfl pP hw rfl fun w b5 hw => ?_;refine bu (l' := [.slice a b.length cap]) rfl tV rfl rfl au rfl hw pK rfl rfl rfl fun w hw => ?_;refine z2 ?_;refine sR (fs := 0) (fn := .func 337) (first := #[]) (captured := #[pQ b5, pQ b4, pQ b2]) (hm := rfl) rfl ?_;refine gP (v1 := #[]) (v2 := #[pQ b5, pQ b4, pQ b2]) rfl (by intro z hz; simp at hz; rcases hz with rfl | rfl | rfl <;> exact ⟨_, rfl⟩) sM (by simp only [jM, cH, gE]; rfl) ?_;refine aC ?_;refine ⟨rfl, ?_⟩;refine z3 ?_;have hw := lU kv hp (hw.b [ah q _ _, row 5 1 v0 _ _]);have hw := hw.b [iS q b 0, C];refine fc (args' := caps) rfl rfl hf rfl sM (P0 _ w hw) rfl fun w ED hv => ?_;obtain ⟨rfl, hw⟩ := hv;refine bu (l' := [ED]) rfl tV rfl rfl E8 RR hw pK rfl rfl rfl fun w hw => ?_;refine z2 ?_;refine bB rfl ?_;refine iH tC (uw hw) fun v w hv => ?_;exact p6 rfl ⟨_, rfl, (ar.bL (v := ED) E8 hv pK rfl)⟩ ⟨rfl, (hv.b [ah b4 _ _, ah b5 _ _, ah b2 _ _]).tail.tail.tail⟩
theorem zj (hw : an G (iS q b 0 :: L) w) (hn : 2 <= b.length) (hl : b.length <= 1000000000000) : Calls prog 233 #[pQ q] w (bU fun r w' => r = .int .u16 ((nm (b.take 2) : Nat) : Int) /\ an G (iS q (b.drop 2) 0 :: L) w') := by
 refine ad (args := [_]) func233 rfl ntmps233 rfl rfl ?_;refine z2 ?_;refine a9 rfl rfl rfl hw rfl fun w b1 hw => ?_;refine z4 ?_;refine lD (v := pQ q) aU hw ?_;refine gP (v1 := #[]) (v2 := #[pQ b1]) rfl (by intro z hz; simp at hz; subst hz; exact ⟨_, rfl⟩) sM (by simp only [jM, cH, gE]; rfl) ?_;have hw := hw.b [iS q b 0, ah b1 _ _];refine al rfl wC rfl (xG (b' := b.drop 2) (rv := .int .u16 ((nm (b.take 2) : Nat) : Int)) (caps := [pQ b1]) hw uK rfl (fun M w hw => vW hw hn hl)) rfl fun w v5 hv => ?_;obtain ⟨rfl, hw⟩ := hv;refine z3 ?_;exact aK rfl rfl rfl ⟨rfl, (hw.b [ah b1 _ _]).tail⟩
theorem xF {C : aw} {f : FuncId} {caps : List Value} {rv : Value} (hw : an G (iS q b 0 :: C :: L) w) (hf : ai prog f) (RR : rv.oneCell' = true)
  (P0 : ∀ (M : List aw) (w : World), an G (iS q b 0 :: C :: M) w -> Calls prog f caps.toArray w (bU fun r w' => r = rv /\ an G (iS q b' 0 :: C :: M) w')) :
  Calls prog 284 #[pQ q, .func (.func f) #[] caps.toArray] w (bU fun r w' => r = rv /\ an G (iS q b' 0 :: C :: L) w') := by
 obtain ⟨v, v0, b0, kv, hp, hw⟩ := lV hw;obtain ⟨a, cap, rfl⟩ := (((kv (C :: L)).of sF).at hw).form;refine ad (args := [_, _]) func284 rfl ntmps284 rfl rfl ?_;refine z2 ?_;refine a9 rfl rfl rfl hw rfl fun w b2 hw => ?_;refine aF rfl SH hw rfl fun w b4 hw => ?_;refine z4 ?_;refine lD (v := pQ q) aU hw ?_;refine z2 ?_;refine lD (v := iQ 0) aB hw ?_;refine z2 ?_;refine aE rfl (fun h1 => ?_) fun h1 => ?_
 ·
  exact absurd rfl h1
 refine z3 ?_;refine lD (v := pQ q) aU hw ?_;refine z2 ?_;refine lD (v := .slice a b.length cap) au hw ?_;refine aF rfl pP hw rfl fun w b5 hw => ?_;refine bu (l' := [.slice a b.length cap]) rfl tV rfl rfl au rfl hw pK rfl rfl rfl fun w hw => ?_;refine z2 ?_;refine sR (fs := 0) (fn := .func 333) (first := #[]) (captured := #[pQ b5, pQ b4, pQ b2]) (hm := rfl) rfl ?_;refine gP (v1 := #[]) (v2 := #[pQ b5, pQ b4, pQ b2]) rfl (by intro z hz; simp at hz; rcases hz with rfl | rfl | rfl <;> exact ⟨_, rfl⟩) sM (by simp only [jM, cH, gE]; rfl) ?_;refine aC ?_;refine ⟨rfl, ?_⟩;refine z3 ?_;have hw := lU kv hp (hw.b [ah q _ _, row 5 1 v0 _ _]);have hw := hw.b [iS q b 0, C];refine fc (args' := caps) rfl rfl hf rfl sM (P0 _ w hw) rfl fun w ED hv => ?_;obtain ⟨rfl, hw⟩ := hv;refine bu (l' := [ED]) rfl tV rfl rfl m0 RR hw pK rfl rfl rfl fun w hw => ?_;refine z2 ?_;refine bB rfl ?_;refine iH tA (uv hw) fun v w hv => ?_;exact p6 rfl ⟨_, rfl, (ar.bL (v := ED) m0 hv pK rfl)⟩ ⟨rfl, (hv.b [ah b4 _ _, ah b5 _ _, ah b2 _ _]).tail.tail.tail⟩
theorem ly (hw : an G (iS q b 0 :: L) w) (hn : 4 <= b.length) (hl : b.length <= 1000000000000) : Calls prog 227 #[pQ q] w (bU fun r w' => r = .int .u32 ((nm (b.take 4) : Nat) : Int) /\ an G (iS q (b.drop 4) 0 :: L) w') := by
 refine ad (args := [_]) func227 rfl ntmps227 rfl rfl ?_;refine z2 ?_;refine a9 rfl rfl rfl hw rfl fun w b1 hw => ?_;refine z4 ?_;refine lD (v := pQ q) aU hw ?_;refine gP (v1 := #[]) (v2 := #[pQ b1]) rfl (by intro z hz; simp at hz; subst hz; exact ⟨_, rfl⟩) sM (by simp only [jM, cH, gE]; rfl) ?_;have hw := hw.b [iS q b 0, ah b1 _ _];refine al rfl wB rfl (xF (b' := b.drop 4) (rv := .int .u32 ((nm (b.take 4) : Nat) : Int)) (caps := [pQ b1]) hw uJ rfl (fun M w hw => vV hw hn hl)) rfl fun w v5 hv => ?_;obtain ⟨rfl, hw⟩ := hv;refine z3 ?_;exact aK rfl rfl rfl ⟨rfl, (hw.b [ah b1 _ _]).tail⟩
theorem xE {C : aw} {f : FuncId} {caps : List Value} {rv : Value} (hw : an G (iS q b 0 :: C :: L) w) (hf : ai prog f) (RR : rv.oneCell' = true)
  (P0 : ∀ (M : List aw) (w : World), an G (iS q b 0 :: C :: M) w -> Calls prog f caps.toArray w (bU fun r w' => r = rv /\ an G (iS q b' 0 :: C :: M) w')) :
  Calls prog 292 #[pQ q, .func (.func f) #[] caps.toArray] w (bU fun r w' => r = rv /\ an G (iS q b' 0 :: C :: L) w') := by
 obtain ⟨v, v0, b0, kv, hp, hw⟩ := lV hw;obtain ⟨a, cap, rfl⟩ := (((kv (C :: L)).of sF).at hw).form;refine ad (args := [_, _]) func292 rfl ntmps292 rfl rfl ?_;refine z2 ?_;refine a9 rfl rfl rfl hw rfl fun w b2 hw => ?_;refine aF rfl SG hw rfl fun w b4 hw => ?_;refine z4 ?_;refine lD (v := pQ q) aU hw ?_;refine z2 ?_;refine lD (v := iQ 0) aB hw ?_;refine z2 ?_;refine aE rfl (fun h1 => ?_) fun h1 => ?_
 ·
  exact absurd rfl h1
 refine z3 ?_;refine lD (v := pQ q) aU hw ?_;refine z2 ?_;refine lD (v := .slice a b.length cap) au hw ?_;refine aF rfl pP hw rfl fun w b5 hw => ?_;refine bu (l' := [.slice a b.length cap]) rfl tV rfl rfl au rfl hw pK rfl rfl rfl fun w hw => ?_;refine z2 ?_;refine sR (fs := 0) (fn := .func 336) (first := #[]) (captured := #[pQ b5, pQ b4, pQ b2]) (hm := rfl) rfl ?_;refine gP (v1 := #[]) (v2 := #[pQ b5, pQ b4, pQ b2]) rfl (by intro z hz; simp at hz; rcases hz with rfl | rfl | rfl <;> exact ⟨_, rfl⟩) sM (by simp only [jM, cH, gE]; rfl) ?_;refine aC ?_;refine ⟨rfl, ?_⟩;refine z3 ?_;have hw := lU kv hp (hw.b [ah q _ _, row 5 1 v0 _ _]);have hw := hw.b [iS q b 0, C];refine fc (args' := caps) rfl rfl hf rfl sM (P0 _ w hw) rfl fun w ED hv => ?_;obtain ⟨rfl, hw⟩ := hv;refine bu (l' := [ED]) rfl tV rfl rfl E7 RR hw pK rfl rfl rfl fun w hw => ?_;refine z2 ?_;refine bB rfl ?_;refine iH tz (uu hw) fun v w hv => ?_;exact p6 rfl ⟨_, rfl, (ar.bL (v := ED) E7 hv pK rfl)⟩ ⟨rfl, (hv.b [ah b4 _ _, ah b5 _ _, ah b2 _ _]).tail.tail.tail⟩
theorem zi (hw : an G (iS q b 0 :: L) w) (hn : 8 <= b.length) (hl : b.length <= 1000000000000) : Calls prog 231 #[pQ q] w (bU fun r w' => r = .int .u64 ((nm (b.take 8) : Nat) : Int) /\ an G (iS q (b.drop 8) 0 :: L) w') := by
 refine ad (args := [_]) func231 rfl ntmps231 rfl rfl ?_;refine z2 ?_;refine a9 rfl rfl rfl hw rfl fun w b1 hw => ?_;refine z4 ?_;refine lD (v := pQ q) aU hw ?_;refine gP (v1 := #[]) (v2 := #[pQ b1]) rfl (by intro z hz; simp at hz; subst hz; exact ⟨_, rfl⟩) sM (by simp only [jM, cH, gE]; rfl) ?_;have hw := hw.b [iS q b 0, ah b1 _ _];refine al rfl wA rfl (xE (b' := b.drop 8) (rv := .int .u64 ((nm (b.take 8) : Nat) : Int)) (caps := [pQ b1]) hw uI rfl (fun M w hw => vU hw hn hl)) rfl fun w v5 hv => ?_;obtain ⟨rfl, hw⟩ := hv;refine z3 ?_;exact aK rfl rfl rfl ⟨rfl, (hw.b [ah b1 _ _]).tail⟩
theorem zg {va vb x0 : Value} {b2 b4 b5 : Nat} {ee : Int} (ZJ : va.oneCell' = true) (hw : an G (ah b5 [va] 55 :: ah b4 [x0] 3 :: ah b2 [pQ q] 338 :: ah q [vb, iQ 0] 399 :: L) w) :
  CallsDIn (Fw none) 0 prog 338 #[pQ b5, pQ b4, pQ b2] (.panicking [{ v := .iface 41 (iQ ee), recovered := false }]) w fun en u' w' =>
   u' = .panicking [{ v := .iface 41 (iQ ee), recovered := true }] /\ bU (fun r w' => an G (ah b5 [va] 55 :: ah b4 [iQ 0] 3 :: ah b2 [pQ q] 338 :: ah q [va, iQ ee] 399 :: L) w') en w' := by
 refine pH (u := .panicking [{ v := .iface 41 (iQ ee), recovered := false }]) (args := [_, _, _]) func338 rfl ntmps338 rfl rfl rfl rfl ?_;refine ju (cZ rfl ?_);refine z1 ?_;refine aaH rfl eH sM rfl ?_;refine z6 ?_;refine ju (cZ rfl ?_);refine z2 ?_;refine bY rfl ?_;refine ju (cZ rfl ?_);refine z3 ?_;refine lD (v := pQ q) aU hw ?_;refine lD (v := pQ q) aU hw ?_;refine z1 ?_;refine lD (v := va) au hw ?_;refine z1 ?_;refine bu (l' := [iQ 0]) rfl tV rfl rfl ag rfl hw pK rfl rfl rfl fun w hw => ?_;refine z2 ?_;refine bu (l' := [va, iQ 0]) rfl tV rfl rfl au ZJ hw pK rfl rfl rfl fun w hw => ?_;refine z2 ?_;refine bu (l' := [va, iQ ee]) rfl tV rfl rfl aB rfl hw pK rfl rfl rfl fun w hw => ?_;refine aC ?_;exact yp rfl rfl (hw.b [ah b5 _ _, ah b4 _ _, ah b2 _ _, ah q _ _])
theorem Cl {C : aw} {f : FuncId} {caps : List Value} {z : Prop} {ee : Int} (hw : an G (iS q b 0 :: C :: L) w) (hf : ai prog f)
  (P0 : ∀ (M : List aw) (w : World), an G (iS q b 0 :: C :: M) w -> Calls prog f caps.toArray w (fun en w' => (z /\ en = .returned (iQ 0) /\ an G (iS q b' 0 :: C :: M) w') \/ (¬ z /\ en = .panicked [{ v := .iface 41 (iQ ee), recovered := false }] /\ an G (iS q b' 0 :: C :: M) w'))) :
  Calls prog 298 #[pQ q, .func (.func f) #[] caps.toArray] w (bU fun r w' => (z /\ an G (iS q b' 0 :: C :: L) w') \/ (¬ z /\ an G (S3 q ee :: C :: L) w')) := by
 obtain ⟨v, v0, b0, kv, hp, hw⟩ := lV hw;obtain ⟨a, cap, rfl⟩ := (((kv (C :: L)).of sF).at hw).form;refine wx (args := [_, _]) func298 rfl ntmps298 rfl rfl ?_;refine lh ?_;refine nE (cZ rfl ?_);refine a9 rfl rfl rfl hw rfl fun w b2 hw => ?_;refine aF rfl Es hw rfl fun w b4 hw => ?_;refine aC ?_;refine lh ?_;refine lh ?_;refine nE (cZ rfl ?_);refine lD (v := pQ q) aU hw ?_;refine z2 ?_;refine lD (v := iQ 0) aB hw ?_;refine z2 ?_;refine SP rfl (fun h1 => ?_) fun h1 => ?_
 ·
  exact absurd rfl h1
 refine nE (dS ?_);refine lh ?_;refine nE (cZ rfl ?_);refine lD (v := pQ q) aU hw ?_;refine z2 ?_;refine lD (v := .slice a b.length cap) au hw ?_;refine aF rfl pP hw rfl fun w b5 hw => ?_;refine bu (l' := [.slice a b.length cap]) rfl tV rfl rfl au rfl hw pK rfl rfl rfl fun w hw => ?_;refine aC ?_;refine lh ?_;refine nE (sR (fs := 0) (fn := .func 338) (first := #[]) (captured := #[pQ b5, pQ b4, pQ b2]) (hm := rfl) rfl ?_);refine gP (v1 := #[]) (v2 := #[pQ b5, pQ b4, pQ b2]) rfl (by intro z hz; simp at hz; rcases hz with rfl | rfl | rfl <;> exact ⟨_, rfl⟩) sM (by simp only [jM, cH, gE]; rfl) ?_;refine aC ?_;refine ⟨rfl, ?_⟩;refine lh ?_;have hw := lU kv hp (hw.b [ah q _ _, row 5 1 v0 _ _]);have hw := hw.b [iS q b 0, C];refine Pc [0] 1 [2] rfl rfl rfl ?_;refine z1 ?_;refine aC ⟨f, #[], caps.toArray, [], _, rfl, hf, rfl, by have h := P0 _ w hw; simpa using h, ?_, ?_, ?_⟩
 rotate_left
 ·rintro ch w (⟨-, h, -⟩ | ⟨hz, h, hw⟩)
  ·cases h
  cases h;obtain ⟨v1, v2, b1, -, -, hw⟩ := lV hw;refine RA (R := _) rfl o5 (zg rfl (hw.b [ah b5 _ _, ah b4 _ _, ah b2 _ _, ah q _ _])) fun x w hv => ?_;refine p6 rfl ⟨_, rfl, (ar.bL (v := iQ 0) ag hv pK rfl)⟩ (.inr ⟨hz, ?_⟩);have ZC := (hv.b [ah b5 _ _, ah b4 _ _, ah b2 _ _, row 5 1 v2 _ _]).tail.tail.tail.tail;exact an.gh (.slice a b.length cap) (an.fJ ⟨_, _, _, rfl⟩ ZC)
 ·rintro w (⟨-, h, -⟩ | ⟨-, h, -⟩) <;> cases h
 rintro ED w (⟨hz, h, hw⟩ | ⟨-, h, -⟩)
 rotate_left
 ·cases h
 cases h;refine bu (l' := [iQ 0]) rfl tV rfl rfl ag rfl hw pK rfl rfl rfl fun w hw => ?_;refine aC ?_;refine nE (rL ?_);refine P7 (bB rfl ?_) (fun _ _ h => h);refine iH o5 (zf hw) fun v w hv => ?_;exact p6 rfl ⟨_, rfl, (ar.bL (v := iQ 0) ag hv pK rfl)⟩ (.inl ⟨hz, (hv.b [ah b4 _ _, ah b5 _ _, ah b2 _ _]).tail.tail.tail⟩)
theorem Ws {e : Int} (hw : an G L w) : Calls prog 300 #[.bool false, iQ e] w (fun en w' => en = .panicked [{ v := .iface 41 (iQ e), recovered := false }] /\ an G L w') := by
 refine wx (args := [_, _]) func300 rfl ntmps300 rfl rfl ?_;refine lh (nE (cZ rfl ?_));refine z1 ?_;refine jG rfl rfl ?_;refine aC ?_;refine SP (p := True) rfl (fun _ => ?_) (fun h => absurd trivial h);refine SO [0, 1] 2 rfl rfl ?_;refine z1 ?_;refine qK rfl eH sM rfl ?_;refine aC ⟨_, _, rfl, C' rfl ⟨rfl, hw⟩⟩
theorem DN {p : Nat} (hw : an G (iS q b 0 :: ah p [pQ q] 338 :: L) w) (hl : b.length <= 1000000000000) :
  Calls prog 299 #[pQ p] w (fun en w' => (oP b /\ en = .returned (iQ 0) /\ an G (iS q [] 0 :: ah p [pQ q] 338 :: L) w') ∨
   (¬ oP b /\ en = .panicked [{ v := .iface 41 (iQ 5), recovered := false }] /\ an G (iS q [] 0 :: ah p [pQ q] 338 :: L) w')) := by
 obtain ⟨v, v0, b0, kv, hp, hw⟩ := lV hw;obtain ⟨a, cap, rfl⟩ := (((kv (ah p [pQ q] 338 :: L)).of sF).at hw).form;refine wx (args := [_]) func299 rfl ntmps299 rfl rfl ?_;refine lh ?_;refine nE (cZ rfl ?_);refine z2 ?_;refine lh ?_;refine lh ?_;refine nE (bd [0, 1, 2, 3, 4, 5, 8, 6, 7] bJ kR ?_);replace hw := hw.drawn (w.drawn + 1);refine lD (v := pQ q) aU hw ?_;refine lD (v := pQ q) aU hw ?_;refine z2 ?_;refine lD (v := .slice a b.length cap) au hw ?_;refine z2 ?_;have hw := lU kv hp (hw.b [ah q _ _, row 5 1 v0 _ _]);refine al rfl fE rfl (fR (n := b.length) hw (g8 _) hl) kR fun w v10 hv => ?_;have hw := hv;rw [LD, sX] at hw;obtain ⟨a7, c7, rfl⟩ := ((dP.row.head _).at (hw.b [row 5 1 v10 _ _])).form;refine z2 ?_;refine La ?_;refine VJ (fun m e w => ∃ k : Nat, k <= b.length /\ m = b.length - k /\ e = [(10, .slice a7 b.length c7), (11, iQ b.length), (12, iQ k)] /\ oP (b.take k) /\ an G (row 5 1 (.slice a7 b.length c7) b.length (cD b) :: iS q [] 0 :: ah p [pQ q] 338 :: L) w)
  (m := b.length) sB
  ⟨0, dy _, rfl, rfl, (fun x hx => by simp at hx), hw.b [row 5 1 _ _ _]⟩ ?_
 rintro m e w ⟨k, hk, rfl, rfl, ZB, hw⟩;refine lh ?_;refine nE (cZ rfl ?_);refine z2 ?_;refine lh ?_;refine SP rfl (fun h1 => ?_) fun h1 => ?_
 ·
  have gK : k < b.length := oM;have iv := (dP.row.head _).at hw;obtain ⟨bb, oo, rfl⟩ := iv.nn oM;obtain ⟨x, hx⟩ : ∃ x, x = b.getD k 0 := ⟨_, rfl⟩;refine nE (dS ?_);refine lh ?_;refine La ?_;refine lh ?_;refine nE (cZ rfl ?_);refine cR rfl aI bh rfl rfl ⟨oM, oM⟩ ?_;refine bt rfl rfl (ar.one (v := bv x) eC (by have h := iv.at (i := (k : Int)) ⟨oM, oM⟩; rw [hx]; exact h)) ?_;refine z2 ?_
  by_cases KY : x = 0
  rotate_left
  ·refine Pc [0, 1] 2 [] rfl rfl rfl ?_;refine z2 ?_;have hxf : decide ((x.toNat : Int) = 0) = false := decide_eq_false fun h => KY (UInt8.toNat_inj.1 (by show x.toNat = 0; omega))
   rw [hxf];have h5 := Ws (e := 5) hw;refine aC ⟨300, #[], #[], [.bool false, iQ 5], _, rfl, nu, rfl, h5, ?_, ?_, ?_⟩
   ·rintro v w ⟨h, -⟩; cases h
   rotate_left
   ·rintro w ⟨h, -⟩; cases h
   rintro ch w ⟨h, hw⟩;cases h;refine C' rfl (.inr ⟨fun hz => KY ?_, rfl, hw.tail⟩);have := hz x (by rw [hx, lP, dm gK]; exact JW _);exact this
  refine nE (cZ rfl ?_);refine z2 ?_;refine al rfl nu rfl (tm (by rw [KY]; rfl) hw) rfl (fun w ED hv => ?_);obtain ⟨rfl, hw⟩ := hv;refine aC ?_;refine nE (cZ rfl ?_);refine z3 ?_;refine ⟨b.length - (k + 1), oM, [(10, _), (11, _), (12, iQ (k + 1 : Nat))], sB, k + 1, oM, rfl, rfl, ?_, hw⟩;rw [eO b k 0 gK, <-hx, KY];intro y hy;rcases gF.1 hy with hy | hy
  ·exact ZB y hy
  simpa using hy
 refine nE (S0 rfl ?_);refine lh ?_;refine nE (cZ rfl ?_);refine z2 ?_;refine nE (rL ?_);refine P7 (R := fun r w' => oP b /\ r = iQ 0 /\ an G (iS q [] 0 :: ah p [pQ q] 338 :: L) w') (aK rfl rfl rfl ⟨by rw [oF oM] at ZB; exact ZB, rfl, hw.tail⟩) ?_;rintro en w ⟨r, rfl, h1, rfl, h2⟩;exact .inl ⟨h1, rfl, h2⟩
theorem vT (hw : an G (iS q b 0 :: L) w) (hl : b.length <= 1000000000000) : Calls prog 234 #[pQ q] w (bU fun r w' => (oP b /\ an G (iS q [] 0 :: L) w') \/ (¬ oP b /\ an G (S3 q 5 :: L) w')) := by
 refine ad (args := [_]) func234 rfl ntmps234 rfl rfl ?_;refine z2 ?_;refine a9 rfl rfl rfl hw rfl fun w b1 hw => ?_;refine z2 ?_;refine lD (v := pQ q) aU hw ?_;refine gP (v1 := #[]) (v2 := #[pQ b1]) rfl (by intro z hz; simp at hz; subst hz; exact ⟨_, rfl⟩) sM (by simp only [jM, cH, gE]; rfl) ?_;have hw := hw.b [iS q b 0, ah b1 _ _];refine al rfl Bb rfl (Cl (b' := []) (caps := [pQ b1]) hw su (fun M w hw => DN hw hl)) rfl fun w v4 hv => ?_;refine aC ?_;exact kC rfl rfl (hv.imp (fun h => ⟨h.1, (h.2.b [ah b1 _ _]).tail⟩) (fun h => ⟨h.1, (h.2.b [ah b1 _ _]).tail⟩))
theorem Kl (hw : an G (iS q [] 0 :: L) w) : Calls prog 235 #[pQ q] w (bU fun r w' => r = iQ 0 /\ an G (iS q [] 0 :: L) w') := by
 obtain ⟨v, v0, b0, kv, hp, hw⟩ := lV hw;obtain ⟨a, cap, rfl⟩ := (((kv L).of sF).at hw).form;refine ad (args := [_]) func235 rfl ntmps235 rfl rfl ?_;refine mN ?_;refine lD (v := iQ 0) aB hw ?_;refine z2 ?_;refine ay (d := 8) rfl (fun h1 => ?_) fun h1 => ?_
 ·
  refine z1 ?_;refine Bx rfl rfl ?_;refine z1 ?_;refine lD (v := .slice a ([] : bW).length cap) au hw ?_;refine z4 ?_;refine aE rfl (fun h2 => ?_) fun h2 => ?_
  ·
   exact absurd h2 sM
  refine z6 ?_;refine lD (v := iQ 0) aB hw ?_;refine z3 ?_;exact aK rfl rfl rfl ⟨rfl, lU kv hp hw⟩
 exact absurd rfl h1
theorem Kk (hw : an G (S3 q er :: L) w) (he : er ≠ 0) : Calls prog 235 #[pQ q] w (bU fun r w' => r = iQ er /\ an G (S3 q er :: L) w') := by
 obtain ⟨v, hw⟩ := hw.fD;obtain ⟨⟨a, m, c, rfl⟩, hw⟩ := hw.eE;refine ad (args := [_]) func235 rfl ntmps235 rfl rfl ?_;refine mN ?_;refine lD (v := iQ er) aB hw ?_;refine z2 ?_;refine ay (d := 8) rfl (fun h1 => ?_) fun h1 => ?_
 ·
  exact absurd h1 he
 refine z8 ?_;refine cg rfl ?_;refine z6 ?_;refine lD (v := iQ er) aB hw ?_;refine z3 ?_;exact aK rfl rfl rfl ⟨rfl, an.gh _ (an.fJ ⟨_, _, _, rfl⟩ hw)⟩
end
def BD : List Value := [u32 0#32, u32 274646895#32, u32 549293790#32, u32 820201905#32, u32 1098587580#32, u32 1361435347#32, u32 1640403810#32, u32 1905808397#32, u32 2197175160#32, u32 2460548119#32, u32 2722870694#32, u32 2987750089#32, u32 3280807620#32, u32 3553878443#32, u32 3811616794#32, u32 4084100981#32]
theorem ID : iR BD := fun u hu => by
 simp only [BD, bQ, dz, or_false] at hu;rcases hu with rfl | rfl | rfl | rfl | rfl | rfl | rfl | rfl | rfl | rfl | rfl | rfl | rfl | rfl | rfl | rfl <;> rfl
theorem Tf (w : qH) : BD[0 + (((w &&& 15#32).toNat : Nat) : Int).toNat * 1]? = some (u32 (Zf (w &&& 15#32).toNat)) := by
 have h := G1 w;rw [ez, EV, pY]
 generalize (w &&& 15#32).toNat = n at h
 match n, h with
 | 0, _ => rfl
 | 1, _ => rfl
 | 2, _ => rfl
 | 3, _ => rfl
 | 4, _ => rfl
 | 5, _ => rfl
 | 6, _ => rfl
 | 7, _ => rfl
 | 8, _ => rfl
 | 9, _ => rfl
 | 10, _ => rfl
 | 11, _ => rfl
 | 12, _ => rfl
 | 13, _ => rfl
 | 14, _ => rfl
 | 15, _ => rfl
 | n + 16, h => omega
section
variable {G : Gh} {L R : List aw} {w : World}
theorem HX (hw : an G L w) : Calls prog 334 #[] w (bU fun r w' => r = gQ BD /\ an G L w') := by
 refine ad (args := []) func334 rfl ntmps334 rfl rfl ?_;refine z2 ?_;refine aF rfl zS hw rfl fun w b0 hw => ?_;refine z3 ?_;refine aO (v := gQ BD) rfl rfl (fun w => kR) ?_;refine aT (cs := BD) (l' := BD) rfl tV rfl rfl oH rfl ID hw pK (by simp [BD]) rfl rfl fun w hw => ?_;refine z2 ?_;exact aK rfl rfl ⟨_, rfl, (ar.cU (l := BD) oH hw pK rfl)⟩ ⟨rfl, hw.tail⟩
theorem Sd {w0 : qH} {v : Value} {l : bW} (hw : an G L w) (kl : aG L (dP v l)) (hl : l.length <= 1000000000000) :
  Calls prog 288 #[u32 w0, v] w (bU fun r w' => r = u32 (Rv w0 l) /\ an G L w') := by
 obtain ⟨a, cap, rfl⟩ := (kl.at hw).form;refine ad (args := [_, _]) func288 rfl ntmps288 rfl rfl ?_;refine z6 ?_;refine al rfl GC rfl (HX hw) rfl fun w v8 hv => ?_;obtain ⟨rfl, hw⟩ := hv;refine aF rfl zS hw rfl fun w b5 hw => ?_;refine aT (cs := BD) (l' := BD) rfl tV rfl rfl oH rfl ID hw pK (by simp [BD]) rfl rfl fun w hw => ?_;refine z9 ?_;refine bF (fun m e w => ∃ (k : Nat) (w1 : qH), k <= l.length /\ m = l.length - k /\ w1 = Rv w0 (l.take k) /\ e = [(0, u32 w1), (5, pQ b5), (9, .slice a l.length cap), (10, iQ l.length), (11, iQ k)] /\ an G (ah b5 BD 430 :: L) w)
  (m := l.length) sB
  ⟨0, w0, dy _, rfl, rfl, rfl, hw⟩ ?_
 rintro m e w ⟨k, w1, hk, rfl, hw1, rfl, hw⟩;refine z5 ?_;refine aE rfl (fun h1 => ?_) fun h1 => ?_
 ·
  have gK : k < l.length := oM;obtain ⟨bb, oo, rfl⟩ := ((kl.of sF).at hw).nn oM;obtain ⟨x, hx⟩ : ∃ x, x = l.getD k 0 := ⟨_, rfl⟩;refine z5 ?_;refine cR rfl aI bh rfl rfl ⟨oM, oM⟩ ?_;refine bt rfl rfl (ar.one (v := bv x) eC (by have h := ((kl.of sF).at hw).at (i := (k : Int)) ⟨oM, oM⟩; rw [hx]; exact h)) ?_;refine z6 ?_;refine By rfl kR iN ou rfl ?_;refine JI (v := ((w1 ^^^ BitVec.ofNat 32 x.toNat).toNat : Int)) rfl rfl rfl (by rw [aao]; exact Pd _ _) ?_;obtain ⟨w2, Vl⟩ : ∃ w2, w2 = w1 ^^^ BitVec.ofNat 32 x.toNat := ⟨_, rfl⟩;rw [<-Vl];refine z5 ?_;refine Ev (v := ((w2 >>> 4).toNat : Int)) rfl rfl rfl dM (Yd _) ?_;refine z1 ?_;refine NH (v := ((w2 &&& 15#32).toNat : Int)) rfl rfl rfl (YQ _) ?_;refine sP rfl Bn IE rfl rfl ⟨oM, by have := G1 w2; omega⟩ ?_;refine bt rfl rfl (ar.bL (v := u32 (Zf (w2 &&& 15#32).toNat)) m0 hw pK (Tf w2)) ?_;refine JI (v := ((zX w2).toNat : Int)) rfl rfl rfl (Pd _ _) ?_;obtain ⟨w3, hw3⟩ : ∃ w3, w3 = zX w2 := ⟨_, rfl⟩;rw [<-hw3];refine z4 ?_;refine Ev (v := ((w3 >>> 4).toNat : Int)) rfl rfl rfl dM (Yd _) ?_;refine z1 ?_;refine NH (v := ((w3 &&& 15#32).toNat : Int)) rfl rfl rfl (YQ _) ?_;refine sP rfl Bn IE rfl rfl ⟨oM, by have := G1 w3; omega⟩ ?_;refine bt rfl rfl (ar.bL (v := u32 (Zf (w3 &&& 15#32).toNat)) m0 hw pK (Tf w3)) ?_;refine JI (v := ((zX w3).toNat : Int)) rfl rfl rfl (Pd _ _) ?_;refine z6 ?_;exact ⟨l.length - (k + 1), oM, [(0, u32 (zX w3)), (5, _), (9, _), (10, _), (11, iQ (k + 1 : Nat))], sB, k + 1, zX w3, oM, rfl, by rw [eO l k 0 gK, yT, <-hw1, hw3, Vl, hx]; rfl, rfl, hw⟩
 refine z7 ?_;exact aK rfl rfl rfl ⟨by rw [hw1, oF oM], hw.tail⟩
theorem Jp {v : Value} {l : bW} (hw : an G L w) (kl : aG L (dP v l)) (hl : l.length <= 1000000000000) :
  Calls prog 229 #[v] w (bU fun r w' => r = u32 (JR l) /\ an G L w') := by
 refine ad (args := [_]) func229 rfl ntmps229 rfl rfl ?_;refine z7 ?_;refine al rfl OY rfl (Sd (w0 := ~~~ 0#32) hw kl hl) rfl fun w v4 hv => ?_;obtain ⟨rfl, hw⟩ := hv;refine Le (v := ((JR l).toNat : Int)) rfl rfl (abG _) ?_;refine z3 ?_;exact aK rfl rfl rfl ⟨rfl, hw⟩
end
theorem Ak {b : bW} {j k : Nat} (h : j + k <= 508) : (((b.take 508).drop j).take k) = (b.drop j).take k := by
 rw [List.drop_take, List.take_take, EW oM]
theorem Wy {b : bW} (h : 0 < b.length) : nm (b.take 1) = (b.getD 0 0).toNat := by
 cases b with
 | nil => simp at h
 | cons x l => simp [nm]
section
variable {G : Gh} {L R : List aw} {w : World}
theorem MP {gen pages : Int} (hw : an G L w) : Calls prog 225 #[iQ gen, iQ pages] w (bU fun r w' => r = .bool (decide ((0 <= gen /\ gen <= 1099511627776) /\ 0 <= pages /\ pages <= 65536)) /\ an G L w') := by
 refine ad (args := [_, _]) func225 rfl ntmps225 rfl rfl ?_;refine z9 ?_;refine ay (d := 7) rfl (fun h1 => ?_) fun h1 => ?_
 ·
  refine z4 ?_;refine ay (d := 11) rfl (fun h2 => ?_) fun h2 => ?_
  ·
   refine z4 ?_;refine ay (d := 15) rfl (fun h3 => ?_) fun h3 => ?_
   ·
    refine z6 ?_;exact aK rfl rfl rfl ⟨by first | rw [decide_eq_false (show ¬ ((0 <= gen /\ gen <= 1099511627776) /\ 0 <= pages /\ pages <= 65536) by omega)] | (congr 1; simp only [cd]; omega), hw⟩
   refine z6 ?_;exact aK rfl rfl rfl ⟨by first | rw [decide_eq_false (show ¬ ((0 <= gen /\ gen <= 1099511627776) /\ 0 <= pages /\ pages <= 65536) by omega)] | (congr 1; simp only [cd]; omega), hw⟩
  refine mN ?_;exact aK rfl rfl rfl ⟨by first | rw [decide_eq_false (show ¬ ((0 <= gen /\ gen <= 1099511627776) /\ 0 <= pages /\ pages <= 65536) by omega)] | (congr 1; simp only [cd]; omega), hw⟩
 refine SM ?_;exact aK rfl rfl rfl ⟨by first | rw [decide_eq_false (show ¬ ((0 <= gen /\ gen <= 1099511627776) /\ 0 <= pages /\ pages <= 65536) by omega)] | (congr 1; simp only [cd]; omega), hw⟩
theorem Gn {pn : Nat} (hw : an G L w) (hp : pn <= 65536) : Calls prog 226 #[iQ pn] w (bU fun r w' => r = iQ (uQ pn : Nat) /\ an G L w') := by
 refine ad (args := [_]) func226 rfl ntmps226 rfl rfl ?_;refine mN ?_;refine aE rfl (fun h1 => ?_) fun h1 => ?_
 ·
  refine z5 ?_;exact aK rfl rfl rfl ⟨by rw [show uQ pn = 0 by unfold uQ; omega]; rfl, hw⟩
 refine z5 ?_;refine re rfl rfl rfl oM oM ?_;refine z4 ?_;exact aK rfl rfl rfl ⟨by rw [show ((pn : Int) - 1) / 240 + 1 = ((uQ pn : Nat) : Int) by unfold uQ; omega], hw⟩
theorem OU {pages i : Int} (hw : an G L w) (hp : 0 <= pages /\ pages <= 65536) (hi : 0 <= i /\ i <= 65536) : Calls prog 232 #[iQ pages, iQ i] w (bU fun r w' => r = iQ (Vg pages i) /\ an G L w') := by
 refine ad (args := [_, _]) func232 rfl ntmps232 rfl rfl ?_;refine z8 ?_;refine jH rfl rfl rfl oM ?_;refine z1 ?_;refine uZ rfl rfl rfl ?_;refine z3 ?_;exact aK rfl rfl rfl ⟨rfl, hw⟩
theorem H8 {g pn j : Nat} {v : Value} {bb : bW} (hw : an G L w) (kb : aG L (dP v bb)) (hl : bb.length = 512) (hg : g <= 1099511627776) (hp : pn <= 65536) (hi : j < uQ pn) :
  Calls prog 135 #[iQ g, iQ pn, iQ j, v] w (bU fun r w' => (∃ l v', q5 g pn j bb = some l /\ r = .tuple #[v', iQ 0] /\ an G (row 3 1 v' l.length (bg l) :: L) w') ∨
   (∃ er, q5 g pn j bb = none /\ r = .tuple #[nQ, iQ er] /\ er ≠ 0 /\ er ≠ 17 /\ an G L w')) := by
 obtain ⟨a, cap, rfl⟩ := (kb.at hw).form;have OH := (kb.at hw).inv.2.1;have hj : j <= 65536 := by unfold uQ at hi; omega
 have mF : (bb.take 508).length = 508 := by rw [fB]; omega
 refine ad (args := [_, _, _, _]) func135 rfl ntmps135 rfl rfl ?_;refine mN ?_;refine al rfl KH rfl (MP hw) rfl fun w v20 hv => ?_;obtain ⟨rfl, hw⟩ := hv;refine fo rfl rfl ?_;refine z1 ?_;refine ay (d := 22) rfl (fun h1 => ?_) fun h1 => ?_
 ·
  refine mN ?_;refine bY rfl ?_;refine z6 ?_;exact absurd oM h1
 refine z4 ?_;refine ay (d := 26) rfl (fun h2 => ?_) fun h2 => ?_
 ·
  refine z6 ?_;refine bY rfl ?_;refine z6 ?_;exact absurd h2 oM
 refine z2 ?_;refine al rfl D3 rfl (Gn hw hp) rfl fun w VX hv => ?_;obtain ⟨rfl, hw⟩ := hv;refine z3 ?_;refine aE rfl (fun h3 => ?_) fun h3 => ?_
 ·
  refine z6 ?_;exact absurd h3 oM
 refine z8 ?_;refine aE rfl (fun h4 => ?_) fun h4 => ?_
 ·
  refine z6 ?_;exact absurd oM h4
 refine z2 ?_;refine bd [0, 1, 2, 3, 4, 5] bJ kR ?_;replace hw := hw.drawn (w.drawn + 1);refine z1 ?_;refine D' (b := bb) rfl aI bh rfl rfl ((kb.of sF).at hw) ⟨oM, oM⟩ (((kb.of sF).at hw).spot oM) fun St _ h36 => ?_;refine z1 ?_;refine JL (b := bb) rfl aI bh rfl rfl ((kb.of sF).at hw) ⟨oM, oM⟩ fun v38 h38 _ => ?_;have k36 : aG L (dP St (bb.take 508)) := kb.mono h36;have k38 : aG L (dP v38 (bb.drop 508)) := kb.mono h38;refine z7 ?_;refine al rfl qi rfl (qV (b := bb.drop 508) hw (k38.of sF) (by rw [gT]; omega)) rfl (fun w v40 hv => ?_);obtain ⟨q1, rfl, hw⟩ := hv;refine al rfl kS rfl (ly hw (by rw [gT]; omega) (by rw [gT]; omega)) rfl (fun w v41 hv => ?_);obtain ⟨rfl, hw⟩ := hv;rw [oF (l := bb.drop 508) (by rw [gT]; omega)];refine z6 ?_;refine al rfl GD rfl (Jp (l := bb.take 508) hw (k36.of sF) oM) rfl fun w v44 hv => ?_;obtain ⟨rfl, hw⟩ := hv;refine z2 ?_;refine aE rfl (fun h5 => ?_) fun h5 => ?_
 ·
  refine z6 ?_;exact cz rfl rfl rfl rfl (.inr ⟨6, JA (fun hs => h5 (by unfold kG at hs; omega)), rfl, by decide, by decide, hw.tail⟩)
 have hs : kG bb := by unfold kG; omega
 refine z4 ?_;refine al rfl qi rfl (qV (b := bb.take 508) hw (k36.of sF) oM) rfl fun w v47 hv => ?_;obtain ⟨q2, rfl, hw⟩ := hv;refine z6 ?_;refine al rfl zx rfl (AO hw oM oM) rfl fun w X8 hv => ?_;obtain ⟨rfl, hw⟩ := hv;rw [Wy (by omega : 0 < (bb.take 508).length), show (bb.take 508).getD 0 0 = bb.getD 0 0 by rw [lP, Tt, ao oM, <-lP]];refine z2 ?_;refine aE rfl (fun h6 => ?_) fun h6 => ?_
 ·
  refine z6 ?_;exact cz rfl rfl rfl rfl (.inr ⟨5, by unfold q5; rw [aj]; rintro ⟨-, hH, -⟩; unfold Dg at hH; exact h6 (by rw [hH.1]; rfl), rfl, by decide, by decide, hw.tail.tail⟩)
 have h66 : bb.getD 0 0 = 66 := UInt8.toNat_inj.1 (by show (bb.getD 0 0).toNat = 66; omega);refine z4 ?_;refine al rfl xS rfl (zi hw (by rw [gT]; omega) (by rw [gT]; omega)) rfl (fun w v52 hv => ?_);obtain ⟨rfl, hw⟩ := hv;rw [Ak oM];rw [Rb] at hw;refine z1 ?_;refine al rfl kS rfl (ly hw (by rw [gT]; omega) (by rw [gT]; omega)) rfl (fun w v54 hv => ?_);obtain ⟨rfl, hw⟩ := hv;rw [Ak oM];rw [Rb] at hw
 refine z1 ?_;refine al rfl kS rfl (ly hw (by rw [gT]; omega) (by rw [gT]; omega)) rfl (fun w v56 hv => ?_);obtain ⟨rfl, hw⟩ := hv;rw [Ak oM];rw [Rb] at hw;refine z9 ?_;refine dd (v := (g : Int)) rfl kR cP du rfl (Vf oM) ?_;refine z2 ?_;refine ay (d := 61) rfl (fun h7 => ?_) fun h7 => ?_
 ·
  refine yb ?_;refine bY rfl ?_;refine z6 ?_;exact cz rfl rfl rfl rfl (.inr ⟨25, by unfold q5; rw [aj]; rintro ⟨-, hH, -⟩; unfold Dg at hH; exact h7 hH.2.1, rfl, by decide, by decide, hw.tail.tail⟩)
 refine z2 ?_;refine dd (v := (j : Int)) rfl kR cP ou rfl (w32 oM) ?_;refine z3 ?_;refine ay (d := 67) rfl (fun h8 => ?_) fun h8 => ?_
 ·
  refine z6 ?_;refine bY rfl ?_;refine z6 ?_;exact cz rfl rfl rfl rfl (.inr ⟨25, by unfold q5; rw [aj]; rintro ⟨-, hH, -⟩; unfold Dg at hH; exact h8 hH.2.2.1, rfl, by decide, by decide, hw.tail.tail⟩)
 refine z2 ?_;refine dd (v := (pn : Int)) rfl kR cP ou rfl (w32 oM) ?_;refine z3 ?_;refine aE rfl (fun h9 => ?_) fun h9 => ?_
 ·
  refine z6 ?_;exact cz rfl rfl rfl rfl (.inr ⟨25, by unfold q5; rw [aj]; rintro ⟨-, hH, -⟩; unfold Dg at hH; exact h9 hH.2.2.2, rfl, by decide, by decide, hw.tail.tail⟩)
 have hH : Dg g pn j bb := ⟨h66, c6.1 h7, c6.1 h8, c6.1 h9⟩;refine mN ?_;refine al rfl MZ rfl (OU (pages := pn) (i := j) hw oM oM) rfl fun w v75 hv => ?_;obtain ⟨rfl, hw⟩ := hv;obtain ⟨n, hn⟩ : ∃ n : Nat, Vg pn j = n := ⟨(Vg pn j).toNat, by unfold Vg; unfold uQ at hi; omega⟩;have ado : n <= 240 := by unfold Vg at hn; omega
 rw [hn];refine z3 ?_;have hw := bI hw 3 1;refine bF (fun m e w => ∃ (k : Nat) (u : Value), k <= n /\ m = n - k /\ e = [(13, pQ q2), (17, u), (75, iQ n), (76, iQ k)] /\ an G (row 3 1 u k (bg ((List.range k).map (ue bb))) :: iS q2 ((bb.take 508).drop (17 + 2 * k)) 0 :: iS q1 ((bb.drop 508).drop 4) 0 :: L) w)
  (m := n) sB
  ⟨0, _, dy _, rfl, rfl, hw⟩ ?_
 rintro m e w ⟨k, u, hk, rfl, rfl, hw⟩;refine z5 ?_;refine aE rfl (fun uV => ?_) fun uV => ?_
 ·
  refine z6 ?_;refine al rfl xT rfl (zj (hw.b [iS q2 _ 0]) (by rw [gT]; omega) (by rw [gT]; omega)) rfl (fun w v80 hv => ?_);obtain ⟨rfl, hw⟩ := hv;rw [Ak oM];rw [Rb] at hw;refine dd (v := ue bb k) rfl kR Bm cP rfl (jI (by have := oI ((bb.drop (17 + 2 * k)).take 2); rw [fB, gT, EW oM] at this; omega)) ?_;refine fG (cs := [iQ (ue bb k)]) rfl bp cm gZ dM rfl rfl rfl hw kR fun w b82 hw => ?_;refine fH (m := k) (k := 1) (news := [iQ (ue bb k)]) rfl bp cm ni gZ rfl rfl hw pK (Rd.jE hw pK) rfl (by intro u hu; simp at hu; subst hu; rfl) mL oM kR (fun w VW hw => ?_);refine z6 ?_;have he : bg ((List.range k).map (ue bb)) ++ [iQ (ue bb k)] = bg ((List.range (k + 1)).map (ue bb)) := by rw [Tn, kz]; exact (rX _ _).symm
  rw [he, show 17 + 2 * k + 2 = 17 + 2 * (k + 1) by omega] at hw;exact ⟨n - (k + 1), oM, [(13, _), (17, VW), (75, _), (76, iQ (k + 1 : Nat))], sB, k + 1, VW, oM, rfl, rfl, (hw.b [ah b82 _ _, row 3 1 VW _ _, iS q2 _ 0]).tail⟩
 have pA : k = n := oM;subst pA;refine z4 ?_;refine al rfl uH rfl (vT (hw.b [iS q2 _ 0]) (by rw [gT]; omega)) rfl (fun w v86 hv => ?_);have ZC : ∃ (er : Int) (A : aw), ((er = 0 /\ oP ((bb.take 508).drop (17 + 2 * k)) /\ A = iS q2 [] 0) \/ (er = 5 /\ ¬ oP ((bb.take 508).drop (17 + 2 * k)) /\ A = S3 q2 5)) /\ an G (A :: row 3 1 u k (bg ((List.range k).map (ue bb))) :: iS q1 ((bb.drop 508).drop 4) 0 :: L) w := by
  rcases hv with ⟨h1, h2⟩ | ⟨h1, h2⟩
  ·exact ⟨0, _, .inl ⟨rfl, h1, rfl⟩, h2⟩
  exact ⟨5, _, .inr ⟨rfl, h1, rfl⟩, h2⟩
 obtain ⟨er, A, hA, hw⟩ := ZC;refine z5 ?_;refine al rfl xR rfl (show Calls prog 235 #[pQ q2] w (bU fun r w' => r = iQ er /\ an G (A :: row 3 1 u k (bg ((List.range k).map (ue bb))) :: iS q1 ((bb.drop 508).drop 4) 0 :: L) w') from by
 rcases hA with ⟨rfl, -, rfl⟩ | ⟨rfl, -, rfl⟩
 ·exact Kl hw
 ·exact Kk hw dM) rfl (fun w v88 hv => ?_)
 obtain ⟨rfl, hw⟩ := hv;refine z2 ?_;refine aE rfl (fun Hp => ?_) fun Hp => ?_
 ·
  refine z6 ?_;exact cz rfl rfl rfl rfl (.inr ⟨5, by
 have hz := (hA.resolve_left (fun h => Hp h.1)).2.1;unfold q5; rw [aj]; rintro ⟨-, -, h⟩; rw [hn] at h; exact hz h, rfl, by decide, by decide, hw.tail.tail.tail⟩)
 refine z8 ?_;exact cz rfl rfl rfl rfl (by
 have Hp := c6.1 Hp;have hz := (hA.resolve_right (fun h => by have := h.1; omega)).2.1;refine .inl ⟨(List.range k).map (ue bb), u, by unfold q5; rw [hn, ao ⟨hs, hH, hz⟩]; rfl, rfl, ?_⟩;have hz3 := hw.tail;rw [show ((List.range k).map (ue bb)).length = k by simp];exact (hz3.b [iS q1 _ 0]).tail)
end
def qv (q : Nat) (sv : Value) (o : bW) (r : Rk) : aw := ex fun at_ : Nat => lZ (at_ <= o.length /\ r.b = o.drop at_) (ah q [sv, iQ at_, .bool r.ok] 392)
theorem pG (n : Nat) (r : Rk) : (fQ n r).1.length <= n /\ (fQ n r).1.length <= r.b.length := by
 unfold fQ;split
 ·simp only [fB]; omega
 simp
theorem J3 {n : Nat} (hn : n <= 8) (r : Rk) : (cr n r).1 < 2 ^ (8 * n) := by
 unfold cr;exact Rh (oI _) (N4 dM (by have := (pG n r).1; omega))
section
variable {G : Gh} {L R : List aw} {w : World} {q bb oo cap : Nat} {o : bW} {r : Rk}
theorem Nk {sv : Value} (hw : an G (qv q sv o r :: R) w) : ∃ at_ : Nat, at_ <= o.length /\ r.b = o.drop at_ /\ an G (ah q [sv, iQ at_, .bool r.ok] 392 :: R) w := by
 obtain ⟨x, h⟩ := hw.fD;obtain ⟨⟨h1, h2⟩, h⟩ := h.eE;exact ⟨x, h1, h2, h⟩
theorem wR {sv : Value} {at_ : Nat} (h1 : at_ <= o.length) (h2 : r.b = o.drop at_) (hw : an G (ah q [sv, iQ at_, .bool r.ok] 392 :: R) w) : an G (qv q sv o r :: R) w := an.gh at_ (an.fJ ⟨h1, h2⟩ hw)
theorem o3 {n : Nat} (hw : an G (qv q (.slice (some ⟨bb, oo, none⟩) o.length cap) o r :: L) w) (kb : aG L (dP (.slice (some ⟨bb, oo, none⟩) o.length cap) o)) (mF : o.length <= 1000) (hn : n <= 1000000) :
  Calls prog 332 #[pQ q, iQ n] w (bU fun v w' => aG L (dP v (fQ n r).1) /\ an G (qv q (.slice (some ⟨bb, oo, none⟩) o.length cap) o (fQ n r).2 :: L) w') := by
 obtain ⟨at_, Ay, hrb, hw⟩ := Nk hw;have OH := (kb.at hw.tail).inv.2.1;obtain ⟨b, ok⟩ := r;have hrb : b = o.drop at_ := hrb;subst hrb;refine ad (args := [_, _]) func332 rfl ntmps332 rfl rfl ?_;refine z6 ?_;refine bd [0, 1, 2, 3, 4, 5, 6, 7, 8, 9, 10, 11, 12, 13, 14, 15, 16, 17, 18] bJ kR ?_;replace hw := hw.drawn (w.drawn + 1);refine z3 ?_;refine lD (v := .bool ok) bM hw ?_;refine jG rfl rfl ?_;refine z1 ?_;refine QJ (d := 10) rfl (fun h1 => ?_) fun h1 => ?_
 ·
  have aW : ok = false := by simpa using h1
  have ht : fQ n ⟨o.drop at_, ok⟩ = ([], ⟨o.drop at_, false⟩) := by unfold fQ; rw [aj (fun h => by rw [aW] at h; cases h.1)]
  refine SM ?_;refine bY rfl ?_;refine z5 ?_;refine bu (l' := [.slice (some ⟨bb, oo, none⟩) o.length cap, iQ at_, .bool false]) rfl tV rfl rfl bM rfl hw pK rfl rfl rfl fun w hw => ?_;refine z6 ?_;exact aK rfl rfl rfl ⟨by rw [ht]; exact fun g w _ => .inl ⟨⟨_, rfl⟩, rfl⟩, by rw [ht]; exact wR Ay rfl hw⟩
 have aW : ok = true := by simpa using h1
 subst aW;refine z2 ?_;refine Bx rfl rfl ?_;refine z1 ?_;refine lD (v := .slice (some ⟨bb, oo, none⟩) o.length cap) au hw ?_;refine z2 ?_;refine Bx rfl rfl ?_;refine z1 ?_;refine lD (v := iQ at_) ag hw ?_;refine Bv rfl rfl rfl oM ?_;refine z3 ?_;refine aE rfl (fun h2 => ?_) fun h2 => ?_
 ·
  have ht : fQ n ⟨o.drop at_, true⟩ = ([], ⟨o.drop at_, false⟩) := by unfold fQ; rw [aj (fun h => by have := h.2; simp only [gT] at this; omega)]
  refine z5 ?_;refine bu (l' := [.slice (some ⟨bb, oo, none⟩) o.length cap, iQ at_, .bool false]) rfl tV rfl rfl bM rfl hw pK rfl rfl rfl fun w hw => ?_;refine z6 ?_;exact aK rfl rfl rfl ⟨by rw [ht]; exact fun g w _ => .inl ⟨⟨_, rfl⟩, rfl⟩, by rw [ht]; exact wR Ay rfl hw⟩
 have ht : fQ n ⟨o.drop at_, true⟩ = ((o.drop at_).take n, ⟨o.drop (at_ + n), true⟩) := by unfold fQ; rw [ao ⟨rfl, by simp only [gT]; omega⟩, Rb]
 refine z6 ?_;refine lD (v := iQ at_) ag hw ?_;refine z4 ?_;refine bu (l' := [.slice (some ⟨bb, oo, none⟩) o.length cap, iQ ((at_ : Int) + n), .bool true]) rfl tV rfl rfl ag rfl hw pK rfl rfl rfl fun w hw => ?_;refine z2 ?_;refine bd [0, 1, 2, 3, 4, 5, 6, 7, 8, 9, 10, 11, 12, 13, 14, 15, 16, 17, 18, 19] bJ kR ?_;replace hw := hw.drawn (w.drawn + 1);refine z3 ?_;refine lD (v := .slice (some ⟨bb, oo, none⟩) o.length cap) au hw ?_;refine z3 ?_;refine lD (v := iQ ((at_ : Int) + n)) ag hw ?_;refine z5 ?_;refine lD (v := iQ ((at_ : Int) + n)) ag hw ?_;refine z3 ?_;refine lD (v := iQ ((at_ : Int) + n)) ag hw ?_;refine Y2 rfl aI bh rfl rfl rfl rfl ⟨oM, oM, oM, oM⟩ ?_;refine z3 ?_;exact aK rfl rfl rfl ⟨by
 rw [ht];refine kb.mono fun w hs => ?_
 have h := hs.Hz (lo := (at_ : Int) + n - n) (hi := (at_ : Int) + n) ⟨oM, oM, oM⟩;have e1 : (o.drop ((at_ : Int) + n - n).toNat).take ((at_ : Int) + n - ((at_ : Int) + n - n)).toNat = (o.drop at_).take n := by rw [show ((at_ : Int) + n - n).toNat = at_ by omega, show ((at_ : Int) + n - ((at_ : Int) + n - n)).toNat = n by omega]
 rw [e1] at h;exact h, by
 rw [ht];have hz : an G (ah q [.slice (some ⟨bb, oo, none⟩) o.length cap, iQ ((at_ + n : Nat) : Int), .bool true] 392 :: L) w := by rw [Int.natCast_add]; exact hw
 exact wR (r := ⟨o.drop (at_ + n), true⟩) oM rfl hz⟩
theorem bS {n : Nat} (hw : an G (qv q (.slice (some ⟨bb, oo, none⟩) o.length cap) o r :: L) w) (kb : aG L (dP (.slice (some ⟨bb, oo, none⟩) o.length cap) o)) (mF : o.length <= 1000) (hn : n <= 8) :
  Calls prog 279 #[pQ q, iQ n] w (bU fun v w' => v = .int .u64 ((cr n r).1 : Nat) /\ an G (qv q (.slice (some ⟨bb, oo, none⟩) o.length cap) o (cr n r).2 :: L) w') := by
 refine ad (args := [_, _]) func279 rfl ntmps279 rfl rfl ?_;refine VI ?_;refine al rfl og rfl (o3 (n := n) hw kb mF oM) rfl fun w v10 hv => ?_;obtain ⟨kx, hw⟩ := hv;have xx := (pG n r).1;obtain ⟨x, hx⟩ : ∃ x, x = (fQ n r).1 := ⟨_, rfl⟩;rw [<-hx] at kx xx;obtain ⟨a7, c7, rfl⟩ := (kx.at hw.tail).form;refine z4 ?_;refine bF (fun m e w => ∃ k : Nat, k <= x.length /\ m = x.length - k /\ e = [(5, .int .u64 ((nm (x.take k) : Nat) : Int)), (10, .slice a7 x.length c7), (11, iQ x.length), (12, iQ k)] /\ an G (qv q (.slice (some ⟨bb, oo, none⟩) o.length cap) o (fQ n r).2 :: L) w)
  (m := x.length) sB
  ⟨0, dy _, rfl, rfl, hw⟩ ?_
 rintro m e w ⟨k, hk, rfl, rfl, hw⟩;refine z5 ?_;refine aE rfl (fun h1 => ?_) fun h1 => ?_
 ·
  have gK : k < x.length := oM;have RU : k < 8 := oM;have iv := kx.at hw.tail;obtain ⟨b1, o1, rfl⟩ := iv.nn oM;obtain ⟨y, hy⟩ : ∃ y, y = x.getD k 0 := ⟨_, rfl⟩;refine z6 ?_;refine cR rfl aI bh rfl rfl ⟨oM, oM⟩ ?_;refine bt rfl rfl (ar.one (v := bv y) eC (by have h := iv.at (i := (k : Int)) ⟨oM, oM⟩; rw [hy]; exact h)) ?_;refine z6 ?_;refine dd (v := (y.toNat : Int)) rfl kR iN du rfl (GP y) ?_;refine z1 ?_;refine jH rfl rfl rfl oM ?_;refine Ir (v := IntKind.u64.wrap ((y.toNat : Int) * 2 ^ min (8 * (k : Int)).toNat IntKind.u64.bits)) rfl rfl rfl oM rfl ?_;refine Lc (v := ((nm (x.take (k + 1)) : Nat) : Int)) rfl rfl rfl (by
   have iy := oI (x.take k);have K1 : (x.take k).length = k := by rw [fB]; omega
   rw [K1] at iy;rw [TQ RU iy y.toNat_lt, eO x k 0 oM, rW, K1, hy]) ?_
  refine z6 ?_;exact ⟨x.length - (k + 1), oM, [(5, _), (10, _), (11, _), (12, iQ (k + 1 : Nat))], sB, k + 1, oM, rfl, rfl, hw⟩
 refine z7 ?_;exact aK rfl rfl rfl ⟨by rw [oF oM, hx]; rfl, hw⟩
theorem jX {n : Nat} (hw : an G (qv q (.slice (some ⟨bb, oo, none⟩) o.length cap) o r :: L) w) (kb : aG L (dP (.slice (some ⟨bb, oo, none⟩) o.length cap) o)) (mF : o.length <= 1000) (hn : n <= 1000000) :
  Calls prog 280 #[pQ q, iQ n] w (bU fun v w' => an G (row 5 1 v (fQ n r).1.length (cD (fQ n r).1) :: qv q (.slice (some ⟨bb, oo, none⟩) o.length cap) o (fQ n r).2 :: L) w') := by
 refine ad (args := [_, _]) func280 rfl ntmps280 rfl rfl ?_;refine z8 ?_;refine al rfl og rfl (o3 (n := n) hw kb mF hn) rfl fun w v7 hv => ?_;obtain ⟨kx, hw⟩ := hv;have xx := (pG n r).1;have Vs := kx.at hw.tail;have hw := bI hw 5 1;refine NG (m := 0) (xs := []) (b := (fQ n r).1) rfl aI bh gB fP rfl rfl hw pK Vs oM rfl fun w v8 hw => ?_;refine z3 ?_;exact aK rfl rfl rfl (by rw [pY, ie] at hw; exact hw)
theorem nT (hw : an G (qv q (.slice (some ⟨bb, oo, none⟩) o.length cap) o r :: L) w) (kb : aG L (dP (.slice (some ⟨bb, oo, none⟩) o.length cap) o)) (mF : o.length <= 1000) :
  Calls prog 282 #[pQ q] w (bU fun v w' => v = .bool (decide (oP r.b /\ r.ok = true)) /\ an G L w') := by
 obtain ⟨at_, Ay, hrb, hw⟩ := Nk hw;have OH := (kb.at hw.tail).inv.2.1;refine ad (args := [_]) func282 rfl ntmps282 rfl rfl ?_;refine z6 ?_;refine bd [0, 1, 2, 3, 4, 5, 6, 7, 8, 9, 10] bJ kR ?_;replace hw := hw.drawn (w.drawn + 1);refine z3 ?_;refine lD (v := .slice (some ⟨bb, oo, none⟩) o.length cap) au hw ?_;refine z3 ?_;refine lD (v := iQ at_) ag hw ?_;refine JL (b := o) rfl aI bh rfl rfl (kb.at hw.tail) ⟨oM, oM⟩ fun NL h13 _ => ?_;have k13 : aG L (dP NL r.b) := by rw [hrb]; exact kb.mono h13
 obtain ⟨x, hx⟩ : ∃ x, x = r.b := ⟨_, rfl⟩;have xx : x.length <= 1000 := by rw [hx, hrb, gT]; omega
 rw [<-hx] at k13;obtain ⟨a7, c7, rfl⟩ := (k13.at hw.tail).form;refine z4 ?_;refine bF (fun m e w => ∃ k : Nat, k <= x.length /\ m = x.length - k /\ e = [(0, pQ q), (13, .slice a7 x.length c7), (14, iQ x.length), (15, iQ k)] /\ oP (x.take k) /\ an G (ah q [.slice (some ⟨bb, oo, none⟩) o.length cap, iQ at_, .bool r.ok] 392 :: L) w)
  (m := x.length) sB
  ⟨0, dy _, rfl, rfl, (fun x hx => by simp at hx), hw⟩ ?_
 rintro m e w ⟨k, hk, rfl, rfl, ZB, hw⟩;refine z5 ?_;refine aE rfl (fun h1 => ?_) fun h1 => ?_
 ·
  have gK : k < x.length := oM;have iv := k13.at hw.tail;obtain ⟨b1, o1, rfl⟩ := iv.nn oM;obtain ⟨y, hy⟩ : ∃ y, y = x.getD k 0 := ⟨_, rfl⟩;refine z5 ?_;refine cR rfl aI bh rfl rfl ⟨oM, oM⟩ ?_;refine bt rfl rfl (ar.one (v := bv y) eC (by have h := iv.at (i := (k : Int)) ⟨oM, oM⟩; rw [hy]; exact h)) ?_;refine z7 ?_;refine aE rfl (fun h2 => ?_) fun h2 => ?_
  ·
   refine z5 ?_;exact aK rfl rfl rfl ⟨by rw [decide_eq_false]; rintro ⟨hz, -⟩; exact h2 (by
 have := hz y (by rw [<-hx, hy, lP, dm gK]; exact JW _);rw [this]; rfl), hw.tail⟩
  refine z5 ?_;refine ⟨x.length - (k + 1), oM, [(0, _), (13, _), (14, _), (15, iQ (k + 1 : Nat))], sB, k + 1, oM, rfl, rfl, ?_, hw⟩;have hy0 : y = 0 := UInt8.toNat_inj.1 (by show y.toNat = 0; omega);rw [eO x k 0 gK, <-hy, hy0];intro z hz;rcases gF.1 hz with hz | hz
  ·exact ZB z hz
  simpa using hz
 have hzx : oP x := by rw [oF oM] at ZB; exact ZB
 refine z6 ?_;refine lD (v := .bool r.ok) bM hw ?_;refine z3 ?_;exact aK rfl rfl rfl ⟨by rw [<-hx]; congr 1; cases r.ok <;> simp [hzx], hw.tail⟩
end
section
variable {P : Program} {n : Nat} {ops : Array Oper} {dr : Bool} {done r : List Nat} {K : fm -> World -> Prop} {e : fm} {w : World} {i d : Nat} {t : TypeId} {p : String} {af : Array Edge} {g : Option (Nat × Bool)}
variable {s u : TypeId} {x y : Operand} {k k' : IntKind} {a b v : Int}
theorem NI (ho : ops[i]? = some ⟨some d, .binOp .add s x y u, t, p, af, g⟩) (hx : ev e x = some (.int k a)) (hy : ev e y = some (.int k b)) (hv : k.wrap (a + b) = v)
  (h : XL P n ops dr (i :: done) r K ((d, .int k v) :: e) w) (hd : Nat.blt d n = true := by exact rfl) (hg : Gd ops e g := by first | trivial | exact ⟨_, rfl, rfl⟩) : XL P n ops dr done (i :: r) K e w := Iu (hd := hd) (hg := hg) ho hx hy (by rw [hv]; exact h)
end
theorem TW (r : Rk) : (cr 1 r).1 < 256 := J3 (n := 1) dM r
theorem aa2 (r : Rk) : (cr 2 r).1 < 65536 := J3 (n := 2) dM r
theorem Zv (r : Rk) : (cr 4 r).1 < 4294967296 := J3 (n := 4) dM r
section
variable {G : Gh} {L R : List aw} {w : World} {q bb oo cap : Nat} {o : bW} {r : Rk}
def So (x : bO) : Prop := x.it.key.length <= 65536 /\ x.it.value.length <= 65536
theorem Ft {kind : Int} {k : Nat} {r1 rd : Rk} {l : List bO} {x : bO} (h1 : l.length = k /\ l.map bO.it = (jV kind k r1).1 /\ ∀ y ∈ l, So y) (hx : Aq kind (jV kind k r1).2 = (x.it, rd)) (hs : So x) :
  ((l ++ [x]).length = k + 1 /\ (l ++ [x]).map bO.it = (jV kind (k + 1) r1).1 /\ ∀ y ∈ l ++ [x], So y) /\ (jV kind (k + 1) r1).2 = rd := by
 refine ⟨⟨by simp [h1.1], ?_, fun y hy => ?_⟩, ?_⟩
 ·rw [jV]; simp only [hx, kz, h1.2.1]; rfl
 ·rcases gF.1 hy with hy | hy
  ·exact h1.2.2 y hy
  simp at hy; subst hy; exact hs
 rw [jV]; simp only [hx]
theorem J8 {sv u : Value} {k : Nat} {rd : Rk} {l : List bO} {x : bO} (hw : an G (qv q sv o rd :: row 198 4 u (k + 1) ((l.map bO.cells).flatten ++ x.cells) :: aV (l.flatMap bw) :: row 5 1 x.kv x.it.key.length (cD x.it.key) :: row 5 1 x.vv x.it.value.length (cD x.it.value) :: L) w) :
  an G (qv q sv o rd :: row 198 4 u (k + 1) ((l ++ [x]).map bO.cells).flatten :: aV ((l ++ [x]).flatMap bw) :: L) w := by
 have h := hw.b [aV _, row 5 1 x.kv _ _, row 5 1 x.vv _ _];have h := (h.gp).gp;have e1 : l.flatMap bw ++ [row 5 1 x.kv x.it.key.length (cD x.it.key)] ++ [row 5 1 x.vv x.it.value.length (cD x.it.value)] = (l ++ [x]).flatMap bw := by simp [bw]
 have e2 : (l.map bO.cells).flatten ++ x.cells = ((l ++ [x]).map bO.cells).flatten := by simp
 rw [e1] at h;rw [e2] at h
 exact h.b [qv q _ _ _, row 198 4 u _ _]
theorem wm {kind : Int} (hw : an G (qv q (.slice (some ⟨bb, oo, none⟩) o.length cap) o r :: L) w) (kb : aG L (dP (.slice (some ⟨bb, oo, none⟩) o.length cap) o)) (mF : o.length <= 1000) :
  Calls prog 281 #[pQ q, iQ kind] w (bU fun v w' => ∃ l : List bO, (l.length = (cr 1 r).1 /\ l.map bO.it = (jV kind (cr 1 r).1 (cr 1 r).2).1 /\ ∀ y ∈ l, So y) ∧
   an G (qv q (.slice (some ⟨bb, oo, none⟩) o.length cap) o (jV kind (cr 1 r).1 (cr 1 r).2).2 :: row 198 4 v l.length (l.map bO.cells).flatten :: aV (l.flatMap bw) :: L) w') := by
 refine ad (args := [_, _]) func281 rfl ntmps281 rfl rfl ?_;refine yb ?_;refine al rfl bN rfl (bS (n := 1) hw kb mF dM) rfl fun w v8 hv => ?_;obtain ⟨rfl, hw⟩ := hv;have hn := TW r;obtain ⟨n, en⟩ : ∃ n, n = (cr 1 r).1 := ⟨_, rfl⟩;obtain ⟨r1, er1⟩ : ∃ r1, r1 = (cr 1 r).2 := ⟨_, rfl⟩;rw [<-en] at hn ⊢;rw [<-er1] at hw ⊢
 refine z3 ?_;have hw := bI hw 198 4;have hw := an.bz (M := ([] : List bO).flatMap bw) hw;have hw := hw.b [qv q _ _ _, row 198 4 _ _ _, aV _];refine bF (fun m e w => ∃ (k : Nat) (l : List bO) (u : Value), k <= n /\ m = n - k /\ e = [(0, pQ q), (1, iQ kind), (5, u), (8, .int .u64 n), (9, .int .u64 k)] /\ (l.length = k /\ l.map bO.it = (jV kind k r1).1 /\ ∀ y ∈ l, So y) ∧
 an G (qv q (.slice (some ⟨bb, oo, none⟩) o.length cap) o (jV kind k r1).2 :: row 198 4 u k (l.map bO.cells).flatten :: aV (l.flatMap bw) :: L) w)
  (m := n) sB
  ⟨0, [], _, dy _, rfl, rfl, ⟨rfl, rfl, by simp⟩, hw⟩ ?_
 rintro m e w ⟨k, l, u, hk, rfl, rfl, hl, hw⟩;refine z5 ?_;refine aE rfl (fun h1 => ?_) fun h1 => ?_
 ·
  have gK : k < n := oM;obtain ⟨rk, erk⟩ : ∃ rk, rk = (jV kind k r1).2 := ⟨_, rfl⟩;rw [<-erk] at hw;refine z7 ?_;refine al rfl bN rfl (bS (n := 1) hw (kb.of sF) mF dM) rfl fun w NL hv => ?_;obtain ⟨rfl, hw⟩ := hv;have Ax := TW rk;refine dd (v := ((cr 1 rk).1 : Nat)) rfl kR du cP rfl (jI oM) ?_;refine al rfl jt rfl (jX (n := (cr 1 rk).1) hw (kb.of sF) mF oM) rfl fun w S8 hv => ?_;have hw := hv;have Jg := (pG (cr 1 rk).1 (cr 1 rk).2).1;obtain ⟨ky, eky⟩ : ∃ ky, ky = (fQ (cr 1 rk).1 (cr 1 rk).2).1 := ⟨_, rfl⟩;obtain ⟨r2, er2⟩ : ∃ r2, r2 = (fQ (cr 1 rk).1 (cr 1 rk).2).2 := ⟨_, rfl⟩;rw [<-eky] at hw Jg
  rw [<-er2] at hw;obtain ⟨D8, D4, rfl⟩ := ((dP.row.head _).at hw).form;refine aO (v := .agg #[.slice D8 ky.length D4, nQ, iQ 0, iQ 0]) rfl rfl (fun w => kR) ?_;refine aF rfl eM hw rfl fun w b6 hw => ?_;refine aT (cs := [.slice D8 ky.length D4, nQ, iQ 0, iQ 0]) (l' := [.slice D8 ky.length D4, nQ, iQ 0, iQ 0]) rfl tV rfl rfl aD rfl (by intro u hu; simp at hu; rcases hu with rfl | rfl | rfl <;> rfl) hw pK sM rfl rfl (fun w hw => ?_);refine z7 ?_;refine aE rfl (fun h2 => ?_) fun h2 => ?_
  ·
   refine z2 ?_;refine al rfl bN rfl (bS (n := 2) (hw.b [qv q _ _ _]) (kb.of sF) mF dM) rfl fun w v20 hv => ?_;obtain ⟨rfl, hw⟩ := hv;have ZC := aa2 r2;refine dd (v := ((cr 2 r2).1 : Nat)) rfl kR du cP rfl (jI oM) ?_;refine z1 ?_;refine bu (l' := [.slice D8 ky.length D4, nQ, iQ 0, iQ ((cr 2 r2).1 : Nat)]) rfl tV rfl rfl ag rfl hw pK rfl rfl rfl fun w hw => ?_;refine z7 ?_;refine ay (d := 25) rfl (fun h3 => ?_) fun h3 => ?_
   ·
    refine z1 ?_;refine lD (v := iQ ((cr 2 r2).1 : Nat)) ag hw ?_;refine z3 ?_;refine aE rfl (fun h4 => ?_) fun h4 => ?_
    ·
     refine z3 ?_;refine lD (v := iQ ((cr 2 r2).1 : Nat)) ag hw ?_;refine al rfl jt rfl (jX (n := (cr 2 r2).1) (hw.b [qv q _ _ _]) (kb.of sF) mF oM) rfl fun w v33 hv => ?_;have hw := hv;have hvv := (pG (cr 2 r2).1 (cr 2 r2).2).1;obtain ⟨vy, evy⟩ : ∃ vy, vy = (fQ (cr 2 r2).1 (cr 2 r2).2).1 := ⟨_, rfl⟩;rw [<-evy] at hw hvv;obtain ⟨a33, c33, rfl⟩ := ((dP.row.head _).at hw).form;refine z1 ?_;refine bu (l' := [.slice D8 ky.length D4, .slice a33 vy.length c33, iQ 0, iQ ((cr 2 r2).1 : Nat)]) rfl tV rfl rfl au rfl hw pK rfl rfl rfl fun w hw => ?_;refine z3 ?_;refine lA (l := [.slice D8 ky.length D4, .slice a33 vy.length c33, iQ 0, iQ ((cr 2 r2).1 : Nat)]) aD hw ?_;refine fG (cs := [.slice D8 ky.length D4, .slice a33 vy.length c33, iQ 0, iQ ((cr 2 r2).1 : Nat)]) rfl aJ bf eX dM rfl rfl rfl hw kR fun w b41 hw => ?_;refine fH (m := k) (k := 1) (news := [.slice D8 ky.length D4, .slice a33 vy.length c33, iQ 0, iQ ((cr 2 r2).1 : Nat)]) rfl aJ bf ot eX rfl rfl hw pK (Rd.jE hw pK) rfl (by intro u hu; simp at hu; rcases hu with rfl | rfl | rfl | rfl <;> rfl) mL oM kR (fun w Hu hw => ?_);refine z3 ?_;refine NI (v := ((k + 1 : Nat) : Int)) rfl rfl rfl (Vf (n := k + 1) oM) ?_;refine z2 ?_;have hx : Aq kind rk = ((⟨⟨ky, vy, 0, (cr 2 r2).1⟩, .slice D8 ky.length D4, .slice a33 vy.length c33⟩ : bO).it, (fQ (cr 2 r2).1 (cr 2 r2).2).2) := by
      unfold Aq;simp only [h2, if_true, <-eky, <-er2, <-evy, ao h4]
     rw [erk] at hx;have hz := Ft hl hx ⟨by show ky.length <= 65536; omega, by show vy.length <= 65536; omega⟩;have hb := hw.b [qv q _ _ _, row 198 4 Hu _ _, aV _, row 5 1 (.slice D8 ky.length D4) _ _, row 5 1 (.slice a33 vy.length c33) _ _];have hw := J8 (x := ⟨⟨ky, vy, 0, (cr 2 r2).1⟩, .slice D8 ky.length D4, .slice a33 vy.length c33⟩) hb;rw [<-hz.2] at hw
     exact ⟨n - (k + 1), oM, [(0, _), (1, _), (5, Hu), (8, _), (9, .int .u64 (k + 1 : Nat))], sB, k + 1, _, Hu, oM, rfl, rfl, hz.1, (hw.b [ah b41 _ _, ah b6 _ _, qv q _ _ _, row 198 4 Hu _ _, aV _]).tail.tail⟩
    refine z2 ?_;refine al rfl bN rfl (bS (n := 4) (hw.b [qv q _ _ _]) (kb.of sF) mF dM) rfl fun w St hv => ?_;obtain ⟨rfl, hw⟩ := hv;refine dd (v := ((cr 4 (cr 2 r2).2).1 : Nat)) rfl kR du cP rfl (jI (by have := Zv (cr 2 r2).2; omega)) ?_;refine z1 ?_;refine bu (l' := [.slice D8 ky.length D4, nQ, iQ ((cr 4 (cr 2 r2).2).1 : Nat), iQ ((cr 2 r2).1 : Nat)]) rfl tV rfl rfl ag rfl hw pK rfl rfl rfl fun w hw => ?_;refine z3 ?_;refine lA (l := [.slice D8 ky.length D4, nQ, iQ ((cr 4 (cr 2 r2).2).1 : Nat), iQ ((cr 2 r2).1 : Nat)]) aD hw ?_;refine fG (cs := [.slice D8 ky.length D4, nQ, iQ ((cr 4 (cr 2 r2).2).1 : Nat), iQ ((cr 2 r2).1 : Nat)]) rfl aJ bf eX dM rfl rfl rfl hw kR fun w b41 hw => ?_;refine fH (m := k) (k := 1) (news := [.slice D8 ky.length D4, nQ, iQ ((cr 4 (cr 2 r2).2).1 : Nat), iQ ((cr 2 r2).1 : Nat)]) rfl aJ bf ot eX rfl rfl hw pK (Rd.jE hw pK) rfl (by intro u hu; simp at hu; rcases hu with rfl | rfl | rfl | rfl <;> rfl) mL oM kR (fun w Hu hw => ?_);refine z3 ?_;refine NI (v := ((k + 1 : Nat) : Int)) rfl rfl rfl (Vf (n := k + 1) oM) ?_;refine z2 ?_;have hx : Aq kind rk = ((⟨⟨ky, [], (cr 4 (cr 2 r2).2).1, (cr 2 r2).1⟩, .slice D8 ky.length D4, nQ⟩ : bO).it, (cr 4 (cr 2 r2).2).2) := by
     unfold Aq;simp only [h2, if_true, <-eky, <-er2, aj h4]
    rw [erk] at hx;have hz := Ft hl hx ⟨by show ky.length <= 65536; omega, by show (0 : Nat) <= 65536; omega⟩;have hw := bI hw 5 1;have hb := hw.b [qv q _ _ _, row 198 4 Hu _ _, aV _, row 5 1 (.slice D8 ky.length D4) _ _, row 5 1 (nQ) _ _];have hw := J8 (x := ⟨⟨ky, [], (cr 4 (cr 2 r2).2).1, (cr 2 r2).1⟩, .slice D8 ky.length D4, nQ⟩) hb;rw [<-hz.2] at hw
    exact ⟨n - (k + 1), oM, [(0, _), (1, _), (5, Hu), (8, _), (9, .int .u64 (k + 1 : Nat))], sB, k + 1, _, Hu, oM, rfl, rfl, hz.1, (hw.b [ah b41 _ _, ah b6 _ _, qv q _ _ _, row 198 4 Hu _ _, aV _]).tail.tail⟩
   exact absurd h2 h3
  refine z7 ?_;refine ay (d := 25) rfl (fun h5 => ?_) fun h5 => ?_
  ·
   exact absurd h5 h2
  refine z5 ?_;refine cg rfl ?_;refine z2 ?_;refine al rfl bN rfl (bS (n := 4) (hw.b [qv q _ _ _]) (kb.of sF) mF dM) rfl fun w St hv => ?_;obtain ⟨rfl, hw⟩ := hv;refine dd (v := ((cr 4 r2).1 : Nat)) rfl kR du cP rfl (jI (by have := Zv r2; omega)) ?_;refine z1 ?_;refine bu (l' := [.slice D8 ky.length D4, nQ, iQ ((cr 4 r2).1 : Nat), iQ 0]) rfl tV rfl rfl ag rfl hw pK rfl rfl rfl fun w hw => ?_;refine z3 ?_;refine lA (l := [.slice D8 ky.length D4, nQ, iQ ((cr 4 r2).1 : Nat), iQ 0]) aD hw ?_;refine fG (cs := [.slice D8 ky.length D4, nQ, iQ ((cr 4 r2).1 : Nat), iQ 0]) rfl aJ bf eX dM rfl rfl rfl hw kR fun w b41 hw => ?_;refine fH (m := k) (k := 1) (news := [.slice D8 ky.length D4, nQ, iQ ((cr 4 r2).1 : Nat), iQ 0]) rfl aJ bf ot eX rfl rfl hw pK (Rd.jE hw pK) rfl (by intro u hu; simp at hu; rcases hu with rfl | rfl | rfl | rfl <;> rfl) mL oM kR (fun w Hu hw => ?_);refine z3 ?_;refine NI (v := ((k + 1 : Nat) : Int)) rfl rfl rfl (Vf (n := k + 1) oM) ?_;refine z2 ?_;have hx : Aq kind rk = ((⟨⟨ky, [], (cr 4 r2).1, 0⟩, .slice D8 ky.length D4, nQ⟩ : bO).it, (cr 4 r2).2) := by
   unfold Aq;simp only [aj h2, <-eky, <-er2]
  rw [erk] at hx;have hz := Ft hl hx ⟨by show ky.length <= 65536; omega, by show (0 : Nat) <= 65536; omega⟩;have hw := bI hw 5 1;have hb := hw.b [qv q _ _ _, row 198 4 Hu _ _, aV _, row 5 1 (.slice D8 ky.length D4) _ _, row 5 1 (nQ) _ _];have hw := J8 (x := ⟨⟨ky, [], (cr 4 r2).1, 0⟩, .slice D8 ky.length D4, nQ⟩) hb;rw [<-hz.2] at hw
  exact ⟨n - (k + 1), oM, [(0, _), (1, _), (5, Hu), (8, _), (9, .int .u64 (k + 1 : Nat))], sB, k + 1, _, Hu, oM, rfl, rfl, hz.1, (hw.b [ah b41 _ _, ah b6 _ _, qv q _ _ _, row 198 4 Hu _ _, aV _]).tail.tail⟩
 have pA : k = n := oM;subst pA;refine z7 ?_;exact aK rfl rfl rfl ⟨l, hl, by rw [hl.1]; exact hw⟩
end
theorem pB {no : Nat} {b : bW} {n1 n2 n3 n4 : Nat} {r1 r2 r3 r4 r5 : Rk} {p : Pg} (hs : kG b) (rI : 1 <= no /\ no <= 65536) (e1 : n1 = (cr 1 ⟨b.take 508, true⟩).1) (P9 : r1 = (cr 1 ⟨b.take 508, true⟩).2) (e2 : n2 = (cr 1 r1).1) (P8 : r2 = (cr 1 r1).2)
  (e3 : n3 = (cr 4 r2).1) (UU : r3 = (cr 4 r2).2) (e4 : n4 = (cr 8 r3).1) (UT : r4 = (cr 8 r3).2) (e5 : Jz n1 n2 r4 = (p, r5)) :
  xC no b = if (n3 : Int) = no /\ n4 <= 1099511627776 /\ (oP r5.b /\ r5.ok = true) /\ cM p = 0 then some (p, (n4 : Int)) else none := by
 unfold xC;rw [ao ⟨hs, oM, oM⟩];unfold YD;simp only [<-e1, <-P9, <-e2, <-P8, <-e3, <-UU, <-e4, <-UT, e5]
theorem Xg {no : Nat} {b : bW} {n1 n2 n3 : Nat} {r1 r2 : Rk} (hs : kG b) (rI : 1 <= no /\ no <= 65536) (e1 : n1 = (cr 1 ⟨b.take 508, true⟩).1) (P9 : r1 = (cr 1 ⟨b.take 508, true⟩).2) (e2 : n2 = (cr 1 r1).1) (P8 : r2 = (cr 1 r1).2)
  (e3 : n3 = (cr 4 r2).1) (hn : ¬ (n3 : Int) = no) : xC no b = none := by
 rw [pB hs rI e1 P9 e2 P8 e3 rfl rfl rfl rfl, aj (fun h => hn h.1)]
section
variable {G : Gh} {L R : List aw} {w : World}
theorem Gg {no : Nat} {v : Value} {bb : bW} (hw : an G L w) (kb : aG L (dP v bb)) (hl : bb.length = 512) (rI : 1 <= no /\ no <= 65536) :
  Calls prog 218 #[iQ no, v] w (bU fun r w' => (∃ p : bT, ∃ gen : Nat, xC no bb = some (p.pg, (gen : Int)) /\ gen <= 1099511627776 /\ r = .tuple #[gQ p.cells, iQ gen, iQ 0] /\ p.Sm /\ an G (cB p :: L) w') ∨
   (∃ er, xC no bb = none /\ r = .tuple #[gQ eh.cells, iQ 0, iQ er] /\ er ≠ 0 /\ er ≠ 17 /\ an G L w')) := by
 obtain ⟨a, cap, rfl⟩ := (kb.at hw).form;have OH := (kb.at hw).inv.2.1;obtain ⟨YM, oo, rfl⟩ := (kb.at hw).nn oM;obtain ⟨o, eo⟩ : ∃ o, o = bb.take 508 := ⟨_, rfl⟩;have mF : o.length = 508 := by rw [eo, fB]; omega
 have Ub : aG L (dP (.slice (some ⟨YM, oo, none⟩) o.length cap) o) := by rw [mF, eo]; exact kb.mono fun w hs => hs.hi oM oM (g8 _)
 refine ad (args := [_, _]) func218 rfl ntmps218 rfl rfl ?_;refine z2 ?_;refine aF rfl bE hw rfl fun w b4 hw => ?_;refine z7 ?_;refine al rfl lg rfl (mj (n := (no : Int)) hw) rfl fun w NL hv => ?_;obtain ⟨rfl, hw⟩ := hv;refine fo rfl rfl ?_;refine aC ?_;refine aE rfl (fun h1 => ?_) fun h1 => ?_
 ·
  exact absurd (show iI (no : Int) by unfold iI; omega) h1
 refine z8 ?_;refine aE rfl (fun h2 => ?_) fun h2 => ?_
 ·
  exact absurd oM h2
 refine z4 ?_;refine aO (v := .agg #[.slice (some ⟨YM, oo, none⟩) bb.length cap, iQ 508, .bool true]) rfl rfl (fun w => kR) ?_;refine aF rfl Hs hw rfl fun w b7 hw => ?_;refine aT (cs := [.slice (some ⟨YM, oo, none⟩) bb.length cap, iQ 508, .bool true]) (l' := [.slice (some ⟨YM, oo, none⟩) bb.length cap, iQ ((508 : Nat) : Int), .bool true]) rfl tV rfl rfl BR rfl (by intro u hu; simp at hu; rcases hu with rfl | rfl | rfl <;> rfl) hw pK sM rfl rfl (fun w hw => ?_);have hw := wR (r := ⟨bb.drop 508, true⟩) (at_ := 508) oM rfl hw;refine z3 ?_;refine bd [0, 1, 2, 3, 4, 5] bJ kR ?_;replace hw := hw.drawn (w.drawn + 1);refine al rfl bN rfl (bS (n := 4) hw (kb.of sF) oM dM) kR fun w VY hv => ?_;obtain ⟨rfl, hw⟩ := hv;have e22 : (cr 4 ⟨bb.drop 508, true⟩).1 = nm (bb.drop 508) := by
  unfold cr fQ;rw [ao ⟨rfl, by simp only [gT]; omega⟩]
  show nm ((bb.drop 508).take 4) = _
  rw [oF (by rw [gT]; omega)]
 rw [e22];refine z1 ?_;refine D' (b := bb) rfl aI bh rfl rfl ((kb.of sF).at hw) ⟨oM, oM⟩ (((kb.of sF).at hw).spot oM) fun Sv e24 h24 => ?_;have e24 : Sv = .slice (some ⟨YM, oo, none⟩) o.length cap := by rw [e24, mF]; rfl
 subst e24;refine al rfl GD rfl (Jp (l := o) hw (Ub.of sF) oM) kR fun w v25 hv => ?_;obtain ⟨rfl, hw⟩ := hv;refine dd (v := ((JR o).toNat : Int)) rfl kR ou du rfl (Vf (by have := (JR o).isLt; omega)) ?_;refine z2 ?_;refine aE rfl (fun h3 => ?_) fun h3 => ?_
 ·
  refine z2 ?_;refine aO (v := gQ eh.cells) rfl rfl (fun w => kR) ?_;refine aT (cs := eh.cells) (l' := eh.cells) rfl tV rfl rfl ae rfl cT hw pK (by simp [eh, bT.cells]) rfl rfl fun w hw => ?_;refine z4 ?_;exact m9 rfl rfl ⟨_, rfl, (ar.cU (l := eh.cells) ae hw pK rfl)⟩ rfl rfl (.inr ⟨_, MI (fun hs => h3 (by unfold kG at hs; rw [<-eo] at hs; omega)), rfl, by decide, by decide, hw.tail.tail⟩)
 have hs : kG bb := by unfold kG; rw [<-eo]; omega
 refine z4 ?_;refine D' (b := bb) rfl aI bh rfl rfl ((kb.of sF).at hw) ⟨oM, oM⟩ (((kb.of sF).at hw).spot oM) fun v30 e30 h30 => ?_;have e30 : v30 = .slice (some ⟨YM, oo, none⟩) o.length cap := by rw [e30, mF]; rfl
 subst e30;refine aO (v := .agg #[.slice (some ⟨YM, oo, none⟩) o.length cap, iQ 0, .bool true]) rfl rfl (fun w => kR) ?_;refine a9 rfl rfl rfl hw rfl fun w SE hw => ?_;have hw := wR (q := SE) (o := o) (sv := .slice (some ⟨YM, oo, none⟩) o.length cap) (r := ⟨o, true⟩) (at_ := 0) (dy _) rfl hw;refine z5 ?_;refine al rfl bN rfl (bS (n := 1) hw (Ub.of sF) oM dM) rfl fun w X' hv => ?_;obtain ⟨rfl, hw⟩ := hv;have l1 := TW ⟨o, true⟩;obtain ⟨n1, e1⟩ : ∃ n, n = (cr 1 ⟨o, true⟩).1 := ⟨_, rfl⟩;obtain ⟨r1, P9⟩ : ∃ n, n = (cr 1 ⟨o, true⟩).2 := ⟨_, rfl⟩;rw [<-e1] at l1 ⊢;rw [<-P9] at hw
 refine dd (v := (n1 : Int)) rfl kR du cP rfl (jI oM) ?_;refine z1 ?_;refine al rfl bN rfl (bS (n := 1) hw (Ub.of sF) oM dM) rfl fun w v37 hv => ?_;obtain ⟨rfl, hw⟩ := hv;have l2 := TW r1;obtain ⟨n2, e2⟩ : ∃ n, n = (cr 1 r1).1 := ⟨_, rfl⟩;obtain ⟨r2, P8⟩ : ∃ n, n = (cr 1 r1).2 := ⟨_, rfl⟩;rw [<-e2] at l2 ⊢;rw [<-P8] at hw
 refine dd (v := (n2 : Int)) rfl kR du cP rfl (jI oM) ?_;refine aO (v := .agg #[iQ n1, iQ n2, nQ, nQ, iQ 0]) rfl rfl (fun w => kR) ?_;refine aF rfl bE hw rfl fun w b9 hw => ?_;refine aT (cs := [iQ n1, iQ n2, nQ, nQ, iQ 0]) (l' := [iQ n1, iQ n2, nQ, nQ, iQ 0]) rfl tV rfl rfl ae rfl (by intro u hu; simp at hu; rcases hu with rfl | rfl | rfl | rfl <;> rfl) hw pK sM rfl rfl (fun w hw => ?_);refine z5 ?_;refine al rfl bN rfl (bS (n := 4) (hw.b [qv SE _ _ _]) (Ub.of sF) oM dM) rfl fun w v41 hv => ?_;obtain ⟨rfl, hw⟩ := hv;obtain ⟨n3, e3⟩ : ∃ n, n = (cr 4 r2).1 := ⟨_, rfl⟩;obtain ⟨r3, UU⟩ : ∃ n, n = (cr 4 r2).2 := ⟨_, rfl⟩;rw [<-e3];rw [<-UU] at hw;refine z1 ?_;refine dd (v := (no : Int)) rfl kR cP du rfl (Vf oM) ?_;refine z2 ?_;refine aE rfl (fun h4 => ?_) fun h4 => ?_
 ·
  refine z2 ?_;refine aO (v := gQ eh.cells) rfl rfl (fun w => kR) ?_;refine aT (cs := eh.cells) (l' := eh.cells) rfl tV rfl rfl ae rfl cT hw pK (by simp [eh, bT.cells]) rfl rfl fun w hw => ?_;refine z4 ?_;exact m9 rfl rfl ⟨_, rfl, (ar.cU (l := eh.cells) ae hw pK rfl)⟩ rfl rfl (.inr ⟨_, Xg (n1 := n1) (r1 := r1) hs rI (by rw [<-eo]; exact e1) (by rw [<-eo]; exact P9) e2 P8 e3 h4, rfl, by decide, by decide, (hw.b [ah b4 _ _, qv b7 _ _ _, qv SE _ _ _, ah b9 _ _]).tail.tail.tail.tail⟩)
 refine z4 ?_;refine al rfl bN rfl (bS (n := 8) (hw.b [qv SE _ _ _]) (Ub.of sF) oM dM) rfl fun w v47 hv => ?_;obtain ⟨rfl, hw⟩ := hv;obtain ⟨n4, e4⟩ : ∃ n, n = (cr 8 r3).1 := ⟨_, rfl⟩;obtain ⟨r4, UT⟩ : ∃ n, n = (cr 8 r3).2 := ⟨_, rfl⟩;rw [<-e4];rw [<-UT] at hw;refine z6 ?_;refine lD (v := iQ n1) ag hw ?_;refine z2 ?_;refine aE rfl (fun h5 => ?_) fun h5 => ?_
 ·
  refine z3 ?_;refine al rfl bN rfl (bS (n := 2) (hw.b [qv SE _ _ _]) (Ub.of sF) oM dM) rfl fun w v52 hv => ?_;obtain ⟨rfl, hw⟩ := hv;have l5 := aa2 r4;obtain ⟨n5, e5⟩ : ∃ n, n = (cr 2 r4).1 := ⟨_, rfl⟩;obtain ⟨r5, e5'⟩ : ∃ n, n = (cr 2 r4).2 := ⟨_, rfl⟩;rw [<-e5] at l5 ⊢;rw [<-e5'] at hw
  refine dd (v := (n5 : Int)) rfl kR du cP rfl (jI oM) ?_;refine z5 ?_;refine al rfl bN rfl (bS (n := 4) (hw.b [qv SE _ _ _]) (Ub.of sF) oM dM) rfl fun w v55 hv => ?_;obtain ⟨rfl, hw⟩ := hv;have l6 := Zv r5;obtain ⟨n6, e6⟩ : ∃ n, n = (cr 4 r5).1 := ⟨_, rfl⟩;obtain ⟨r6, e6'⟩ : ∃ n, n = (cr 4 r5).2 := ⟨_, rfl⟩;rw [<-e6] at l6 ⊢;rw [<-e6'] at hw
  refine dd (v := (n6 : Int)) rfl kR du cP rfl (jI oM) ?_;refine z1 ?_;refine bu (l' := [iQ n1, iQ n2, nQ, nQ, iQ n6]) rfl tV rfl rfl ag rfl hw pK rfl rfl rfl fun w hw => ?_;refine z4 ?_;refine al rfl jt rfl (jX (n := n5) (hw.b [qv SE _ _ _]) (Ub.of sF) oM oM) rfl fun w v60 hv => ?_;have hw := hv;have hd := (pG n5 r6).1;obtain ⟨da, eda⟩ : ∃ n, n = (fQ n5 r6).1 := ⟨_, rfl⟩;obtain ⟨r7, e7'⟩ : ∃ n, n = (fQ n5 r6).2 := ⟨_, rfl⟩;rw [<-eda] at hd hw;rw [<-e7'] at hw
  obtain ⟨a60, c60, rfl⟩ := ((dP.row.head _).at hw).form;refine z1 ?_;refine bu (l' := [iQ n1, iQ n2, nQ, .slice a60 da.length c60, iQ n6]) rfl tV rfl rfl au rfl hw pK rfl rfl rfl fun w hw => ?_;obtain ⟨pV, Xe⟩ : ∃ pV : bT, pV = ⟨n1, n2, [], nQ, .slice a60 da.length c60, da, n6⟩ := ⟨_, rfl⟩;have r8 : Jz n1 n2 r4 = (pV.pg, r7) := by
   have h5 : n1 = 3 := oM;rw [Xe]; unfold Jz; rw [ao h5]; simp only [<-e5, <-e5', <-e6, <-e6', <-eda, <-e7']; rfl
  have B0 : pV.Sm := by rw [Xe]; exact ⟨dy _, (fun x hx => by cases hx), by show da.length <= 140737488355328; omega⟩
  have gN : [iQ (n1 : Int), iQ (n2 : Int), nQ, .slice a60 da.length c60, iQ (n6 : Int)] = pV.cells := by rw [Xe]; rfl
  have hw := bI hw 198 4;have hw := an.bz (M := []) hw;have hw := an.bz (M := [row 198 4 (nQ) 0 [], aV [], row 5 1 (.slice a60 da.length c60) da.length (cD da)]) (hw.b [row 198 4 _ _ _, aV [], row 5 1 (.slice a60 da.length c60) _ _]);have tW : aV [row 198 4 (nQ) 0 [], aV [], row 5 1 (.slice a60 da.length c60) da.length (cD da)] = cB pV := by rw [Xe]; rfl
  rw [tW, gN] at hw;refine z7 ?_;refine ay (d := 69) rfl (fun h6 => ?_) fun h6 => ?_
  ·
   refine mN ?_;refine bY rfl ?_;refine z2 ?_;refine aO (v := gQ eh.cells) rfl rfl (fun w => kR) ?_;refine aT (cs := eh.cells) (l' := eh.cells) rfl tV rfl rfl ae rfl cT hw pK (by simp [eh, bT.cells]) rfl rfl fun w hw => ?_;refine z4 ?_;exact m9 rfl rfl ⟨_, rfl, (ar.cU (l := eh.cells) ae hw pK rfl)⟩ rfl rfl (.inr ⟨_, by rw [pB hs rI (by rw [<-eo]; exact e1) (by rw [<-eo]; exact P9) e2 P8 e3 UU e4 UT r8, aj (fun h => by have := h.2.1; omega)], rfl, by decide, by decide, (hw.b [ah b4 _ _, qv b7 _ _ _, qv SE _ _ _, ah b9 _ _, cB pV]).tail.tail.tail.tail.tail⟩)
  refine z1 ?_;refine al rfl mR rfl (nT (hw.b [qv SE _ _ _]) (Ub.of sF) oM) rfl fun w v71 hv => ?_;obtain ⟨rfl, hw⟩ := hv;refine fo rfl rfl ?_;refine z2 ?_;refine ay (d := 74) rfl (fun h7 => ?_) fun h7 => ?_
  ·
   refine z5 ?_;refine bY rfl ?_;refine z2 ?_;refine aO (v := gQ eh.cells) rfl rfl (fun w => kR) ?_;refine aT (cs := eh.cells) (l' := eh.cells) rfl tV rfl rfl ae rfl cT hw pK (by simp [eh, bT.cells]) rfl rfl fun w hw => ?_;refine z4 ?_;exact m9 rfl rfl ⟨_, rfl, (ar.cU (l := eh.cells) ae hw pK rfl)⟩ rfl rfl (.inr ⟨_, by rw [pB hs rI (by rw [<-eo]; exact e1) (by rw [<-eo]; exact P9) e2 P8 e3 UU e4 UT r8, aj (fun h => h7 h.2.2.1)], rfl, by decide, by decide, (hw.b [ah b4 _ _, qv b7 _ _ _, ah b9 _ _, cB pV]).tail.tail.tail.tail⟩)
  refine lA (l := pV.cells) ae hw ?_;refine al rfl j5 rfl (k3 (p := pV) hw (aS B0 pK)) rfl fun w v76 hv => ?_;obtain ⟨rfl, hw⟩ := hv;refine z3 ?_;refine aE rfl (fun h8 => ?_) fun h8 => ?_
  ·
   refine z2 ?_;refine aO (v := gQ eh.cells) rfl rfl (fun w => kR) ?_;refine aT (cs := eh.cells) (l' := eh.cells) rfl tV rfl rfl ae rfl cT hw pK (by simp [eh, bT.cells]) rfl rfl fun w hw => ?_;refine z4 ?_;exact m9 rfl rfl ⟨_, rfl, (ar.cU (l := eh.cells) ae hw pK rfl)⟩ rfl rfl (.inr ⟨_, by rw [pB hs rI (by rw [<-eo]; exact e1) (by rw [<-eo]; exact P9) e2 P8 e3 UU e4 UT r8, aj (fun h => h8 h.2.2.2)], rfl, by decide, by decide, (hw.b [ah b4 _ _, qv b7 _ _ _, ah b9 _ _, cB pV]).tail.tail.tail.tail⟩)
  refine z3 ?_;refine lA (l := pV.cells) ae hw ?_;refine z1 ?_;refine dd (v := (n4 : Int)) rfl kR du cP rfl (jI oM) ?_;refine aT (cs := pV.cells) (l' := pV.cells) rfl tV rfl rfl ae rfl (dX (aS B0 pK) hw) hw pK (by simp [bT.cells]) rfl rfl fun w hw => ?_;refine z4 ?_;exact m9 rfl rfl ⟨_, rfl, (ar.cU (l := pV.cells) ae hw pK rfl)⟩ rfl rfl (.inl ⟨pV, n4, by rw [pB hs rI (by rw [<-eo]; exact e1) (by rw [<-eo]; exact P9) e2 P8 e3 UU e4 UT r8, ao ⟨c6.1 h4, oM, c6.1 h7, c6.1 h8⟩], oM, rfl, B0, (hw.b [ah b4 _ _, qv b7 _ _ _, ah b9 _ _, cB pV]).tail.tail.tail⟩)
 refine z3 ?_;refine lD (v := iQ n1) ag hw ?_;refine al rfl uP rfl (wm (kind := (n1 : Int)) (hw.b [qv SE _ _ _]) (Ub.of sF) oM) rfl fun w X7 hv => ?_;obtain ⟨li, ⟨acD, abn, acC⟩, hw⟩ := hv;have l7 := TW r4;obtain ⟨n7, e7⟩ : ∃ n, n = (cr 1 r4).1 := ⟨_, rfl⟩;obtain ⟨r6, e7'⟩ : ∃ n, n = (cr 1 r4).2 := ⟨_, rfl⟩;rw [<-e7, <-e7'] at hw abn;rw [<-e7] at acD l7
 obtain ⟨r7, e8'⟩ : ∃ n, n = (jV (n1 : Int) n7 r6).2 := ⟨_, rfl⟩;rw [<-e8'] at hw;have HD : aG (row 198 4 X7 li.length (li.map bO.cells).flatten :: []) (g7 4 X7 (li.map bO.cells)) := by
  have h := g7.row (T := 198) (z := 4) (v := X7) (m := li.length) (rs := li.map bO.cells) sM (fun r hr => by obtain ⟨x, -, rfl⟩ := dE.1 hr; rfl);exact h
 obtain ⟨a65, c65, e65, -, -⟩ := ((HD.head _).at (hw.b [row 198 4 X7 _ _])).form;subst e65;refine z1 ?_;refine bu (l' := [iQ n1, iQ n2, .slice a65 (li.map bO.cells).length c65, nQ, iQ 0]) rfl tV rfl rfl az rfl hw pK rfl rfl rfl fun w hw => ?_;obtain ⟨pV, Xe⟩ : ∃ pV : bT, pV = ⟨n1, n2, li, .slice a65 (li.map bO.cells).length c65, nQ, [], 0⟩ := ⟨_, rfl⟩;have r8 : Jz n1 n2 r4 = (pV.pg, r7) := by
  have h5 : ¬ n1 = 3 := oM;rw [Xe]; unfold Jz; rw [aj h5]; simp only [<-e7, <-e7', <-abn, <-e8']; rfl
 have B0 : pV.Sm := by rw [Xe]; exact ⟨by show li.length <= 2199023255552; omega, (fun x hx => by have := acC x hx; unfold So at this; unfold bP; omega), by show (0 : Nat) <= 140737488355328; omega⟩
 have gN : [iQ (n1 : Int), iQ (n2 : Int), .slice a65 (li.map bO.cells).length c65, nQ, iQ 0] = pV.cells := by rw [Xe]; rfl
 have hw := bI hw 5 1;have hw := an.bz (M := [row 198 4 (.slice a65 (li.map bO.cells).length c65) li.length (li.map bO.cells).flatten, aV (li.flatMap bw), row 5 1 (nQ) 0 []]) (hw.b [row 198 4 _ _ _, aV _, row 5 1 (nQ) _ _]);have tW : aV [row 198 4 (.slice a65 (li.map bO.cells).length c65) li.length (li.map bO.cells).flatten, aV (li.flatMap bw), row 5 1 (nQ) 0 []] = cB pV := by rw [Xe]; rfl
 rw [tW, gN] at hw;refine z7 ?_;refine ay (d := 69) rfl (fun h9 => ?_) fun h9 => ?_
 ·
  refine mN ?_;refine bY rfl ?_;refine z2 ?_;refine aO (v := gQ eh.cells) rfl rfl (fun w => kR) ?_;refine aT (cs := eh.cells) (l' := eh.cells) rfl tV rfl rfl ae rfl cT hw pK (by simp [eh, bT.cells]) rfl rfl fun w hw => ?_;refine z4 ?_;exact m9 rfl rfl ⟨_, rfl, (ar.cU (l := eh.cells) ae hw pK rfl)⟩ rfl rfl (.inr ⟨_, by rw [pB hs rI (by rw [<-eo]; exact e1) (by rw [<-eo]; exact P9) e2 P8 e3 UU e4 UT r8, aj (fun h => by have := h.2.1; omega)], rfl, by decide, by decide, (hw.b [ah b4 _ _, qv b7 _ _ _, qv SE _ _ _, ah b9 _ _, cB pV]).tail.tail.tail.tail.tail⟩)
 refine z1 ?_;refine al rfl mR rfl (nT (hw.b [qv SE _ _ _]) (Ub.of sF) oM) rfl fun w v71 hv => ?_;obtain ⟨rfl, hw⟩ := hv;refine fo rfl rfl ?_;refine z2 ?_;refine ay (d := 74) rfl (fun uV => ?_) fun uV => ?_
 ·
  refine z5 ?_;refine bY rfl ?_;refine z2 ?_;refine aO (v := gQ eh.cells) rfl rfl (fun w => kR) ?_;refine aT (cs := eh.cells) (l' := eh.cells) rfl tV rfl rfl ae rfl cT hw pK (by simp [eh, bT.cells]) rfl rfl fun w hw => ?_;refine z4 ?_;exact m9 rfl rfl ⟨_, rfl, (ar.cU (l := eh.cells) ae hw pK rfl)⟩ rfl rfl (.inr ⟨_, by rw [pB hs rI (by rw [<-eo]; exact e1) (by rw [<-eo]; exact P9) e2 P8 e3 UU e4 UT r8, aj (fun h => uV h.2.2.1)], rfl, by decide, by decide, (hw.b [ah b4 _ _, qv b7 _ _ _, ah b9 _ _, cB pV]).tail.tail.tail.tail⟩)
 refine lA (l := pV.cells) ae hw ?_;refine al rfl j5 rfl (k3 (p := pV) hw (aS B0 pK)) rfl fun w v76 hv => ?_;obtain ⟨rfl, hw⟩ := hv;refine z3 ?_;refine aE rfl (fun Hp => ?_) fun Hp => ?_
 ·
  refine z2 ?_;refine aO (v := gQ eh.cells) rfl rfl (fun w => kR) ?_;refine aT (cs := eh.cells) (l' := eh.cells) rfl tV rfl rfl ae rfl cT hw pK (by simp [eh, bT.cells]) rfl rfl fun w hw => ?_;refine z4 ?_;exact m9 rfl rfl ⟨_, rfl, (ar.cU (l := eh.cells) ae hw pK rfl)⟩ rfl rfl (.inr ⟨_, by rw [pB hs rI (by rw [<-eo]; exact e1) (by rw [<-eo]; exact P9) e2 P8 e3 UU e4 UT r8, aj (fun h => Hp h.2.2.2)], rfl, by decide, by decide, (hw.b [ah b4 _ _, qv b7 _ _ _, ah b9 _ _, cB pV]).tail.tail.tail.tail⟩)
 refine z3 ?_;refine lA (l := pV.cells) ae hw ?_;refine z1 ?_;refine dd (v := (n4 : Int)) rfl kR du cP rfl (jI oM) ?_;refine aT (cs := pV.cells) (l' := pV.cells) rfl tV rfl rfl ae rfl (dX (aS B0 pK) hw) hw pK (by simp [bT.cells]) rfl rfl fun w hw => ?_;refine z4 ?_;exact m9 rfl rfl ⟨_, rfl, (ar.cU (l := pV.cells) ae hw pK rfl)⟩ rfl rfl (.inl ⟨pV, n4, by rw [pB hs rI (by rw [<-eo]; exact e1) (by rw [<-eo]; exact P9) e2 P8 e3 UU e4 UT r8, ao ⟨c6.1 h4, oM, c6.1 uV, c6.1 Hp⟩], oM, rfl, B0, (hw.b [ah b4 _ _, qv b7 _ _ _, ah b9 _ _, cB pV]).tail.tail.tail⟩)
end
def Sg (c : Cf) : List Value := [iQ c.blocks, iQ c.qh, iQ c.refs]
def oz (p : Pl) : List Value := [iQ p.pages, iQ p.gL, iQ p.first]
def EI (s : Su) (rv : Value) : List Value := [iQ s.gen, iQ s.cf.blocks, iQ s.cf.qh, iQ s.cf.refs, iQ s.next, rv]
def Zo : Pl := ⟨0, 0, 0⟩
theorem vp (c : Pl) : iR (oz c) := fun u hu => by simp [oz] at hu; rcases hu with rfl | rfl | rfl <;> rfl
theorem E2 {b p : Nat} (h : ¬ 2 + 2 * uQ (p + 1) + (p + 1) <= b) : oQ b (p + 1) = oQ b p := by rw [oQ, aj h]
theorem yR {b p : Nat} (h : 2 + 2 * uQ p + p <= b) : oQ b p = p := by
 cases p with
 | zero => rfl
 | succ p => rw [oQ, ao h]
section
variable {G : Gh} {L R : List aw} {w : World}
theorem gj {x lo hi : Int} (hw : an G L w) : Calls prog 214 #[iQ x, iQ lo, iQ hi] w (bU fun r w' => r = .bool (decide (lo <= x /\ x <= hi)) /\ an G L w') := by
 refine ad (args := [_, _, _]) func214 rfl ntmps214 rfl rfl ?_;refine mN ?_;refine ay (d := 10) rfl (fun h1 => ?_) fun h1 => ?_
 ·
  refine z7 ?_;exact aK rfl rfl rfl ⟨by first | rw [decide_eq_false (show ¬ (lo <= x /\ x <= hi) by omega)] | (congr 1; simp only [cd]; omega), hw⟩
 refine z7 ?_;exact aK rfl rfl rfl ⟨by first | rw [decide_eq_false (show ¬ (lo <= x /\ x <= hi) by omega)] | (congr 1; simp only [cd]; omega), hw⟩
theorem Kr {c : Cf} (hw : an G L w) : Calls prog 216 #[gQ (Sg c)] w (bU fun r w' => r = .bool (decide (gJ c)) /\ an G L w') := by
 refine ad (args := [_]) func216 rfl ntmps216 rfl rfl ?_;refine z2 ?_;refine a9 rfl rfl rfl hw rfl fun w b1 hw => ?_;refine z5 ?_;refine lD (v := iQ c.blocks) ag hw ?_;refine al rfl fz rfl (gj hw) rfl fun w v5 hv => ?_;obtain ⟨rfl, hw⟩ := hv;refine z1 ?_;refine ay (d := 6) rfl (fun h1 => ?_) fun h1 => ?_
 ·
  refine z1 ?_;refine lD (v := iQ c.qh) ag hw ?_;refine al rfl fz rfl (gj hw) rfl fun w v9 hv => ?_;obtain ⟨rfl, hw⟩ := hv;refine z2 ?_;refine ay (d := 11) rfl (fun h2 => ?_) fun h2 => ?_
  ·
   refine z1 ?_;refine lD (v := iQ c.refs) ag hw ?_;refine al rfl fz rfl (gj hw) rfl fun w Sx hv => ?_;obtain ⟨rfl, hw⟩ := hv;refine z4 ?_;exact aK rfl rfl rfl ⟨by first | rw [decide_eq_false (show ¬ gJ c by unfold gJ; omega)] | (congr 1; simp only [cd]; unfold gJ; omega), hw.tail⟩
  refine z7 ?_;exact aK rfl rfl rfl ⟨by first | rw [decide_eq_false (show ¬ gJ c by unfold gJ; omega)] | (congr 1; simp only [cd]; unfold gJ; omega), hw.tail⟩
 refine yb ?_;exact aK rfl rfl rfl ⟨by first | rw [decide_eq_false (show ¬ gJ c by unfold gJ; omega)] | (congr 1; simp only [cd]; unfold gJ; omega), hw.tail⟩
theorem yq {p : Nat} (hw : an G L w) (hp : p <= 65536) : Calls prog 217 #[iQ p] w (bU fun r w' => r = iQ (uQ p : Nat) /\ an G L w') := by
 refine ad (args := [_]) func217 rfl ntmps217 rfl rfl ?_;refine z9 ?_;refine re rfl rfl rfl oM oM ?_;refine z3 ?_;exact aK rfl rfl rfl ⟨by rw [show ((p : Int) + 240 - 1) / 240 = ((uQ p : Nat) : Int) by unfold uQ; omega], hw⟩
theorem yr {c : Cf} (hw : an G L w) : Calls prog 126 #[gQ (Sg c)] w (bU fun r w' => ((¬ gJ c /\ r = .tuple #[gQ (oz Zo), iQ 1]) \/ (gJ c /\ r = .tuple #[gQ (oz (aL c)), iQ 0])) /\ an G L w') := by
 refine ad (args := [_]) func126 rfl ntmps126 rfl rfl ?_;refine z2 ?_;refine a9 rfl rfl rfl hw rfl fun w b1 hw => ?_;refine aF rfl pR hw rfl fun w b2 hw => ?_;refine z5 ?_;refine lA (l := Sg c) iZ hw ?_;refine al rfl Ic rfl (Kr hw) rfl fun w v7 hv => ?_;obtain ⟨rfl, hw⟩ := hv;refine fo rfl rfl ?_;refine aC ?_;refine aE rfl (fun h1 => ?_) fun h1 => ?_
 ·
  refine z2 ?_;refine aO (v := gQ (oz Zo)) rfl rfl (fun w => kR) ?_;refine aT (cs := oz Zo) (l' := oz Zo) rfl tV rfl rfl cw rfl (vp _) hw pK (by simp [oz]) rfl rfl fun w hw => ?_;refine z3 ?_;exact cz rfl rfl ⟨_, rfl, (ar.cU (l := oz Zo) cw hw pK rfl)⟩ rfl ⟨.inl ⟨h1, rfl⟩, (hw.b [ah b2 _ _, ah b1 _ _]).tail.tail⟩
 have hm : gJ c := c6.1 h1;obtain ⟨B, hB⟩ : ∃ B : Nat, c.blocks = B := ⟨c.blocks.toNat, by unfold gJ at hm; omega⟩;have hB8 : 8 <= B /\ B <= 65536 := by unfold gJ at hm; omega
 refine z4 ?_;refine lD (v := iQ c.blocks) ag hw ?_;rw [hB];refine z4 ?_;refine bF (fun m e w => ∃ p : Nat, p <= B /\ m = p + 1 /\ oQ B p = oQ B B /\ e = [(1, pQ b1), (2, pQ b2), (4, iQ p)] /\ an G (ah b2 (oz Zo) 155 :: ah b1 (Sg c) 72 :: L) w)
  (m := B + 1) sB
  ⟨B, g8 _, rfl, rfl, rfl, hw⟩ ?_
 rintro m e w ⟨p, hp, rfl, kO, rfl, hw⟩;have hbk : uQ p <= p + 1 := by unfold uQ; omega
 refine z2 ?_;refine bd [0, 4, 6, 7, 1, 2, 3, 5, 8] bJ kR ?_;replace hw := hw.drawn (w.drawn + 1);refine z3 ?_;refine lD (v := iQ c.blocks) ag hw ?_;refine dJ rfl wF rfl (yq hw oM) (fun w NL hv q' hq => ?_) fun w NL hv => ?_
 ·
  obtain ⟨rfl, hw⟩ := hv;have hq := bm (l := [7]) kR hq;simp only [bQ, dz, or_false] at hq;subst hq;exact bx rfl rfl rfl (ar.bL (v := iQ c.blocks) ag hw pK rfl)
 obtain ⟨rfl, hw⟩ := hv;refine jH rfl rfl rfl oM ?_;refine z4 ?_;refine aE rfl (fun h2 => ?_) fun h2 => ?_
 ·
  refine z7 ?_;have Mj : p ≠ 0 := fun h0 => by subst h0; unfold uQ at h2; omega
  obtain ⟨k, rfl⟩ : ∃ k, p = k + 1 := ⟨p - 1, oM⟩;exact ⟨k + 1, oM, [(1, _), (2, _), (4, iQ (k : Nat))], ⟨fk.cons rfl (fk.cons rfl (fk.cons (by show some (iQ _) = some (iQ _); congr 2; omega) (fk.nil _))), rfl⟩, k, oM, rfl, by rw [<-kO, E2 oM], rfl, hw⟩
 have Dy : yg c = p := by unfold yg; rw [hB, ez, <-kO]; exact yR oM
 refine z4 ?_;refine al rfl wF rfl (yq hw oM) rfl fun w Sv hv => ?_;obtain ⟨rfl, hw⟩ := hv;refine z7 ?_;refine jH rfl rfl rfl oM ?_;refine z1 ?_;refine aO (v := gQ (oz (aL c))) rfl rfl (fun w => by unfold aL; rw [Dy]; kernel_rfl) ?_;refine aT (cs := oz (aL c)) (l' := oz (aL c)) rfl tV rfl rfl cw rfl (vp _) hw pK (by simp [oz]) rfl rfl fun w hw => ?_;refine z3 ?_;exact cz rfl rfl ⟨_, rfl, (ar.cU (l := oz (aL c)) cw hw pK rfl)⟩ rfl ⟨.inr ⟨hm, rfl⟩, (hw.b [ah b2 _ _, ah b1 _ _]).tail.tail⟩
theorem Kt {p : Pl} {t : Tr} (hw : an G L w) (hp : 0 <= p.pages /\ p.pages <= 65536) : Calls prog 215 #[gQ (oz p), gQ (br t)] w (bU fun r w' => r = .bool (decide (xP p.pages t)) /\ an G L w') := by
 refine ad (args := [_, _]) func215 rfl ntmps215 rfl rfl ?_;refine z2 ?_;refine a9 rfl rfl rfl hw rfl fun w b2 hw => ?_;refine a9 rfl rfl rfl hw rfl fun w b3 hw => ?_;refine z4 ?_;refine lA (l := br t) aX hw ?_;refine aO (v := gQ (br ⟨0, 0, 0⟩)) rfl rfl (fun w => kR) ?_;refine iU (v := .bool (decide (jJ t))) rfl kR rfl rfl (fun w' => by
  rw [Sem.run_bind, run_eqGuard_agg w' _ _ _ _ _ _ kR, Result.andThen_ok, run_eql_struct, CR 9998];rfl) ?_
 refine z1 ?_;refine ay (d := 8) rfl (fun h1 => ?_) fun h1 => ?_
 ·
  refine z22 ?_;exact aK rfl rfl rfl ⟨by rw [decide_eq_true (show xP p.pages t from .inl h1)], hw.tail.tail⟩
 refine z1 ?_;refine lD (v := iQ t.root) ag hw ?_;refine z1 ?_;refine lD (v := iQ p.pages) ag hw ?_;refine al rfl fz rfl (gj hw) rfl fun w NL hv => ?_;obtain ⟨rfl, hw⟩ := hv;refine z1 ?_;refine ay (d := 14) rfl (fun h2 => ?_) fun h2 => ?_
 ·
  refine z1 ?_;refine lD (v := iQ t.aQ) ag hw ?_;refine al rfl fz rfl (gj hw) rfl fun w v17 hv => ?_;obtain ⟨rfl, hw⟩ := hv;refine sO rfl rfl rfl rfl ?_;refine z1 ?_;refine ay (d := 19) rfl (fun h3 => ?_) fun h3 => ?_
  ·
   refine z1 ?_;refine lD (v := iQ t.items) ag hw ?_;refine z1 ?_;refine lD (v := iQ p.pages) ag hw ?_;refine jH rfl rfl rfl oM ?_;refine al rfl fz rfl (gj hw) rfl fun w v25 hv => ?_;obtain ⟨rfl, hw⟩ := hv;refine sO rfl rfl rfl rfl ?_;refine z4 ?_;exact aK rfl rfl rfl ⟨by
 have hc : xP p.pages t ↔ ((1 <= t.root /\ t.root <= p.pages) /\ (1 <= t.aQ /\ t.aQ <= 12) /\ 1 <= t.items /\ t.items <= p.pages * 8) := ⟨fun h => h.resolve_left h1, .inr⟩
 first | (congr 1; simp only [cd]; rw [hc]; omega) | rw [decide_eq_false (show ¬ xP p.pages t by rw [hc]; omega)], hw.tail.tail⟩
  refine z6 ?_;refine qJ rfl rfl rfl rfl ?_;refine z4 ?_;exact aK rfl rfl rfl ⟨by
 have hc : xP p.pages t ↔ ((1 <= t.root /\ t.root <= p.pages) /\ (1 <= t.aQ /\ t.aQ <= 12) /\ 1 <= t.items /\ t.items <= p.pages * 8) := ⟨fun h => h.resolve_left h1, .inr⟩
 first | (congr 1; simp only [cd]; rw [hc]; omega) | rw [decide_eq_false (show ¬ xP p.pages t by rw [hc]; omega)], hw.tail.tail⟩
 refine z3 ?_;refine qJ rfl rfl rfl rfl ?_;refine z7 ?_;refine qJ rfl rfl rfl rfl ?_;refine z4 ?_;exact aK rfl rfl rfl ⟨by
 have hc : xP p.pages t ↔ ((1 <= t.root /\ t.root <= p.pages) /\ (1 <= t.aQ /\ t.aQ <= 12) /\ 1 <= t.items /\ t.items <= p.pages * 8) := ⟨fun h => h.resolve_left h1, .inr⟩
 first | (congr 1; simp only [cd]; rw [hc]; omega) | rw [decide_eq_false (show ¬ xP p.pages t by rw [hc]; omega)], hw.tail.tail⟩
theorem HW {p : Pl} {k : Int} (hw : an G L w) (hp : 0 <= p.gL /\ p.gL <= 65536) : Calls prog 222 #[gQ (oz p), iQ k] w (bU fun r w' => r = iQ (if k = 0 then 2 else if k = 1 then 2 + p.gL else 0) /\ an G L w') := by
 refine ad (args := [_, _]) func222 rfl ntmps222 rfl rfl ?_;refine z2 ?_;refine a9 rfl rfl rfl hw rfl fun w b2 hw => ?_;refine VI ?_;refine aE rfl (fun h1 => ?_) fun h1 => ?_
 ·
  refine z5 ?_;exact aK rfl rfl rfl ⟨by rw [ao h1], hw.tail⟩
 refine z5 ?_;refine aE rfl (fun h2 => ?_) fun h2 => ?_
 ·
  refine z3 ?_;refine lD (v := iQ p.gL) ag hw ?_;refine z4 ?_;exact aK rfl rfl rfl ⟨by rw [aj h1, ao h2], hw.tail⟩
 refine z6 ?_;exact aK rfl rfl rfl ⟨by rw [aj h1, aj h2], hw.tail⟩
theorem XU (g : Nat) (hg : g <= 1099511627776) : IntKind.i64.wrap (BitVec.ofInt IntKind.i64.bits (g : Int) &&& BitVec.ofInt IntKind.i64.bits 1).toNat = ((g % 2 : Nat) : Int) := by
 show IntKind.i64.wrap ((BitVec.ofInt 64 (g : Int) &&& BitVec.ofInt 64 1).toNat : Int) = _
 rw [BitVec.ofInt_natCast, show BitVec.ofInt 64 1 = 1#64 from rfl, BitVec.toNat_and, BitVec.toNat_ofNat, LC oM, show (1#64).toNat = 1 from rfl, Nat.and_one_is_mod, jI oM]
theorem HV {g : Nat} (hw : an G L w) (hg : g <= 1099511627776) : Calls prog 223 #[iQ g] w (bU fun r w' => r = iQ ((g % 2 : Nat) : Int) /\ an G L w') := by
 refine ad (args := [_]) func223 rfl ntmps223 rfl rfl ?_;refine z7 ?_;refine NH (v := ((g % 2 : Nat) : Int)) rfl rfl rfl (XU g hg) ?_;refine z3 ?_;exact aK rfl rfl rfl ⟨rfl, hw⟩
theorem we {p : Pl} {n : Int} (hw : an G L w) (hp : 0 <= p.first /\ p.first <= 1000000 /\ p.pages <= 65536) : Calls prog 136 #[gQ (oz p), iQ n] w (bU fun r w' => ((¬ (1 <= n /\ n <= p.pages) /\ r = .tuple #[iQ 0, .bool false]) \/ ((1 <= n /\ n <= p.pages) /\ r = .tuple #[iQ (p.first + n - 1), .bool true])) /\ an G L w') := by
 refine ad (args := [_, _]) func136 rfl ntmps136 rfl rfl ?_;refine z2 ?_;refine a9 rfl rfl rfl hw rfl fun w b2 hw => ?_;refine z8 ?_;refine lD (v := iQ p.pages) ag hw ?_;refine al rfl fz rfl (gj hw) rfl fun w v9 hv => ?_;obtain ⟨rfl, hw⟩ := hv;refine fo rfl rfl ?_;refine aC ?_;refine aE rfl (fun h1 => ?_) fun h1 => ?_
 ·
  refine z6 ?_;exact cz rfl rfl rfl rfl ⟨.inl ⟨h1, rfl⟩, hw.tail⟩
 have h1 := c6.1 h1;refine z4 ?_;refine lD (v := iQ p.first) ag hw ?_;refine z7 ?_;exact cz rfl rfl rfl rfl ⟨.inr ⟨h1, rfl⟩, hw.tail⟩
theorem Gf {c : Cf} (hw : an G L w) : Calls prog 141 #[gQ (Sg c)] w (bU fun r w' => r = .bool (decide (gJ c)) /\ an G L w') := by
 refine ad (args := [_]) func141 rfl ntmps141 rfl rfl ?_;refine z2 ?_;refine a9 rfl rfl rfl hw rfl fun w b1 hw => ?_;refine z5 ?_;refine lD (v := iQ c.blocks) ag hw ?_;refine z2 ?_;refine ay (d := 6) rfl (fun h1 => ?_) fun h1 => ?_
 ·
  refine z1 ?_;refine lD (v := iQ c.blocks) ag hw ?_;refine z3 ?_;refine ay (d := 11) rfl (fun h2 => ?_) fun h2 => ?_
  ·
   refine z1 ?_;refine lD (v := iQ c.qh) ag hw ?_;refine z3 ?_;refine ay (d := 16) rfl (fun h3 => ?_) fun h3 => ?_
   ·
    refine z1 ?_;refine lD (v := iQ c.qh) ag hw ?_;refine z3 ?_;refine ay (d := 21) rfl (fun h4 => ?_) fun h4 => ?_
    ·
     refine z1 ?_;refine lD (v := iQ c.refs) ag hw ?_;refine z3 ?_;refine ay (d := 26) rfl (fun h5 => ?_) fun h5 => ?_
     ·
      refine z1 ?_;refine lD (v := iQ c.refs) ag hw ?_;refine z5 ?_;exact aK rfl rfl rfl ⟨by first | rw [decide_eq_false (show ¬ gJ c by unfold gJ; omega)] | (congr 1; simp only [cd]; unfold gJ; omega), hw.tail⟩
     refine z7 ?_;exact aK rfl rfl rfl ⟨by first | rw [decide_eq_false (show ¬ gJ c by unfold gJ; omega)] | (congr 1; simp only [cd]; unfold gJ; omega), hw.tail⟩
    refine yb ?_;exact aK rfl rfl rfl ⟨by first | rw [decide_eq_false (show ¬ gJ c by unfold gJ; omega)] | (congr 1; simp only [cd]; unfold gJ; omega), hw.tail⟩
   refine z17 ?_;exact aK rfl rfl rfl ⟨by first | rw [decide_eq_false (show ¬ gJ c by unfold gJ; omega)] | (congr 1; simp only [cd]; unfold gJ; omega), hw.tail⟩
  refine z22 ?_;exact aK rfl rfl rfl ⟨by first | rw [decide_eq_false (show ¬ gJ c by unfold gJ; omega)] | (congr 1; simp only [cd]; unfold gJ; omega), hw.tail⟩
 refine z24 ?_;refine z3 ?_;exact aK rfl rfl rfl ⟨by first | rw [decide_eq_false (show ¬ gJ c by unfold gJ; omega)] | (congr 1; simp only [cd]; unfold gJ; omega), hw.tail⟩
theorem H0 {c : Cf} (hw : an G L w) (hm : gJ c) : Calls prog 69 #[gQ (Sg c)] w (bU fun r w' => r = .tuple #[gQ (oz (aL c)), iQ 0] /\ an G L w') := by
 refine ad (args := [_]) func69 rfl ntmps69 rfl rfl ?_;refine z2 ?_;refine a9 rfl rfl rfl hw rfl fun w b1 hw => ?_;refine aF rfl pR hw rfl fun w b2 hw => ?_;refine z5 ?_;refine lA (l := Sg c) iZ hw ?_;refine al rfl DW rfl (Gf hw) rfl fun w v7 hv => ?_;obtain ⟨rfl, hw⟩ := hv;refine fo rfl rfl ?_;refine aC ?_;refine aE rfl (fun h1 => ?_) fun h1 => ?_
 ·
  exact absurd hm h1
 obtain ⟨B, hB⟩ : ∃ B : Nat, c.blocks = B := ⟨c.blocks.toNat, by unfold gJ at hm; omega⟩;have hB8 : 8 <= B /\ B <= 65536 := by unfold gJ at hm; omega
 refine z4 ?_;refine lD (v := iQ c.blocks) ag hw ?_;rw [hB];refine z4 ?_;refine bF (fun m e w => ∃ p : Nat, p <= B /\ m = p + 1 /\ oQ B p = oQ B B /\ e = [(1, pQ b1), (2, pQ b2), (4, iQ p)] /\ an G (ah b2 (oz Zo) 155 :: ah b1 (Sg c) 72 :: L) w)
  (m := B + 1) sB
  ⟨B, g8 _, rfl, rfl, rfl, hw⟩ ?_
 rintro m e w ⟨p, hp, rfl, kO, rfl, hw⟩;have hbk : (uQ p : Int) = ((p : Int) + 240 - 1) / 240 := by unfold uQ; omega
 have s8 : uQ p <= p + 1 := by unfold uQ; omega
 refine z6 ?_;refine ay (d := 14) rfl (fun h2 => ?_) fun h2 => ?_
 ·
  refine z1 ?_;refine BA rfl rfl rfl oM ?_;refine Bv rfl rfl rfl oM ?_;refine re rfl rfl rfl oM oM ?_;refine jH rfl rfl rfl oM ?_;refine BA rfl rfl rfl oM ?_;refine z1 ?_;refine BA rfl rfl rfl oM ?_;refine z1 ?_;refine lD (v := iQ c.blocks) ag hw ?_;rw [hB];refine z3 ?_;refine aE rfl (fun h3 => ?_) fun h3 => ?_
  ·
   refine z7 ?_;obtain ⟨k, rfl⟩ : ∃ k, p = k + 1 := ⟨p - 1, oM⟩;exact ⟨k + 1, oM, [(1, _), (2, _), (4, iQ (k : Nat))], ⟨fk.cons rfl (fk.cons rfl (fk.cons (by show some (iQ _) = some (iQ _); congr 2; omega) (fk.nil _))), rfl⟩, k, oM, rfl, by rw [<-kO, E2 oM], rfl, hw⟩
  have Dy : yg c = p := by unfold yg; rw [hB, ez, <-kO]; exact yR oM
  refine z6 ?_;refine re rfl rfl rfl oM oM ?_;refine z7 ?_;refine jH rfl rfl rfl oM ?_;refine z1 ?_;refine aO (v := gQ (oz (aL c))) rfl rfl (fun w => by unfold aL; rw [Dy, <-hbk]; kernel_rfl) ?_;refine aT (cs := oz (aL c)) (l' := oz (aL c)) rfl tV rfl rfl cw rfl (vp _) hw pK (by simp [oz]) rfl rfl fun w hw => ?_;refine z3 ?_;exact cz rfl rfl ⟨_, rfl, (ar.cU (l := oz (aL c)) cw hw pK rfl)⟩ rfl ⟨rfl, (hw.b [ah b2 _ _, ah b1 _ _]).tail.tail⟩
 have Dy : yg c = p := by unfold yg; rw [hB, ez, <-kO]; exact yR (show 2 + 2 * uQ p + p <= B by
    have h0 : p = 0 := oM;subst h0; unfold uQ; omega)
 refine VI ?_;refine cg rfl ?_;refine z6 ?_;refine re rfl rfl rfl oM oM ?_;refine z7 ?_;refine jH rfl rfl rfl oM ?_;refine z1 ?_;refine aO (v := gQ (oz (aL c))) rfl rfl (fun w => by unfold aL; rw [Dy, <-hbk]; kernel_rfl) ?_;refine aT (cs := oz (aL c)) (l' := oz (aL c)) rfl tV rfl rfl cw rfl (vp _) hw pK (by simp [oz]) rfl rfl fun w hw => ?_;refine z3 ?_;exact cz rfl rfl ⟨_, rfl, (ar.cU (l := oz (aL c)) cw hw pK rfl)⟩ rfl ⟨rfl, (hw.b [ah b2 _ _, ah b1 _ _]).tail.tail⟩
theorem H2 {p : Pl} {k : Int} (hw : an G L w) (hp : 0 <= p.gL /\ p.gL <= 65536) : Calls prog 70 #[gQ (oz p), iQ k] w (bU fun r w' => r = iQ (if k = 0 then 2 else if k = 1 then 2 + p.gL else 0) /\ an G L w') := by
 refine ad (args := [_, _]) func70 rfl ntmps70 rfl rfl ?_;refine z2 ?_;refine a9 rfl rfl rfl hw rfl fun w b2 hw => ?_;refine z8 ?_;refine aE rfl (fun h1 => ?_) fun h1 => ?_
 ·
  refine z5 ?_;exact aK rfl rfl rfl ⟨by rw [ao h1], hw.tail⟩
 refine z7 ?_;refine aE rfl (fun h2 => ?_) fun h2 => ?_
 ·
  refine z3 ?_;refine lD (v := iQ p.gL) ag hw ?_;refine z4 ?_;exact aK rfl rfl rfl ⟨by rw [aj h1, ao h2], hw.tail⟩
 refine z6 ?_;exact aK rfl rfl rfl ⟨by rw [aj h1, aj h2], hw.tail⟩
theorem HZ {g : Nat} (hw : an G L w) (hg : g <= 1099511627776) : Calls prog 71 #[iQ g] w (bU fun r w' => r = iQ ((g % 2 : Nat) : Int) /\ an G L w') := by
 refine ad (args := [_]) func71 rfl ntmps71 rfl rfl ?_;refine z8 ?_;refine SV rfl rfl rfl oM oM ?_;refine z2 ?_;refine aE rfl (fun h1 => ?_) fun h1 => ?_
 ·
  refine z5 ?_;exact aK rfl rfl rfl ⟨by rw [show ((g % 2 : Nat) : Int) = 0 by omega], hw⟩
 refine z6 ?_;exact aK rfl rfl rfl ⟨by rw [show ((g % 2 : Nat) : Int) = 1 by omega], hw⟩
end
theorem ER (x : Int × Tr) : iR (eK x) := fun u hu => by simp [eK] at hu; rcases hu with rfl | rfl | rfl | rfl <;> rfl
section
variable {G : Gh} {L R : List aw} {w : World}
theorem Gb {s : Su} {rv : Value} (hw : an G L w) (kr : aG L (g7 4 rv (s.roots.map eK))) (hn : s.roots.length <= 1000) :
  Calls prog 124 #[gQ (EI s rv)] w (bU fun r w' => r = iQ (eI s) /\ an G L w') := by
 obtain ⟨ra, rc, h0, -, -⟩ := (kr.at hw).form;rw [bX] at h0;subst h0;refine ad (args := [_]) func124 rfl ntmps124 rfl rfl ?_;refine z2 ?_;refine a9 rfl rfl rfl hw rfl fun w b1 hw => ?_;refine z5 ?_;refine bt rfl rfl (ar.tL (cs := Sg s.cf) iZ hw pK rfl rfl) ?_;refine al rfl wG rfl (yr hw) rfl fun w NL hv => ?_;have hz : ∃ p er, NL = .tuple #[gQ (oz p), iQ er] /\ ((¬ gJ s.cf /\ er = 1) \/ (gJ s.cf /\ p = aL s.cf /\ er = 0)) := by
  rcases hv.1 with ⟨h1, h2⟩ | ⟨h1, h2⟩
  ·exact ⟨_, _, h2, .inl ⟨h1, rfl⟩⟩
  exact ⟨_, _, h2, .inr ⟨h1, rfl, rfl⟩⟩
 have hw := hv.2;obtain ⟨p, er, rfl, hp⟩ := hz;refine z3 ?_;refine aF rfl pR hw rfl fun w b3 hw => ?_;refine aT (cs := oz p) (l' := oz p) rfl tV rfl rfl cw rfl (vp _) hw pK (by simp [oz]) rfl rfl fun w hw => ?_;refine z8 ?_;refine aE rfl (fun h1 => ?_) fun h1 => ?_
 ·
  refine z6 ?_;exact aK rfl rfl rfl ⟨by
 obtain ⟨h2, rfl⟩ := hp.resolve_right (fun h => h1 h.2.2);unfold eI; rw [ao h2], hw.tail.tail⟩
 obtain ⟨hm, rfl, rfl⟩ := hp.resolve_left (fun h => by have := h.2; omega);have WN : eI s = if ¬ ((0 <= s.gen /\ s.gen <= 1099511627776) /\ (1 <= s.next /\ s.next <= 2147483648) /\ (s.roots.length : Int) <= s.cf.qh) then 4 else if ¬ py s.next 0 s.roots then 11 else if ¬ ∀ r ∈ s.roots, xP (aL s.cf).pages r.2 then 5 else 0 := by
  unfold eI; rw [aj (fun h => h hm)]
 obtain ⟨f1, f2, f3, f4, f5, f6⟩ := kA hm;have s8 := hm.1;refine z5 ?_;refine lD (v := iQ s.gen) ag hw ?_;refine al rfl fz rfl (gj hw) rfl fun w Zc hv => ?_;obtain ⟨rfl, hw⟩ := hv;refine fo rfl rfl ?_;refine z1 ?_;refine ay (d := 23) rfl (fun h2 => ?_) fun h2 => ?_
 ·
  refine z15 ?_;refine bY rfl ?_;refine z5 ?_;exact aK rfl rfl rfl ⟨by rw [WN, ao (fun h => h2 h.1)], hw.tail.tail⟩
 refine z1 ?_;refine lD (v := iQ s.next) ag hw ?_;refine al rfl fz rfl (gj hw) rfl fun w Zb hv => ?_;obtain ⟨rfl, hw⟩ := hv;refine fo rfl rfl ?_;refine z2 ?_;refine ay (d := 29) rfl (fun h3 => ?_) fun h3 => ?_
 ·
  refine z9 ?_;refine bY rfl ?_;refine z5 ?_;exact aK rfl rfl rfl ⟨by rw [WN, ao (fun h => h3 h.2.1)], hw.tail.tail⟩
 refine z1 ?_;refine lD (v := .slice ra s.roots.length rc) fN hw ?_;refine eJ rfl kR dw rfl ?_;refine z1 ?_;refine cS rfl tZ rfl ?_;refine lD (v := iQ s.cf.qh) ag hw ?_;refine z3 ?_;refine aE rfl (fun h4 => ?_) fun h4 => ?_
 ·
  refine z5 ?_;exact aK rfl rfl rfl ⟨by rw [WN, ao (fun h => by have := h.2.2; omega)], hw.tail.tail⟩
 have h2 := c6.1 h2;have h3 := c6.1 h3;have abb : eI s = if ¬ py s.next 0 s.roots then 11 else if ¬ ∀ r ∈ s.roots, xP (aL s.cf).pages r.2 then 5 else 0 := by
  rw [WN, aj (fun h => h ⟨h2, h3, oM⟩)]
 refine z9 ?_;refine lD (v := .slice ra s.roots.length rc) fN hw ?_;refine eJ rfl kR dw rfl ?_;refine z3 ?_;refine bF (fun m e w => ∃ (k : Nat) (ab : Int), k <= s.roots.length /\ m = s.roots.length - k /\ e = [(1, pQ b1), (3, pQ b3), (5, iQ ab), (39, .slice ra s.roots.length rc), (40, iQ s.roots.length), (41, iQ k)] /\ ((0 <= ab /\ ab <= 2147483648) /\ (py s.next 0 s.roots ↔ py s.next ab (s.roots.drop k))) ∧
 an G (ah b3 (oz (aL s.cf)) 155 :: ah b1 (EI s (.slice ra s.roots.length rc)) 74 :: L) w)
  (m := s.roots.length) sB
  ⟨0, 0, dy _, rfl, rfl, ⟨⟨by decide, by decide⟩, Iff.rfl⟩, hw⟩ ?_
 rintro m e w ⟨k, ab, hk, rfl, rfl, ⟨B6, ZL⟩, hw⟩;refine z5 ?_;refine aE rfl (fun h5 => ?_) fun h5 => ?_
 ·
  have gK : k < s.roots.length := oM;obtain ⟨x, hx⟩ : ∃ x, s.roots[k]? = some x := ⟨_, dm gK⟩;obtain ⟨bb, oo, rfl⟩ := ((kr.of sF).at hw).nn (by rw [bX]; omega);rw [eF hx] at ZL;refine z5 ?_;refine eY rfl dw nG rfl rfl ⟨oM, oM⟩ ?_;refine bt rfl rfl (ar.many (cs := eK x) gb rfl (by rw [ez]; exact ((kr.of sF).at hw).at (by rw [dg, hx]; rfl))) ?_;refine aF rfl sL hw rfl fun w b7 hw => ?_;refine aT (cs := eK x) (l' := eK x) rfl tV rfl rfl gb rfl (ER x) hw pK (by simp [eK]) rfl rfl fun w hw => ?_;refine z5 ?_;refine lD (v := iQ x.1) ag hw ?_;refine z3 ?_;refine lD (v := iQ s.next) ag hw ?_;refine z1 ?_;refine al rfl fz rfl (gj hw) rfl fun w v52 hv => ?_;obtain ⟨rfl, hw⟩ := hv;refine fo rfl rfl ?_;refine aC ?_;refine aE rfl (fun h6 => ?_) fun h6 => ?_
  ·
   refine z5 ?_;exact aK rfl rfl rfl ⟨by rw [abb, ao (fun h => h6 (ZL.1 h).1)], hw.tail.tail.tail⟩
  refine z3 ?_;refine lD (v := iQ x.1) ag hw ?_;refine z6 ?_;have h6 := c6.1 h6;exact ⟨s.roots.length - (k + 1), oM, [(1, _), (3, _), (5, iQ x.1), (39, _), (40, _), (41, iQ (k + 1 : Nat))], sB, k + 1, x.1, oM, rfl, rfl, ⟨oM, ZL.trans ⟨fun h => h.2, fun h => ⟨h6, h⟩⟩⟩, hw.tail⟩
 have pA : k = s.roots.length := oM;rw [pA, LD] at ZL;have ZL : py s.next 0 s.roots := ZL.2 trivial;have aba : eI s = if ¬ ∀ r ∈ s.roots, xP (aL s.cf).pages r.2 then 5 else 0 := by rw [abb, aj (fun h => h ZL)]
 refine z5 ?_;refine lD (v := .slice ra s.roots.length rc) fN hw ?_;refine eJ rfl kR dw rfl ?_;refine z3 ?_;refine bF (fun m e w => ∃ (k : Nat), k <= s.roots.length /\ m = s.roots.length - k /\ e = [(1, pQ b1), (3, pQ b3), (58, .slice ra s.roots.length rc), (59, iQ s.roots.length), (60, iQ k)] /\ (∀ r ∈ s.roots.take k, xP (aL s.cf).pages r.2) ∧
 an G (ah b3 (oz (aL s.cf)) 155 :: ah b1 (EI s (.slice ra s.roots.length rc)) 74 :: L) w)
  (m := s.roots.length) sB
  ⟨0, dy _, rfl, rfl, (fun r hr => by simp at hr), hw⟩ ?_
 rintro m e w ⟨k, hk, rfl, rfl, UH, hw⟩;refine z5 ?_;refine aE rfl (fun h7 => ?_) fun h7 => ?_
 ·
  have gK : k < s.roots.length := oM;obtain ⟨x, hx⟩ : ∃ x, s.roots[k]? = some x := ⟨_, dm gK⟩;obtain ⟨bb, oo, rfl⟩ := ((kr.of sF).at hw).nn (by rw [bX]; omega);refine z5 ?_;refine eY rfl dw nG rfl rfl ⟨oM, oM⟩ ?_;refine bt rfl rfl (ar.many (cs := eK x) gb rfl (by rw [ez]; exact ((kr.of sF).at hw).at (by rw [dg, hx]; rfl))) ?_;refine aF rfl sL hw rfl fun w b9 hw => ?_;refine aT (cs := eK x) (l' := eK x) rfl tV rfl rfl gb rfl (ER x) hw pK (by simp [eK]) rfl rfl fun w hw => ?_;refine z3 ?_;refine lA (l := oz (aL s.cf)) cw hw ?_;refine z1 ?_;refine bt rfl rfl (ar.tL (cs := br x.2) aX hw pK rfl rfl) ?_;refine al rfl Ie rfl (Kt hw oM) rfl fun w v67 hv => ?_;obtain ⟨rfl, hw⟩ := hv;refine fo rfl rfl ?_;refine aC ?_;refine aE rfl (fun h8 => ?_) fun h8 => ?_
  ·
   refine z5 ?_;exact aK rfl rfl rfl ⟨by rw [aba, ao (fun h => h8 (h x (gl hx)))], hw.tail.tail.tail⟩
  refine z5 ?_;have h8 := c6.1 h8;refine ⟨s.roots.length - (k + 1), oM, [(1, _), (3, _), (58, _), (59, _), (60, iQ (k + 1 : Nat))], sB, k + 1, oM, rfl, rfl, ?_, hw.tail⟩;rw [cC hx];intro r hr;rcases gF.1 hr with hr | hr
  ·exact UH r hr
  simp at hr; subst hr; exact h8
 refine z6 ?_;exact aK rfl rfl rfl ⟨by rw [aba, aj (fun h => h (by rw [oF oM] at UH; exact UH))], hw.tail.tail⟩
end
theorem B9 {α : Type} {g : Nat -> α -> List Int × Int -> Int × List Int × Int} : ∀ {l : List α} {i : Nat} {s : List Int × Int}, (jx g i l s).1 = 0 -> ∀ x ∈ l, ∃ j t, (g j x t).1 = 0
 | y :: l, i, s, h, x, hx => by
  rw [jx] at h;split at h
  ·rename_i h0; exact absurd h h0
  rename_i h0;rcases bQ.1 hx with rfl | hx
  ·exact ⟨i, s, c6.1 h0⟩
  exact B9 h x hx
def sK (rd : Int -> Option Pg) (c : CK) : Prop :=
 (c.2 = -1 /\ ∃ f left met, 0 < left /\ (gA rd f left c.1 met).1 = 0 /\ left <= (f : Int)) \/ (0 <= c.2 /\ ∃ least r s, (eQ rd c.2.toNat c.1 least r s).1 = 0)
theorem B7 {rd : Int -> Option Pg} (hr : CG rd) {c : CK} (h : sK rd c) : ∃ p, rd c.1 = some p /\ p.kind = jU c.2 /\ (jU c.2 = 2 -> p.level = c.2) /\ ∀ k ∈ cL p, sK rd (k, if jU c.2 = 2 then c.2 - 1 else -1) := by
 obtain ⟨n, lev⟩ := c;rcases h with ⟨h1, f, left, met, h2, h3, OA⟩ | ⟨h1, least, r, s, h2⟩
 ·have h1 : lev = -1 := h1;subst h1;cases f with
  | zero => omega
  | succ f =>
   rw [gA, aj oM] at h3;cases he : dt rd met n with
   | none => rw [he] at h3; cases h3
   | some p =>
    rw [he] at h3;simp only at h3
    obtain ⟨-, hp⟩ := dY he;split at h3
    ·cases h3
    rename_i h4;split at h3
    ·cases h3
    rename_i h5;have h4 := c6.1 h4;have h5 := c6.1 h5;have UD := (tu (hr n p hp)).2.2.2 oM oM;refine ⟨p, hp, h4, (fun h => by cases h), fun k hk => ?_⟩;obtain ⟨rfl, h6⟩ := Fp h4 (Ae UD.2.1) k hk;exact .inl ⟨rfl, f, _, _, by have := h5.2; omega, h3, oM⟩
 have h1 : 0 <= lev := h1;have h2 : (eQ rd lev.toNat n least r s).1 = 0 := h2;cases he : dt rd s.1 n with
 | none => rw [jO he] at h2; cases h2
 | some p =>
  obtain ⟨-, hp⟩ := dY he;rw [iF he] at h2;split at h2
  ·cases h2
  rename_i h0;split at h2
  ·cases h2
  by_cases hl : lev = 0
  ·subst hl;have hk : p.kind = 1 := by
    unfold lT at h0; rw [ao (show Int.toNat 0 = 0 from rfl)] at h0; exact c6.1 h0
   refine ⟨p, hp, hk, (fun h => by cases h), fun k gK => ?_⟩;obtain ⟨x, hx, rfl, hn⟩ := Fm hk k gK;obtain ⟨j, t, h5⟩ := B9 h2 x hx;have h5 : (ix rd x r t).1 = 0 := h5;unfold ix at h5;split at h5
   ·cases h5
   split at h5
   ·rename_i h6;exact absurd ((I5 (hr n p hp) hk x hx).2.1 h6).2 hn
   rename_i h6;exact .inl ⟨rfl, _, _, _, oM, h5, oM⟩
  obtain ⟨m, rfl⟩ : ∃ m : Nat, lev = (m : Int) + 1 := ⟨(lev - 1).toNat, oM⟩;have e : ((m : Int) + 1).toNat = m + 1 := oM;rw [e] at h0 h2;have Jg : jU ((m : Int) + 1) = 2 := by unfold jU; rw [aj oM, aj oM]
  unfold lT at h0;rw [aj oM] at h0
  obtain ⟨h7, h8⟩ := c6.1 h0;refine ⟨p, hp, by show p.kind = jU ((m : Int) + 1); rw [Jg]; exact h7, fun _ => by show p.level = (m : Int) + 1; rw [h8]; simp, fun k gK => ?_⟩;rw [CY h7] at gK;obtain ⟨x, hx, rfl⟩ := dE.1 gK;obtain ⟨j, t, h5⟩ := B9 h2 x hx;have h5 : (eQ rd m x.child 4 (ga r (oG p j)) t).1 = 0 := h5
  show sK rd (x.child, if jU ((m : Int) + 1) = 2 then (m : Int) + 1 - 1 else -1)
  rw [ao Jg];exact .inr ⟨by show 0 <= (m : Int) + 1 - 1; omega, 4, _, t, by show (eQ rd ((m : Int) + 1 - 1).toNat x.child 4 _ t).1 = 0; rw [show ((m : Int) + 1 - 1).toNat = m by omega]; exact h5⟩
theorem R4 {rd : Int -> Option Pg} {t : Tr} (h : ss rd t = 0) (hn : t.root ≠ 0) : sK rd (t.root, t.aQ - 1) := by
 unfold ss at h;rw [aj (fun h => hn h.1)] at h
 split at h
 ·cases h
 rename_i hf;have hf := c6.1 hf;simp only at h;split at h
 ·rename_i h0; exact absurd h h0
 rename_i h0;refine .inr ⟨by show 0 <= t.aQ - 1; unfold kV at hf; omega, _, _, _, c6.1 h0⟩
theorem nf {f : Nat -> Option (List Int)} : ∀ {k : Nat} {c : List Int}, nV f k = some c -> ∀ i, i < k -> ∃ l, f i = some l
 | k + 1, c, h, i, hi => by
  rw [nV] at h;split at h
  ·cases h
  rename_i a ha;split at h
  ·cases h
  rename_i b hb;rcases qz i k with h1 | h1
  ·exact nf ha i h1
  have : i = k := oM;subst this; exact ⟨b, hb⟩
theorem Dd {f g : Nat -> Option (List Int)} : ∀ {k : Nat}, (∀ i, i < k -> f i = g i) -> nV f k = nV g k
 | 0, _ => rfl
 | k + 1, h => by rw [nV, nV, Dd (k := k) (fun i hi => h i oM), h k oM]
theorem Gp {f : Nat -> Option (List Int)} {k i : Nat} (hi : i < k) (h : f i = none) : nV f k = none := by
 cases hc : nV f k with
 | none => rfl
 | some c => obtain ⟨l, hl⟩ := nf hc i hi; rw [h] at hl; cases hl
theorem sr {s : Su} {Bk : Nat -> bW} : ∀ {k : Nat} {c : List Int}, (k : Int) * 240 <= (aL s.cf).pages + 239 -> nV (ir s Bk) k = some c -> c.length = min (240 * k) (aL s.cf).pages.toNat
 | 0, c, hk, h => by cases h; simp
 | k + 1, c, hk, h => by
  rw [nV] at h;split at h
  ·cases h
  rename_i a ha;split at h
  ·cases h
  rename_i b hb;cases h;have h1 := sr (k := k) (by push_cast at hk ⊢; omega) ha;have h2 := (CC hb).1;rw [de, h1, h2];unfold Vg
  push_cast at hk
  omega
theorem E4 {rd rd' : Int -> Option Pg} {c : List Int} : ∀ {k : Nat}, (∀ i, i < k -> c.getD i 0 ≠ 0 -> rd ((i : Int) + 1) = rd' ((i : Int) + 1)) -> vr rd c k = vr rd' c k
 | 0, _ => rfl
 | k + 1, h => by
  rw [vr, vr, E4 (k := k) (fun i hi => h i oM)]
  by_cases hz : c.getD k 0 = 0
  ·simp only [hz, if_true]
  simp only [hz, if_false]; rw [h k oM hz]
theorem rU {rd : Int -> Option Pg} {c : List Int} : ∀ {k : Nat} {l : List (Int × Pg)}, vr rd c k = some l -> (∀ i, i < k -> c.getD i 0 ≠ 0 -> ∃ p, rd ((i : Int) + 1) = some p /\ ((i : Int) + 1, p) ∈ l) /\ (∀ x ∈ l, rd x.1 = some x.2 /\ 1 <= x.1 /\ x.1 <= k /\ c.getD (x.1 - 1).toNat 0 ≠ 0) /\ l.length <= k
 | 0, l, h => by cases h; exact ⟨fun i hi => by omega, by simp, by simp⟩
 | k + 1, l, h => by
  rw [vr] at h;split at h
  ·cases h
  rename_i a ha;obtain ⟨h1, h2, h3⟩ := rU ha
  by_cases hz : c.getD k 0 = 0
  ·rw [ao hz] at h;cases h;refine ⟨fun i hi hn => ?_, fun x hx => ?_, oM⟩
   ·rcases qz i k with h4 | h4
    ·exact h1 i h4 hn
    have : i = k := oM;subst this; exact absurd hz hn
   obtain ⟨a1, a2, a3, a4⟩ := h2 x hx;exact ⟨a1, a2, oM, a4⟩
  rw [aj hz] at h;split at h
  ·cases h
  rename_i p hp;cases h;refine ⟨fun i hi hn => ?_, fun x hx => ?_, by simp; omega⟩
  ·rcases qz i k with h4 | h4
   ·obtain ⟨q, h5, h6⟩ := h1 i h4 hn;exact ⟨q, h5, xt _ h6⟩
   have : i = k := oM;subst this; exact ⟨p, hp, by simp⟩
  rcases gF.1 hx with hx | hx
  ·obtain ⟨a1, a2, a3, a4⟩ := h2 x hx;exact ⟨a1, a2, oM, a4⟩
  simp at hx; subst hx;exact ⟨hp, by show (1 : Int) <= (k : Int) + 1; omega, by show (k : Int) + 1 <= ((k + 1 : Nat) : Int); omega, by show c.getD ((k : Int) + 1 - 1).toNat 0 ≠ 0; rw [show ((k : Int) + 1 - 1).toNat = k by omega]; exact hz⟩
theorem IS {rd : Int -> Option Pg} {c : List Int} {k i : Nat} (hi : i < k) (hc : c.getD i 0 ≠ 0) (h : rd ((i : Int) + 1) = none) : vr rd c k = none := by
 cases hp : vr rd c k with
 | none => rfl
 | some l => obtain ⟨p, h1, -⟩ := (rU hp).1 i hi hc; rw [h] at h1; cases h1
theorem jR {s : Su} {Bk : Nat -> bW} {c : List Int} {l : List (Int × Pg)} (h : jS s Bk = some (c, l)) : nV (ir s Bk) (aL s.cf).gL.toNat = some c /\ vr (gy s Bk) c c.length = some l := by
 unfold jS at h;split at h
 ·cases h
 rename_i a ha;split at h
 ·cases h
 rename_i b hb;cases h; exact ⟨ha, hb⟩
theorem Rz {s : Su} {Bk : Nat -> bW} {c : List Int} {l : List (Int × Pg)} (hs : eI s = 0) (h : jS s Bk = some (c, l)) : (c.length : Int) = (aL s.cf).pages := by
 obtain ⟨h1, h2, h3, h4, h5, h6⟩ := kA (df hs).1;have h7 := sr (s := s) (Bk := Bk) (k := (aL s.cf).gL.toNat) (by unfold uQ at h6; omega) (jR h).1;rw [h7];unfold uQ at h6;omega
theorem J4 {s : Su} {Bk : Nat -> bW} {c : List Int} {l : List (Int × Pg)} (h : jS s Bk = some (c, l)) {n : Int} {p : Pg} (hp : (dV s.cf.refs c l).rd n = some p) : fS c n ≠ 0 /\ gy s Bk n = some p := by
 obtain ⟨-, h2⟩ := jR h;have hc : ¬ fS c n = 0 := fun h0 => by
  unfold Va.rd at hp;rw [ao (show (dV s.cf.refs c l).fL n = 0 from h0)] at hp; cases hp
 refine ⟨hc, ?_⟩;unfold Va.rd at hp;rw [aj (show ¬ (dV s.cf.refs c l).fL n = 0 from hc)] at hp
 unfold fS at hc
 by_cases ht : bG c n
 ·rw [ao ht] at hc;unfold bG at ht
  obtain ⟨q, h3, h4⟩ := (rU h2).1 (n - 1).toNat oM hc;have e : (((n - 1).toNat : Nat) : Int) + 1 = n := oM;rw [e] at h3 h4;have hfd : ∃ y, l.find? (fun x => x.1 == n) = some y := by
   cases hf : l.find? (fun x => x.1 == n) with
   | some y => exact ⟨y, rfl⟩
   | none => rw [Ts] at hf; exact (hf _ h4 sM).elim
  obtain ⟨y, hy⟩ := hfd;have hym := Tx hy;have hyn : y.1 = n := by simpa using List.find?_some hy
  have h5 := ((rU h2).2.1 y hym).1;rw [hyn] at h5;have h6 : (dV s.cf.refs c l).pg n = y.2 := by show ((l.find? fun x => x.1 == n).map (·.2)).getD eh.pg = y.2; rw [hy]; rfl
  rw [h6] at hp;cases hp;exact h5
 rw [aj ht] at hc; exact absurd rfl hc
theorem PD {V : Va} (h : V.Ok) : CG V.rd := fun n p hp => by
 unfold Va.rd at hp;split at hp
 ·cases hp
 rename_i hc;cases hp;exact LV h.toNl hc
structure eU (s : Su) (Bk : Nat -> bW) (c : List Int) (l : List (Int × Pg)) (rp : Rp) : Prop where
 sup : eI s = 0
 load : jS s Bk = some (c, l)
 ok : BU s.cf.refs c l
 whole : qs (dV s.cf.refs c l).rd c (s.roots.map (·.2)) rp 0
section
variable {s : Su} {Bk zJ : Nat -> bW} {c : List Int} {l : List (Int × Pg)} {rp : Rp}
theorem eU.YK (h : eU s Bk c l rp) : (∀ t ∈ s.roots.map (·.2), ss (dV s.cf.refs c l).rd t = 0) /\ ∃ W A, Vb (dV s.cf.refs c l).rd (dK (s.roots.map (·.2))) W A /\ Di c A := by
 rcases h.whole with ⟨-, -, h3⟩ | ⟨h1, W, A, h2, ⟨h3, -, -⟩ | ⟨-, -, h4⟩⟩
 ·cases h3
 ·exact ⟨h1, W, A, h2, h3⟩
 cases h4
theorem eU.root (h : eU s Bk c l rp) : ∀ x ∈ eP s.roots, sK (dV s.cf.refs c l).rd x := fun x hx => by
 unfold eP at hx;obtain ⟨y, hy, rfl⟩ := dE.1 hx;obtain ⟨hy, hn⟩ := Dn.1 hy;exact R4 (h.YK.1 _ (dE.2 ⟨y, hy, rfl⟩)) (by simpa using hn)
theorem eU.len (h : eU s Bk c l rp) : (c.length : Int) = (aL s.cf).pages := Rz h.sup h.load
theorem eU.R5 (h : eU s Bk c l rp) {x : CK} (hx : sK (dV s.cf.refs c l).rd x) (hp : gy s zJ x.1 = gy s Bk x.1) : ∃ k, xh s zJ x = some k /\ (∀ y ∈ k, sK (dV s.cf.refs c l).rd y) /\ k.map (·.1) = fC (dV s.cf.refs c l).rd x.1 := by
 have hr := PD (m6 h.ok);obtain ⟨p, h1, h2, h3, h4⟩ := B7 hr hx;have h5 := (J4 h.load h1).2;have h6 : ¬ ∃ k ∈ cL p, (aL s.cf).pages < k := by
  rintro ⟨k, hk, iy⟩;obtain ⟨q, h7, -⟩ := B7 hr (h4 k hk);have h8 := (J4 h.load h7).1;have h9 := h.len;refine h8 ?_;unfold fS;rw [aj];unfold bG
  show ¬ (1 <= k /\ k <= (c.length : Int))
  omega
 refine ⟨(cL p).map fun k => (k, if jU x.2 = 2 then x.2 - 1 else -1), ?_, fun y hy => ?_, ?_⟩
 ·unfold xh;rw [hp, h5];simp only;rw [aj (by rintro (h | ⟨h, h'⟩); exact h h2; exact h' (h3 h)), aj h6]
 ·obtain ⟨k, hk, rfl⟩ := dE.1 hy;exact h4 k hk
 rw [Hx];unfold fC;rw [h1]
 show (cL p).map (fun k => k) = cL p
 exact List.map_id _
def D6 (s : Su) (n : Int) : Int := (aL s.cf).first + n - 1
theorem eU.th (h : eU s Bk c l rp) {x : CK} (hx : sK (dV s.cf.refs c l).rd x) : fS c x.1 ≠ 0 /\ 1 <= x.1 /\ x.1 <= (aL s.cf).pages := by
 obtain ⟨p, h1, -⟩ := B7 (PD (m6 h.ok)) hx;have h2 := (J4 h.load h1).1;refine ⟨h2, ?_⟩;have h3 := h.len;refine qA fun hn => h2 ?_
 unfold fS;rw [aj];unfold bG
 show ¬ (1 <= x.1 /\ x.1 <= (c.length : Int))
 omega
def VH (B : Int) (Bk zJ : Nat -> bW) : Prop := ∀ i : Nat, (i : Int) ≠ B -> zJ i = Bk i
theorem VH.E5 {B : Int} (h : VH B Bk zJ) (hs : eI s = 0) {n : Int} (hn : D6 s n ≠ B) : gy s zJ n = gy s Bk n := by
 obtain ⟨h1, h2, h3, h4, h5, h6⟩ := kA (df hs).1;unfold gy
 by_cases hb : 1 <= n /\ n <= (aL s.cf).pages
 ·rw [ao hb, ao hb, h _ (by unfold D6 at hn; omega)]
 rw [aj hb, aj hb]
theorem Qm (hs : eI s = 0) {i : Nat} (hi : (i : Int) < (aL s.cf).gL) : 2 <= gH (aL s.cf) s.gen + i /\ gH (aL s.cf) s.gen + i < (aL s.cf).first := by
 obtain ⟨h1, h2, h3, h4, h5, h6⟩ := kA (df hs).1;unfold gH;split <;> omega
theorem VH.gL {B : Int} (h : VH B Bk zJ) (hs : eI s = 0) {i : Nat} (hi : (i : Int) < (aL s.cf).gL) (hn : gH (aL s.cf) s.gen + i ≠ B) : ir s zJ i = ir s Bk i := by
 have := Qm hs hi;unfold ir;rw [h _ oM]
theorem VH.abJ {B : Int} (h : VH B Bk zJ) (hs : eI s = 0) (hn : ∀ i : Nat, (i : Int) < (aL s.cf).gL -> gH (aL s.cf) s.gen + i ≠ B) : nV (ir s zJ) (aL s.cf).gL.toNat = nV (ir s Bk) (aL s.cf).gL.toNat :=
 Dd fun i hi => h.gL hs oM (hn i oM)
def mb (s : Su) (B : Int) : Prop := gH (aL s.cf) s.gen <= B /\ B < gH (aL s.cf) s.gen + (aL s.cf).gL
instance (s : Su) (B : Int) : Decidable (mb s B) := by unfold mb; infer_instance
theorem BN {B : Int} (hs : eI s = 0) (hq : ¬ kG (zJ B.toNat)) {n : Int} (hn : D6 s n = B) : gy s zJ n = none := by
 unfold gy;split
 ·unfold D6 at hn;rw [hn, MI hq]
 rfl
structure KU (s : Su) (Bk : Nat -> bW) (B : Int) (U : CK -> Prop) : Prop where
 root : ∀ x ∈ eP s.roots, U x
 inn : ∀ x, U x -> (1 <= x.1 /\ x.1 <= (aL s.cf).pages)
 bad : ∀ x, U x -> xh s Bk x = none -> D6 s x.1 = B
 T9 : ∀ x, U x -> ∀ k, xh s Bk x = some k -> ∀ y ∈ k, U y
 gL : ∀ i : Nat, (i : Int) < (aL s.cf).gL -> ir s Bk i = none -> gH (aL s.cf) s.gen + i = B
def k8 (s : Su) (c : List Int) (B : Int) : Prop := mb s B \/ fS c (B - (aL s.cf).first + 1) ≠ 0
instance (s : Su) (c : List Int) (B : Int) : Decidable (k8 s c B) := by unfold k8; infer_instance
theorem eU.at (h : eU s Bk c l rp) {B : Int} {x : CK} (hx : sK (dV s.cf.refs c l).rd x) (hB : D6 s x.1 = B) : k8 s c B := .inr (by
 have := (h.th hx).1;unfold D6 at hB;rw [show B - (aL s.cf).first + 1 = x.1 by omega]; exact this)
theorem eU.KL (h : eU s Bk c l rp) {B : Int} (hb : VH B Bk zJ) (hq : k8 s c B -> ¬ kG (zJ B.toNat)) : KU s zJ B (sK (dV s.cf.refs c l).rd) := by
 refine ⟨h.root, fun x hx => (h.th hx).2, fun x hx hk => qA fun hn => ?_, fun x hx k hk y hy => ?_, fun i hi hk => qA fun hn => ?_⟩
 ·obtain ⟨k, h1, -⟩ := h.R5 hx (hb.E5 h.sup hn);rw [hk] at h1; cases h1
 ·by_cases hn : D6 s x.1 = B
  ·have h1 := BN h.sup (hq (h.at hx hn)) hn;unfold xh at hk;rw [h1] at hk; cases hk
  obtain ⟨k', h5, h6, -⟩ := h.R5 hx (hb.E5 h.sup hn);rw [h5] at hk;cases hk;exact h6 y hy
 obtain ⟨c', RZ⟩ := nf (jR h.load).1 i oM;rw [hb.gL h.sup hi hn, RZ] at hk; cases hk
theorem eU.Na (h : eU s Bk c l rp) (B : Int) : KU s Bk B (sK (dV s.cf.refs c l).rd) := by
 refine ⟨h.root, fun x hx => (h.th hx).2, fun x hx hk => ?_, fun x hx k hk y hy => ?_, fun i hi hk => ?_⟩
 ·obtain ⟨k, h1, -⟩ := h.R5 hx rfl;rw [hk] at h1; cases h1
 ·obtain ⟨k', h5, h6, -⟩ := h.R5 hx rfl;rw [h5] at hk; cases hk;exact h6 y hy
 obtain ⟨c', RZ⟩ := nf (jR h.load).1 i oM;rw [hk] at RZ; cases RZ
def Hj (s : Su) (Bk : Nat -> bW) (W : List CK) : Prop := (∃ i : Nat, (i : Int) < (aL s.cf).gL /\ ir s Bk i = none) \/ ∃ x ∈ W, xh s Bk x = none
theorem eU.Rx (h : eU s Bk c l rp) {W : List CK} (hW : Cls (xh s Bk) (eP s.roots) W) : ¬ Hj s Bk W := by
 have hb := h.Na 0;rintro (⟨i, hi, hk⟩ | ⟨x, hx, hk⟩)
 ·obtain ⟨c', RZ⟩ := nf (jR h.load).1 i oM;rw [hk] at RZ; cases RZ
 obtain ⟨k, h1, -⟩ := h.R5 (hW.min _ hb.root hb.T9 x hx) rfl;rw [hk] at h1; cases h1
theorem eU.other (h : eU s Bk c l rp) {B : Int} (hb : VH B Bk zJ) (hn : ¬ k8 s c B) : jS s zJ = jS s Bk /\ ∀ W, Cls (xh s zJ) (eP s.roots) W -> ¬ Hj s zJ W := by
 have hn1 : ∀ i : Nat, (i : Int) < (aL s.cf).gL -> gH (aL s.cf) s.gen + i ≠ B := fun i hi e => hn (.inl (by unfold mb; omega))
 have Vz := h.KL hb fun h1 => absurd h1 hn
 refine ⟨?_, fun W hW => ?_⟩
 ·have h1 := hb.abJ h.sup hn1;obtain ⟨h2, h3⟩ := jR h.load;unfold jS;rw [h1, h2];simp only;rw [E4 (k := c.length) (rd' := gy s Bk) fun i hi hc => hb.E5 h.sup fun e => hn (.inr (by
   have hl := h.len;unfold D6 at e;rw [show B - (aL s.cf).first + 1 = (i : Int) + 1 by omega];unfold fS;rw [ao (by unfold bG; omega), show ((i : Int) + 1 - 1).toNat = i by omega];exact hc))]
 rintro (⟨i, hi, hk⟩ | ⟨x, hx, hk⟩)
 ·exact hn1 i hi (Vz.gL i hi hk)
 have hg := hW.min _ Vz.root Vz.T9 x hx;exact hn (h.at hg (Vz.bad x hg hk))
theorem eU.Ze (h : eU s Bk c l rp) {B : Int} (hb : VH B Bk zJ) (hB : k8 s c B) (hq : ¬ kG (zJ B.toNat)) : jS s zJ = none /\ ∀ W, Cls (xh s zJ) (eP s.roots) W -> Hj s zJ W := by
 obtain ⟨h2, h3⟩ := jR h.load;obtain ⟨f1, f2, f3, f4, f5, f6⟩ := kA (df h.sup).1
 by_cases xA : mb s B
 ·obtain ⟨i, hi⟩ : ∃ i : Nat, gH (aL s.cf) s.gen + i = B := ⟨(B - gH (aL s.cf) s.gen).toNat, by unfold mb at xA; omega⟩;have hib : (i : Int) < (aL s.cf).gL := by unfold mb at xA; omega
  have rI : ir s zJ i = none := by unfold ir; rw [hi, JA hq]
  refine ⟨?_, fun W hW => .inl ⟨i, hib, rI⟩⟩;unfold jS;rw [Gp (i := i) oM rI]
 have Mr := hB.resolve_left xA;have Jd : bG c (B - (aL s.cf).first + 1) := qA fun hn => Mr (by unfold fS; rw [aj hn])
 unfold fS at Mr;rw [ao Jd] at Mr
 unfold bG at Jd;have hl := h.len;obtain ⟨i, hi⟩ : ∃ i : Nat, (i : Int) + 1 = B - (aL s.cf).first + 1 := ⟨(B - (aL s.cf).first).toNat, oM⟩
 rw [<-hi] at Mr Jd;rw [show ((i : Int) + 1 - 1).toNat = i by omega] at Mr
 have Ay : D6 s ((i : Int) + 1) = B := by unfold D6; omega
 have rI := BN h.sup hq Ay;have hn1 : ∀ i : Nat, (i : Int) < (aL s.cf).gL -> gH (aL s.cf) s.gen + i ≠ B := fun j hj e => xA (by unfold mb; omega)
 refine ⟨?_, fun W hW => .inr ?_⟩
 ·unfold jS;rw [hb.abJ h.sup hn1, h2];simp only;rw [IS (i := i) oM Mr rI]
 have Vz := h.KL hb fun _ => hq
 obtain ⟨V, hV⟩ : ∃ V, V = dV s.cf.refs c l := ⟨_, rfl⟩;have hg := hW.min _ Vz.root Vz.T9;refine Classical.byContradiction fun qF => ?_
 have fx : ∀ x ∈ W, xh s zJ x ≠ none := fun x hx hk => qF ⟨x, hx, hk⟩
 obtain ⟨-, Wl, A, B1, RY⟩ := h.YK;have Ux : (i : Int) + 1 ∈ Wl := B1.sub _ (by
    have h4 := RY i (c.getD i 0) (by rw [lP, dm oM]; rfl);have h5 : A.count ((i : Int) + 1) ≠ 0 := fun h0 => Mr (by rw [<-h4, h0]; rfl)
    exact List.count_pos_iff.1 (Nat.pos_of_ne_zero h5))
 obtain ⟨lev, hx⟩ := B1.min (fun n => ∃ lev, (n, lev) ∈ W) (fun r hr => by
    unfold dK at hr;obtain ⟨hr, h0⟩ := Dn.1 hr;obtain ⟨t, ht, rfl⟩ := dE.1 hr;obtain ⟨y, hy, rfl⟩ := dE.1 ht;exact ⟨y.2.aQ - 1, hW.root _ (dE.2 ⟨y, Dn.2 ⟨hy, by simp at h0 ⊢; omega⟩, rfl⟩)⟩) (fun n ⟨lev, hx⟩ k hk => by
    have hgx := hg _ hx;have acx : D6 s n ≠ B := fun e => fx _ hx (by
     unfold xh;rw [show gy s zJ ((n, lev) : CK).1 = none from BN h.sup hq e])
    obtain ⟨kk, h6, -, h7⟩ := h.R5 hgx (hb.E5 h.sup acx)
    (try unfold sQ at hk); rw [<-h7] at hk
    obtain ⟨y, hy, rfl⟩ := dE.1 hk;exact ⟨y.2, hW.T9 _ hx _ h6 y hy⟩) _ Ux
 exact fx _ hx (by
    unfold xh;rw [show gy s zJ (((i : Int) + 1, lev) : CK).1 = none from rI])
end
def jQ (dp : Nat) (s : Su) (rv : Value) : List Value := pQ dp :: (EI s rv ++ oz (aL s.cf))
def vF (q dp : Nat) (s : Su) (rv : Value) : aw := ah q (jQ dp s rv) 157
def Nz (f : Nat) (at_ er : Int) : aw := ah f [iQ at_, .iface 41 (iQ er)] 152
theorem pM : ∃ ms, prog.underlying 143 = some (.interface ms) := Mg kR
structure Lk (s : Su) (D : Dk) : Prop where
 sup : eI s = 0
 on : D.on = true
 len : (D.fh.length : Int) = s.cf.blocks
section
variable {G : Gh} {L R : List aw} {w : World} {s : Su} {D : Dk} {q dp : Nat} {rv : Value}
theorem Lk.gen (h : Lk s D) : ∃ g : Nat, s.gen = g /\ g <= 1099511627776 := ⟨s.gen.toNat, by have := (df h.sup).2.1; omega, by have := (df h.sup).2.1; omega⟩
theorem Lk.Rj (h : Lk s D) : ∃ pn bn fn : Nat, aL s.cf = ⟨pn, bn, fn⟩ /\ pn <= 65536 /\ bn = uQ pn /\ bn <= 65536 /\ fn = 2 + 2 * bn /\ fn + pn <= D.fh.length := by
 have h1 := (df h.sup).1;obtain ⟨f1, f2, f3, f4, f5, f6⟩ := kA h1;have h2 := h.len;have h3 := h1.1;refine ⟨(aL s.cf).pages.toNat, (aL s.cf).gL.toNat, (aL s.cf).first.toNat, ?_, oM, oM, oM, oM, oM⟩;cases hp : aL s.cf with
 | mk a b c => rw [hp] at f1 f2 f3 f4; simp only at f1 f2 f3 f4 ⊢; congr 1 <;> omega
theorem GW {p : Pl} {g : Nat} : gH p g = (if ((g % 2 : Nat) : Int) = 0 then 2 else if ((g % 2 : Nat) : Int) = 1 then 2 + p.gL else 0) := by
 unfold gH
 by_cases h : (g : Int) % 2 = 0
 ·rw [ao h, ao oM]
 rw [aj h, aj oM, ao oM]
theorem xO {i : Int} (hw : an G (vF q dp s rv :: L) w) (hL : Lk s D) (hi : 0 <= i /\ i <= 65536) : Calls prog 133 #[pQ q, iQ i] w (bU fun r w' => r = iQ (gH (aL s.cf) s.gen + i) /\ an G (vF q dp s rv :: L) w') := by
 obtain ⟨g, hg, hgl⟩ := hL.gen;obtain ⟨pn, bn, fn, hp, hpn, W3, s8, Kf, Ej⟩ := hL.Rj;unfold vF at hw;refine ad (args := [_, _]) func133 rfl ntmps133 rfl rfl ?_;refine z5 ?_;refine bd [0, 1, 2, 3, 4, 5, 6, 7, 8, 11, 9, 10, 12, 13] bJ kR ?_;replace hw := hw.drawn (w.drawn + 1);refine z3 ?_;refine bt rfl rfl (ar.tL (cs := oz (aL s.cf)) cw hw pK rfl rfl) ?_;refine z3 ?_;refine cS rfl mg rfl ?_;refine lD (v := iQ s.gen) ag hw ?_;rw [hg];refine z1 ?_;refine dJ rfl GA rfl (HV (g := g) hw hgl) (fun w Sx hv q' hq => ?_) fun w Sx hv => ?_
 ·
  obtain ⟨rfl, hw⟩ := hv;have hq := bm (l := [3]) kR hq;simp only [bQ, dz, or_false] at hq;subst hq;exact bx rfl rfl rfl (ar.tL (cs := oz (aL s.cf)) cw hw pK rfl rfl)
 obtain ⟨rfl, hw⟩ := hv;refine al rfl GB rfl (HW (p := aL s.cf) hw (by rw [hp]; simp only; omega)) kR (fun w S8 hv => ?_);obtain ⟨rfl, hw⟩ := hv;rw [<-GW];have hbP : 2 <= gH (aL s.cf) (g : Int) /\ gH (aL s.cf) (g : Int) <= 65538 := by unfold gH; rw [show (aL s.cf).gL = (bn : Int) by rw [hp]]; split <;> omega
 refine z4 ?_;exact aK rfl rfl rfl ⟨rfl, hw⟩
theorem qf {i : Nat} (hw : an G (vF q dp s rv :: eL dp D :: L) w) (hL : Lk s D) (hi : i < D.fh.length) : Calls prog 134 #[pQ q, iQ i] w (bU fun r w' => ∃ sv, r = .tuple #[sv, .nilIface] /\ an G (row 5 1 sv 512 (cD (D.bK i)) :: vF q dp s rv :: eL dp D :: L) w') := by
 unfold vF at hw;refine ad (args := [_, _]) func134 rfl ntmps134 rfl rfl ?_;refine mN ?_;refine lD (v := pQ dp) Dt hw ?_;refine z1 ?_;refine al rfl zF rfl (A5 (i := i) (hw.b [eL dp D])) rfl fun w Sx hv => ?_;rcases hv with ⟨h1, -⟩ | ⟨-, h1, -⟩ | ⟨-, -, sv, rfl, hw⟩
 ·rw [hL.on] at h1; cases h1
 ·exact absurd oM h1
 rw [ez] at hw;refine yb ?_;refine aE rfl (fun h1 => ?_) fun h1 => ?_
 ·
  exact absurd rfl h1
 refine z8 ?_;exact cz rfl rfl rfl rfl ⟨sv, rfl, hw.b [row 5 1 sv _ _, ah q _ _, eL dp D]⟩
theorem nU {i : Nat} (hw : an G (vF q dp s rv :: eL dp D :: L) w) (aW : D.Ok) (hL : Lk s D) (hi : (i : Int) < (aL s.cf).gL) : Calls prog 64 #[pQ q, iQ i] w (bU fun r w' =>
  (∃ l v, ir s D.bK i = some l /\ r = .tuple #[v, .nilIface] /\ an G (row 3 1 v l.length (bg l) :: vF q dp s rv :: eL dp D :: L) w') ∨
  (∃ f er, ir s D.bK i = none /\ r = .tuple #[nQ, .iface 148 (pQ f)] /\ er ≠ 17 /\ an G (Nz f (gH (aL s.cf) s.gen + i) er :: vF q dp s rv :: eL dp D :: L) w')) := by
 obtain ⟨g, hg, hgl⟩ := hL.gen;obtain ⟨pn, bn, fn, hp, hpn, W3, s8, Kf, Ej⟩ := hL.Rj;have hib : i < bn := by rw [hp] at hi; simp only at hi; omega
 have hbk := Qm hL.sup hi;obtain ⟨ms, hI⟩ := pM;obtain ⟨at_, Ay⟩ : ∃ at_ : Nat, gH (aL s.cf) s.gen + i = at_ := ⟨(gH (aL s.cf) s.gen + i).toNat, oM⟩;have h9 : (aL s.cf).first = (fn : Int) := by rw [hp]
 have Ms : at_ < D.fh.length := oM;have hbB : ir s D.bK i = q5 g pn i (D.bK at_) := by unfold ir; rw [Ay, hg, hp, ez]
 refine ad (args := [_, _]) func64 rfl ntmps64 rfl rfl ?_;refine z9 ?_;refine al rfl wL rfl (xO (i := i) hw hL oM) rfl fun w NL hv => ?_;obtain ⟨rfl, hw⟩ := hv;rw [Ay];refine z6 ?_;refine al rfl ph rfl (qf hw hL Ms) rfl fun w v17 hv => ?_;obtain ⟨sv, rfl, hw⟩ := hv;have iv := z0 aW at_;have HD : ∀ M, aG (row 5 1 sv 512 (cD (D.bK at_)) :: M) (dP sv (D.bK at_)) := fun M => by have h := (dP.row (T := 5) (v := sv) (l := D.bK at_)).head M; rw [iv] at h; exact h
 unfold vF at hw;refine mN ?_;refine uY rfl hI rfl ?_;refine aC ?_;refine cg rfl ?_;refine z2 ?_;refine bd [0, 1, 2, 3, 4, 5, 6, 7, 8, 9, 10, 11, 12, 13, 14, 15, 16, 17] bJ kR ?_;replace hw := hw.drawn (w.drawn + 1);refine z3 ?_;refine cS rfl mg rfl ?_;refine lD (v := iQ s.gen) ag hw ?_;refine z3 ?_;refine cS rfl ry rfl ?_;refine lD (v := iQ (aL s.cf).pages) ag hw ?_;rw [hg, show (aL s.cf).pages = (pn : Int) by rw [hp]];refine z2 ?_;refine al rfl GO rfl (H8 (g := g) (pn := pn) (j := i) hw ((HD _).of sF) iv hgl hpn oM) kR fun w St hv => ?_
 (try unfold sQ at hv); rw [<-hbB] at hv
 have hz : ∃ (l : List Int) (v : Value) (er : Int) (A : aw), St = .tuple #[v, iQ er] /\ ((ir s D.bK i = some l /\ er = 0 /\ A = row 3 1 v l.length (bg l)) \/ (ir s D.bK i = none /\ er ≠ 0 /\ er ≠ 17 /\ v = nQ /\ A = aV [])) /\ an G (A :: row 5 1 sv 512 (cD (D.bK at_)) :: ah q (jQ dp s rv) 157 :: eL dp D :: L) w := by
  rcases hv with ⟨l, v, h1, h2, h3⟩ | ⟨er, h1, h2, h3, h4, h5⟩
  ·exact ⟨l, v, 0, _, h2, .inl ⟨h1, rfl, rfl⟩, h3⟩
  exact ⟨[], _, er, _, h2, .inr ⟨h1, h3, h4, rfl, rfl⟩, an.bz (M := []) h5⟩
 obtain ⟨l, v, er, A, rfl, hA, hw⟩ := hz;refine yb ?_;refine aE rfl (fun h2 => ?_) fun h2 => ?_
 ·
  refine z4 ?_;refine qK rfl eH sM rfl ?_;refine aO (v := .agg #[iQ at_, .iface 41 (iQ er)]) rfl rfl (fun w => kR) ?_;refine a9 rfl rfl rfl hw rfl fun w b45 hw => ?_;refine qK rfl kf sM rfl ?_;refine z4 ?_;exact cz rfl rfl rfl rfl (by
 obtain ⟨h3, h4, h5, rfl, rfl⟩ := hA.resolve_left (fun h => h2 h.2.1);refine .inr ⟨b45, er, h3, rfl, h5, ?_⟩;exact (hw.b [aV [], row 5 1 sv _ _, ah b45 _ _]).tail.tail)
 refine z8 ?_;exact cz rfl rfl rfl rfl (by
 obtain ⟨h3, h4, rfl⟩ := hA.resolve_right (fun h => h2 h.2.1);exact .inl ⟨l, v, h3, rfl, (hw.b [row 5 1 sv _ _]).tail⟩)
end
section
variable {P : Program} {n : Nat} {ops : Array Oper} {dr : Bool} {done r : List Nat} {K : fm -> World -> Prop} {e : fm} {w : World} {i d : Nat} {t : TypeId} {p : String} {af : Array Edge} {g : Option (Nat × Bool)} {s u : TypeId} {x : Operand} {v : Value}
theorem Bw {ms : Array (String × TypeId)} {b : Bool} (ho : ops[i]? = some ⟨some d, .binOp .neq s x (.const .nilIface) u, t, p, af, g⟩) (hs : P.underlying s = some (.interface ms)) (hx : ev e x = some v) (hv : (v = .nilIface /\ b = false) \/ (∃ T z, v = .iface T z) /\ b = true)
  (h : XL P n ops dr (i :: done) r K ((d, .bool b) :: e) w) (hd : Nat.blt d n = true := by exact rfl) (hg : Gd ops e g := by first | trivial | exact ⟨_, rfl, rfl⟩) : XL P n ops dr done (i :: r) K e w := by
 rcases hv with ⟨rfl, rfl⟩ | ⟨⟨T, z, rfl⟩, rfl⟩
 ·exact uY (hd := hd) (hg := hg) ho hs hx h
 exact YY (hd := hd) (hg := hg) ho hs hx h
end
theorem yW {G : Gh} {L : List aw} {w : World} {s : Su} {q dp : Nat} {rv : Value} (h : an G (ah q (jQ dp s rv) 157 :: L) w) : an G (vF q dp s rv :: L) w := h
def Pb (ev : Value) (A : aw) : Prop := (∃ (f : Nat) (at_ er : Int), ev = .iface 148 (pQ f) /\ er ≠ 17 /\ A = Nz f at_ er) \/ (∃ er : Int, ev = .iface 41 (iQ er) /\ er ≠ 17 /\ A = aV [])
section
variable {G : Gh} {L R : List aw} {w : World} {s : Su} {D : Dk} {q dp : Nat} {rv : Value}
theorem qX {n : Nat} (hw : an G (vF q dp s rv :: eL dp D :: L) w) (aW : D.Ok) (hL : Lk s D) (hn : 1 <= n /\ (n : Int) <= (aL s.cf).pages) : Calls prog 127 #[pQ q, iQ n] w (bU fun r w' =>
  (∃ p : bT, gy s D.bK n = some p.pg /\ r = .tuple #[gQ p.cells, .nilIface] /\ p.Sm /\ an G (cB p :: vF q dp s rv :: eL dp D :: L) w') ∨
  (∃ f er, gy s D.bK n = none /\ r = .tuple #[gQ eh.cells, .iface 148 (pQ f)] /\ er ≠ 17 /\ an G (Nz f (D6 s n) er :: vF q dp s rv :: eL dp D :: L) w')) := by
 obtain ⟨g, hg, hgl⟩ := hL.gen;obtain ⟨pn, bn, fn, hp, hpn, W3, s8, Kf, Ej⟩ := hL.Rj;have Bu : (aL s.cf).pages = (pn : Int) := by rw [hp]
 have Ns : (aL s.cf).first = (fn : Int) := by rw [hp]
 obtain ⟨ms, hI⟩ := pM;obtain ⟨at_, Ay⟩ : ∃ at_ : Nat, (aL s.cf).first + (n : Int) - 1 = at_ := ⟨((aL s.cf).first + (n : Int) - 1).toNat, oM⟩
 have abB : D6 s n = at_ := Ay;have Ms : at_ < D.fh.length := oM;have WQ : gy s D.bK n = match xC n (D.bK at_) with | some (p, g) => if g <= s.gen then some p else none | none => none := by
  unfold gy;rw [ao ⟨oM, hn.2⟩, Ay, ez] <;> (cases xC n (D.bK at_) <;> rfl)
 unfold vF at hw;refine ad (args := [_, _]) func127 rfl ntmps127 rfl rfl ?_;refine z2 ?_;refine aF rfl bE hw rfl fun w b4 hw => ?_;refine z7 ?_;refine bt rfl rfl (ar.tL (cs := oz (aL s.cf)) cw hw pK rfl rfl) ?_;refine z1 ?_;refine al rfl uf rfl (we (p := aL s.cf) (n := n) hw oM) rfl fun w Sw hv => ?_;obtain ⟨h0, hw⟩ := hv;obtain ⟨-, rfl⟩ := h0.resolve_left (fun h => h.1 ⟨oM, hn.2⟩);rw [Ay];refine mN ?_;have hb := hw.b [ah q _ _, eL dp D]; refine jG rfl rfl ?_;refine aC ?_;refine di rfl (fun h1 => ?_) fun h1 => ?_
 ·
  cases h1
 refine z5 ?_;refine al rfl ph rfl (qf (s := s) (rv := rv) (yW hb) hL Ms) rfl fun w S7 hv => ?_;obtain ⟨sv, rfl, hw⟩ := hv;have iv := z0 aW at_;have HD : ∀ M, aG (row 5 1 sv 512 (cD (D.bK at_)) :: M) (dP sv (D.bK at_)) := fun M => by have h := (dP.row (T := 5) (v := sv) (l := D.bK at_)).head M; rw [iv] at h; exact h
 unfold vF at hw;refine mN ?_;refine uY rfl hI rfl ?_;refine aC ?_;refine cg rfl ?_;refine z5 ?_;refine al rfl DX rfl (Gg (no := n) (bb := D.bK at_) hw ((HD _).of sF) iv oM) rfl fun w Hu hv => ?_;have hz : ∃ (p : bT) (gen er : Int) (A : aw), Hu = .tuple #[gQ p.cells, iQ gen, iQ er] /\ iR p.cells /\ (0 <= gen /\ gen <= 1099511627776) /\ ((xC n (D.bK at_) = some (p.pg, gen) /\ er = 0 /\ p.Sm /\ A = cB p) \/ (xC n (D.bK at_) = none /\ er ≠ 0 /\ er ≠ 17 /\ A = aV [])) /\ an G (A :: row 5 1 sv 512 (cD (D.bK at_)) :: ah q (jQ dp s rv) 157 :: eL dp D :: ah b4 [iQ 0, iQ 0, nQ, nQ, iQ 0] 104 :: L) w := by
  rcases hv with ⟨p, gen, h1, h2, h3, h4, h5⟩ | ⟨er, h1, h2, h3, h4, h5⟩
  ·exact ⟨p, gen, 0, _, h3, dX (aS h4 .here) h5, oM, .inl ⟨h1, rfl, h4, rfl⟩, h5.b [cB p, row 5 1 sv _ _, ah q _ _, eL dp D, ah b4 _ _]⟩
  exact ⟨eh, 0, er, _, h2, cT, oM, .inr ⟨h1, h3, h4, rfl⟩, an.bz (M := []) (h5.b [row 5 1 sv _ _, ah q _ _, eL dp D, ah b4 _ _])⟩
 obtain ⟨p, gen, er, A, rfl, jd, ad8, hA, hw⟩ := hz;refine z4 ?_;refine aF rfl bE hw rfl fun w rF hw => ?_;refine aT (cs := p.cells) (l' := p.cells) rfl tV rfl rfl ae rfl jd hw pK (by simp [bT.cells]) rfl rfl fun w hw => ?_;refine z9 ?_;refine ay (d := 48) rfl (fun h3 => ?_) fun h3 => ?_
 ·
  refine z2 ?_;refine Bx rfl rfl ?_;refine z1 ?_;refine cS rfl mg rfl ?_;refine lD (v := iQ s.gen) ag hw ?_;refine z3 ?_;refine aE rfl (fun h4 => ?_) fun h4 => ?_
  ·
   refine z9 ?_;refine aE rfl (fun h5 => ?_) fun h5 => ?_
   ·
    refine z2 ?_;refine aO (v := gQ eh.cells) rfl rfl (fun w => kR) ?_;refine z2 ?_;refine qK rfl eH sM rfl ?_;refine aO (v := .agg #[iQ at_, .iface 41 (iQ 25)]) rfl rfl (fun w => kR) ?_;refine a9 rfl rfl rfl hw rfl fun w b64 hw => ?_;refine qK rfl kf sM rfl ?_;refine aT (cs := eh.cells) (l' := eh.cells) rfl tV rfl rfl ae rfl cT hw pK (by simp [eh, bT.cells]) rfl rfl fun w hw => ?_;refine z3 ?_;exact cz rfl rfl ⟨_, rfl, (ar.cU (l := eh.cells) ae hw pK rfl)⟩ rfl (by
      obtain ⟨h8, -, uV, rfl⟩ := hA.resolve_right (fun h => h.2.1 h3);refine .inr ⟨b64, 25, by rw [WQ, h8]; exact aj oM, rfl, by decide, ?_⟩;rw [abB];exact (hw.b [cB p, row 5 1 sv _ _, ah b4 _ _, ah rF _ _, ah b64 _ _, ah q _ _, eL dp D]).tail.tail.tail.tail)
   exact absurd dM h5
  refine z7 ?_;refine aE rfl (fun h6 => ?_) fun h6 => ?_
  ·
   exact absurd h3 h6
  refine z3 ?_;refine lA (l := p.cells) ae hw ?_;refine aT (cs := p.cells) (l' := p.cells) rfl tV rfl rfl ae rfl jd hw pK (by simp [eh, bT.cells]) rfl rfl fun w hw => ?_;refine z3 ?_;exact cz rfl rfl ⟨_, rfl, (ar.cU (l := p.cells) ae hw pK rfl)⟩ rfl (by
      obtain ⟨h8, -, uV, rfl⟩ := hA.resolve_right (fun h => h.2.1 h3);refine .inl ⟨p, by rw [WQ, h8]; exact ao oM, rfl, uV, ?_⟩;exact (hw.b [row 5 1 sv _ _, ah b4 _ _, ah rF _ _, cB p, ah q _ _, eL dp D]).tail.tail.tail)
 refine z9 ?_;refine cg rfl ?_;refine z7 ?_;refine aE rfl (fun h7 => ?_) fun h7 => ?_
 ·
  refine z2 ?_;refine aO (v := gQ eh.cells) rfl rfl (fun w => kR) ?_;refine z2 ?_;refine qK rfl eH sM rfl ?_;refine aO (v := .agg #[iQ at_, .iface 41 (iQ er)]) rfl rfl (fun w => kR) ?_;refine a9 rfl rfl rfl hw rfl fun w b64 hw => ?_;refine qK rfl kf sM rfl ?_;refine aT (cs := eh.cells) (l' := eh.cells) rfl tV rfl rfl ae rfl cT hw pK (by simp [eh, bT.cells]) rfl rfl fun w hw => ?_;refine z3 ?_;exact cz rfl rfl ⟨_, rfl, (ar.cU (l := eh.cells) ae hw pK rfl)⟩ rfl (by
     obtain ⟨h8, h9, uV, rfl⟩ := hA.resolve_left (fun h => h3 h.2.1);refine .inr ⟨b64, er, by rw [WQ, h8], rfl, uV, ?_⟩;rw [abB];exact (hw.b [aV [], row 5 1 sv _ _, ah b4 _ _, ah rF _ _, ah b64 _ _, ah q _ _, eL dp D]).tail.tail.tail.tail)
 exact absurd h7 oM
theorem Gl {er : Int} (hw : an G L w) : Calls prog 128 #[iQ er] w (bU fun r w' => ((er = 0 /\ r = .nilIface) \/ (er ≠ 0 /\ r = .iface 41 (iQ er))) /\ an G L w') := by
 refine ad (args := [_]) func128 rfl ntmps128 rfl rfl ?_;refine mN ?_;refine aE rfl (fun h1 => ?_) fun h1 => ?_
 ·
  refine z5 ?_;exact aK rfl rfl rfl ⟨.inl ⟨h1, rfl⟩, hw⟩
 refine z4 ?_;refine qK rfl eH sM rfl ?_;refine z3 ?_;exact aK rfl rfl rfl ⟨.inr ⟨h1, rfl⟩, hw⟩
end
theorem C8 {a b : Int} (h : a ≠ 17) (h' : b ≠ 17) : fst a b ≠ 17 := by unfold fst; split <;> assumption
theorem yh {q : Prop} [Decidable q] {e : Int} (h : e ≠ 17) : vA q e ≠ 17 := by unfold vA; split; decide; assumption
theorem WE {kind : Int} {i : Nat} {cV : bW} {x : It} : yi kind i cV x ≠ 17 := by
 refine C8 ?_ (C8 ?_ (C8 ?_ ?_))
 ·unfold s6; split <;> exact yh dM
 ·unfold yS; split; decide; exact yh dM
 ·unfold yO; split
  ·exact yh dM
  refine C8 (yh dM) ?_;split <;> exact yh dM
 unfold Cs; split
 ·exact yh dM
 split <;> exact yh dM
theorem Md {kind : Int} : ∀ {l : List It} {i : Nat} {cV : bW}, il kind i cV l ≠ 17
 | [], i, cV => by unfold il; decide
 | x :: r, i, cV => C8 WE Md
theorem UZ {p : Pg} : cM p ≠ 17 := C8 (C8 (yh dM) (yh dM)) (C8 Md (yh dM))
theorem PL {c : List Int} : ∀ {l : List (Int × Pg)} {seen : List Int}, oS c seen l ≠ 17
 | [], seen => by unfold oS; omega
 | x :: r, seen => by
  rw [oS];split
  ·omega
  split
  ·omega
  split
  ·exact UZ
  exact PL
theorem VV {refs : Int} {c : List Int} {l : List (Int × Pg)} : qL refs c l ≠ 17 := by
 unfold qL;split
 ·unfold qN; split
  ·omega
  split <;> omega
 split
 ·exact PL
 split <;> omega
section
variable {G : Gh} {L R : List aw} {w : World} {s : Su} {D : Dk} {q dp : Nat} {rv : Value}
theorem A0 (hw : an G (vF q dp s rv :: eL dp D :: L) w) (aW : D.Ok) (hL : Lk s D) : Calls prog 60 #[pQ q] w (bU fun r w' =>
  (∃ c l vq, jS s D.bK = some (c, l) /\ BU s.cf.refs c l /\ r = .tuple #[pQ vq, .nilIface] /\ an G (cj vq (dV s.cf.refs c l) :: vF q dp s rv :: eL dp D :: L) w') ∨
  (∃ ev A, (∀ c l, jS s D.bK = some (c, l) -> ¬ BU s.cf.refs c l) /\ r = .tuple #[.pointer none, ev] /\ Pb ev A /\ an G (A :: vF q dp s rv :: eL dp D :: L) w')) := by
 obtain ⟨pn, bn, fn, hp, hpn, W3, s8, Kf, Ej⟩ := hL.Rj;have Bu : (aL s.cf).pages = (pn : Int) := by rw [hp]
 have Ns : (aL s.cf).gL = (bn : Int) := by rw [hp]
 have aee : bn * 240 <= pn + 239 := by rw [W3]; unfold uQ; omega
 obtain ⟨ms, hI⟩ := pM;have rI : ∀ {k : Nat}, k < bn -> ir s D.bK k = none -> ∀ c l, jS s D.bK = some (c, l) -> ¬ BU s.cf.refs c l := fun {k} hk hb c l h => by
  unfold jS at h;rw [Gp (i := k) oM hb] at h; cases h
 unfold vF at hw;refine ad (args := [_]) func60 rfl ntmps60 rfl rfl ?_;refine z15 ?_;refine cS rfl ru rfl ?_;refine lD (v := iQ (aL s.cf).gL) ag hw ?_;rw [Ns];refine z3 ?_;have hw := bI hw 3 1;refine bF (fun m e w => ∃ (k : Nat) (c : List Int) (u : Value), k <= bn /\ m = bn - k /\ e = [(0, pQ q), (4, u), (19, iQ bn), (20, iQ k)] /\ nV (ir s D.bK) k = some c /\ an G (row 3 1 u c.length (bg c) :: ah q (jQ dp s rv) 157 :: eL dp D :: L) w)
  (m := bn) sB
  ⟨0, [], _, dy _, rfl, rfl, rfl, hw⟩ ?_
 rintro m e w ⟨k, c, u, hk, rfl, rfl, hc, hw⟩;refine z5 ?_;refine aE rfl (fun h1 => ?_) fun h1 => ?_
 ·
  have gK : k < bn := oM;have gN : c.length <= 65536 := by
   have := sr (s := s) (Bk := D.bK) (k := k) (by rw [Bu]; omega) hc;rw [Bu] at this; omega
  have hb := yW (hw.b [ah q _ _, eL dp D]);refine yb ?_;refine al rfl mS rfl (nU (i := k) hb aW hL (by rw [Ns]; omega)) rfl (fun w Zb hv => ?_);have hz : ∃ (l : List Int) (v ev : Value) (b : Bool) (A : aw), Zb = .tuple #[v, ev] /\ (ev = .nilIface /\ b = false \/ (∃ T z, ev = .iface T z) /\ b = true) /\ ((ir s D.bK k = some l /\ b = false /\ A = row 3 1 v l.length (bg l)) \/ (ir s D.bK k = none /\ b = true /\ Pb ev A)) /\ an G (A :: ah q (jQ dp s rv) 157 :: eL dp D :: row 3 1 u c.length (bg c) :: L) w := by
   unfold vF at hv;rcases hv with ⟨l, v, h1, rfl, h2⟩ | ⟨f, er, h1, rfl, h3, h2⟩
   ·exact ⟨l, v, _, false, _, rfl, .inl ⟨rfl, rfl⟩, .inl ⟨h1, rfl, rfl⟩, h2⟩
   exact ⟨[], _, _, true, _, rfl, .inr ⟨⟨_, _, rfl⟩, rfl⟩, .inr ⟨h1, rfl, .inl ⟨f, _, er, rfl, h3, rfl⟩⟩, h2⟩
  obtain ⟨l, v, ev, b, A, rfl, Oz, hA, hw⟩ := hz;refine mN ?_;refine Bw rfl hI rfl Oz ?_;refine aC ?_;refine di rfl (fun h2 => ?_) fun h2 => ?_
  ·
   refine z7 ?_;exact cz rfl rfl rfl rfl (by
 obtain ⟨h3, -, h4⟩ := hA.resolve_left (fun h => by rw [h.2.1] at h2; cases h2);refine .inr ⟨ev, A, rI gK h3, rfl, h4, ?_⟩;exact (hw.b [row 3 1 u _ _, A, ah q _ _, eL dp D]).tail)
  obtain ⟨h3, -, rfl⟩ := hA.resolve_right (fun h => by rw [h.2.1] at h2; cases h2);have nM := (CC h3).1;have ad0 : l.length <= 240 := by rw [nM]; unfold Vg; omega
  refine z4 ?_;refine Bz (m := c.length) (rs := l.map fun c => [iQ c]) rfl bp cm ni gZ rfl rfl hw pK (((Yl _ _).of sF).at hw) (by rw [<-rY]; intro u hu; obtain ⟨c, _, rfl⟩ := dE.1 hu; rfl) (by rw [bX]; simp only [maxLen]; omega) (by rw [bX]; omega) rfl (fun w X' hw => ?_);rw [bX, <-rY] at hw;refine z6 ?_;have hz := (hw.b [row 3 1 v _ _, row 3 1 X' _ _, ah q _ _, eL dp D]).tail;have e1 : bg c ++ bg l = bg (c ++ l) := by simp [bg]
  rw [e1, <-de] at hz;refine ⟨bn - (k + 1), oM, [(0, _), (4, _), (19, _), (20, iQ (k + 1 : Nat))], sB, k + 1, c ++ l, _, oM, rfl, rfl, ?_, hz⟩;rw [nV, hc, h3]
 have pA : k = bn := oM;subst pA;have gN : c.length <= 65536 := by
  have := sr (s := s) (Bk := D.bK) (k := k) (by rw [Bu]; omega) hc;rw [Bu] at this; omega
 have hcp : c.length = pn := by
  have := sr (s := s) (Bk := D.bK) (k := k) (by rw [Bu]; omega) hc;rw [Bu] at this;rw [W3] at this; unfold uQ at this; omega
 have Aw : jS s D.bK = (vr (gy s D.bK) c c.length).map fun l => (c, l) := by
  unfold jS;rw [Ns, ez, hc]
  show (match vr (gy s D.bK) c c.length with | none => none | some l => some (c, l)) = _
  cases vr (gy s D.bK) c c.length <;> rfl
 obtain ⟨wa, wc, rfl⟩ := aP hw;refine VI ?_;have hw := bI hw 106 6;have hw := an.bz (M := ([] : List bT).map cB) hw;have hw := hw.b [row 106 _ _ _ _, aV _, row 3 _ _ _ _, ah q _ _, eL dp D];refine bF (fun m e w => ∃ (k : Nat) (lp : List (Int × bT)) (v : Value), k <= c.length /\ m = c.length - k /\ e = [(0, pQ q), (4, .slice wa c.length wc), (8, v), (36, .slice wa c.length wc), (37, iQ c.length), (38, iQ k)] /\ (vr (gy s D.bK) c k = some (s0 lp) /\ (∀ x ∈ lp, x.2.Sm) /\ lp.length <= k) /\ an G (row 106 6 v lp.length (lp.map um).flatten :: oy (lp.map (·.2)) :: row 3 1 (.slice wa c.length wc) c.length (bg c) :: ah q (jQ dp s rv) 157 :: eL dp D :: L) w)
  (m := c.length) sB
  ⟨0, [], _, dy _, rfl, rfl, ⟨rfl, (fun x hx => by cases hx), g8 _⟩, hw⟩ ?_
 rintro m e w ⟨j, lp, v, hj, rfl, rfl, ⟨tW, B0, nM⟩, hw⟩;refine z5 ?_;refine aE rfl (fun h3 => ?_) fun h3 => ?_
 ·
  have Jh : j < c.length := oM;obtain ⟨x, hx⟩ : ∃ x, c[j]? = some x := ⟨_, dm Jh⟩;have hxd : c.getD j 0 = x := by rw [lP, hx]; rfl
  have iT : aG (row 3 1 (.slice wa c.length wc) c.length (bg c) :: ah q (jQ dp s rv) 157 :: eL dp D :: L) (qx (.slice wa c.length wc) (bg c)) := uk;obtain ⟨bb, oo, rfl⟩ := ((iT.of sF).at hw).nn (by rw [bC]; omega);have hb := yW (hw.b [ah q _ _, eL dp D]);refine z6 ?_;refine cR rfl bp cm rfl rfl ⟨oM, oM⟩ ?_;refine bt rfl rfl (ar.one ag (((iT.of sF).at hw).at (by rw [ez]; exact Ee hx))) ?_;refine z9 ?_;refine aE rfl (fun h4 => ?_) fun h4 => ?_
  ·
   refine z5 ?_;refine ⟨c.length - (j + 1), oM, [(0, _), (4, _), (8, _), (36, _), (37, _), (38, iQ (j + 1 : Nat))], sB, j + 1, lp, _, oM, rfl, rfl, ⟨?_, B0, oM⟩, hw⟩;rw [vr, tW];exact ao (by rw [hxd]; exact h4)
  refine z6 ?_;refine al rfl qm rfl (qX (n := j + 1) hb aW hL (by rw [Bu]; omega)) rfl (fun w X8 hv => ?_);have hz : ∃ (p : bT) (ev : Value) (b : Bool) (A : aw), X8 = .tuple #[gQ p.cells, ev] /\ iR p.cells /\ (ev = .nilIface /\ b = false \/ (∃ T z, ev = .iface T z) /\ b = true) /\ ((gy s D.bK ((j + 1 : Nat) : Int) = some p.pg /\ b = false /\ p.Sm /\ A = cB p) \/ (gy s D.bK ((j + 1 : Nat) : Int) = none /\ b = true /\ Pb ev A)) /\ an G (A :: ah q (jQ dp s rv) 157 :: eL dp D :: row 106 6 v lp.length (lp.map um).flatten :: oy (lp.map (·.2)) :: row 3 1 (.slice (some ⟨bb, oo, none⟩) c.length wc) c.length (bg c) :: L) w := by
   unfold vF at hv;rcases hv with ⟨p, h1, rfl, h3, h2⟩ | ⟨f, er, h1, rfl, h3, h2⟩
   ·exact ⟨p, _, false, _, rfl, dX (aS h3 .here) h2, .inl ⟨rfl, rfl⟩, .inl ⟨h1, rfl, h3, rfl⟩, h2⟩
   exact ⟨eh, _, true, _, rfl, cT, .inr ⟨⟨_, _, rfl⟩, rfl⟩, .inr ⟨h1, rfl, .inl ⟨f, _, er, rfl, h3, rfl⟩⟩, h2⟩
  obtain ⟨p, ev, b, A, rfl, jd, Oz, hA, hw⟩ := hz;refine z3 ?_;refine aF rfl bE hw rfl fun w mB hw => ?_;refine aT (cs := p.cells) (l' := p.cells) rfl tV rfl rfl ae rfl jd hw pK (by simp [bT.cells]) rfl rfl fun w hw => ?_;refine z6 ?_;refine Bw rfl hI rfl Oz ?_;refine aC ?_;refine di rfl (fun h5 => ?_) fun h5 => ?_
  ·
   refine z7 ?_;exact cz rfl rfl rfl rfl (by
 obtain ⟨h6, -, h7⟩ := hA.resolve_left (fun h => by rw [h.2.1] at h5; cases h5);refine .inr ⟨ev, A, fun c' l' h => ?_, rfl, h7, ?_⟩
 ·rw [Aw, IS (i := j) Jh (by rw [hxd]; exact h4) h6] at h; cases h
 ·exact (hw.b [ah mB _ _, row 106 _ _ _ _, oy _, row 3 _ _ _ _, A, ah q _ _, eL dp D]).tail.tail.tail.tail)
  obtain ⟨h6, -, h7, rfl⟩ := hA.resolve_right (fun h => by rw [h.2.1] at h5; cases h5);refine z5 ?_;refine lA (l := p.cells) ae hw ?_;refine aO (v := .agg (um (((j + 1 : Nat) : Int), p)).toArray) rfl rfl (fun w => kR) ?_;refine fG (cs := um (((j + 1 : Nat) : Int), p)) rfl jA oC tN dM rfl rfl rfl hw kR fun w b60 hw => ?_;refine fH (m := lp.length) (k := 1) (news := um (((j + 1 : Nat) : Int), p)) rfl jA oC D5 tN rfl rfl hw pK (Rd.jE hw pK) rfl (by intro u hu; rcases bQ.1 hu with rfl | hu; rfl; exact dX (aS h7 pK) hw u hu) mL oM kR (fun w v61 hw => ?_);refine z6 ?_;have hw := an.gp (hw.b [oy _, cB p]);have hz := (hw.b [ah b60 _ _, ah mB _ _, row 106 _ _ _ _, aV _, row 3 _ _ _ _, ah q _ _, eL dp D]).tail.tail;have hee : (lp.map (·.2)).map cB ++ [cB p] = ((lp ++ [(((j + 1 : Nat) : Int), p)]).map (·.2)).map cB := by simp
  have hen : (lp.map um).flatten ++ um (((j + 1 : Nat) : Int), p) = ((lp ++ [(((j + 1 : Nat) : Int), p)]).map um).flatten := by simp
  have hel : lp.length + 1 = (lp ++ [(((j + 1 : Nat) : Int), p)]).length := by simp
  rw [hee, hen, hel] at hz;refine ⟨c.length - (j + 1), oM, [(0, _), (4, _), (8, _), (36, _), (37, _), (38, iQ (j + 1 : Nat))], sB, j + 1, lp ++ [(((j + 1 : Nat) : Int), p)], _, oM, rfl, rfl, ⟨?_, ?_, by simp; omega⟩, hz⟩
  ·rw [vr, tW]
   show (if c.getD j 0 = 0 then some (s0 lp) else _) = _
   rw [aj (by rw [hxd]; exact h4), show ((j : Int) + 1) = ((j + 1 : Nat) : Int) by simp, h6];simp [s0]
  intro y hy;rcases gF.1 hy with hy | hy
  ·exact B0 y hy
  simp at hy; subst hy; exact h7
 have Vu : j = c.length := oM;subst Vu;rw [tW] at Aw;refine z6 ?_;refine cS rfl vM rfl ?_;refine cS rfl tY rfl ?_;refine lD (v := iQ s.cf.refs) ag hw ?_;have hkn : ∀ R, aG (row 106 6 v lp.length (lp.map um).flatten :: R) (g7 6 v (lp.map um)) := fun R => (g7.row sM (Zu lp)).head R
 refine z2 ?_;refine al rfl Gz rfl (HU (c := c) (l := lp) hw (uk.of sF) oM ((hkn _).of sF) (fun x hx => vd (S := lp.map (·.2)) (dE.2 ⟨_, hx, rfl⟩) (B0 x hx) pK) oM) rfl fun w v72 hv => ?_;have KZ : ∃ (pp : Option Addr) (er : Int) (A : aw), v72 = .tuple #[.pointer pp, iQ er] /\ er ≠ 17 /\ ((er ≠ 0 /\ ¬ BU s.cf.refs c (s0 lp) /\ pp = none /\ A = aV []) \/ (er = 0 /\ BU s.cf.refs c (s0 lp) /\ ∃ vq, pp = some ⟨vq, 0, none⟩ /\ A = cj vq (dV s.cf.refs c (s0 lp)))) /\ an G (A :: row 106 6 v lp.length (lp.map um).flatten :: oy (lp.map (·.2)) :: row 3 1 (.slice wa c.length wc) c.length (bg c) :: ah q (jQ dp s rv) 157 :: eL dp D :: L) w := by
  rcases hv with ⟨h2, h3, h4⟩ | ⟨h2, vq, pq, om, cv, lv, fq, fv, on, h3, h4, h5, h6⟩
  ·exact ⟨none, _, aV [], h3, VV, .inl ⟨h2, fun h => h2 (S6.2 h), rfl, rfl⟩, an.bz (M := []) h4⟩
  have aW := S6.1 h2;have h7 := I4 (fun x hx => (rT aW.1 x hx).1) h5 h6;rw [h4] at h7;exact ⟨_, 0, _, h3, oM, .inr ⟨rfl, aW, vq, rfl, rfl⟩, h7⟩
 obtain ⟨pp, er, A, rfl, SC, iT, hw⟩ := KZ;refine mN ?_;refine al rfl D0 rfl (Gl (er := er) hw) rfl fun w v77 hv => ?_;obtain ⟨PZ, hw⟩ := hv;refine z4 ?_;exact cz rfl rfl rfl rfl (by
 have hz := (hw.b [row 106 _ _ _ _, oy _, row 3 _ _ _ _, A, ah q _ _, eL dp D]).tail.tail.tail;rcases iT with ⟨h4, h5, rfl, rfl⟩ | ⟨h4, h5, vq, rfl, rfl⟩
 ·obtain ⟨-, rfl⟩ := PZ.resolve_left (fun h => h4 h.1);refine .inr ⟨_, _, fun c' l' h => ?_, rfl, .inr ⟨er, rfl, SC, rfl⟩, hz⟩;rw [Aw] at h; cases h; exact h5
 ·obtain ⟨-, rfl⟩ := PZ.resolve_right (fun h => h.1 h4);exact .inl ⟨c, _, vq, by rw [Aw]; rfl, h5, rfl, hz⟩)
end
section
open Go.RowKit Go.Extern.Stop Go.Stop Go.Extern
theorem U6 : prog.underlying 150 = some (.pointer 148) := by kernel_rfl
theorem adj : prog.underlying 251 = some (.pointer 41) := by kernel_rfl
theorem U_e : prog.underlying 41 = some (.int .i64) := by kernel_rfl
theorem afi : prog.underlying 148 = some (.pointer 152) := by kernel_rfl
theorem GX (h : Value) (w : World) : (Go.method 573 323 (.agg #[h]) "Kind").run prog w = .ok (371, h) w := by kernel_rfl
theorem GZ (h : Value) (w : World) : (Go.method 573 323 (.agg #[h]) "Elem").run prog w = .ok (385, .agg #[h]) w := by kernel_rfl
theorem GY (h : Value) (w : World) : (Go.method 573 323 (.agg #[h]) "Implements").run prog w = .ok (386, .agg #[h]) w := by kernel_rfl
theorem G0 (h : Value) (w : World) : (Go.method 573 323 (.agg #[h]) "AssignableTo").run prog w = .ok (383, .agg #[h]) w := by kernel_rfl
theorem KM (z : Sem Value) (f : TypeId -> Addr -> Nat -> Nat -> Sem Value) (v : Value) :
  ReflectliteValue.method z f #[v] = (do match <-ReflectliteValue.parts v with | none => z | some (t, a, fl) => f t a fl (fl % 32)) := rfl
theorem U3 (v x : Value) : ReflectliteValue.set #[v, x] = (do
  let (some (dst, a, fl), some (src, b, _)) := (<-ReflectliteValue.parts v, <-ReflectliteValue.parts x)
   | unsupported (.noEntry "extern/(internal/reflectlite.Value).Set.zeroValue")
  if fl / ReflectliteValue.flagAddr % 2 == 0 then unsupported (.noEntry "extern/(internal/reflectlite.Value).Set.unaddressable")
  let val <-loadVar src b
  if <-Rtype.directlyAssignable dst src then storeVar dst a val
  else if <-Rtype.implements dst src then
   if (<-Rtype.kind src) == 20 then
    match val with
    | .nilIface => unsupported (.noEntry "extern/reflectlite: a nil value of one interface type handed on as a value of another")
    | _ => storeVar dst a val
   else storeVar dst a (.iface src val)
  else panicString ("reflectlite.Set: value of type " ++ (<-Rtype.spelt src) ++ " is not assignable to type " ++ (<-Rtype.spelt dst))
  pure (.tuple #[])) := rfl
theorem Xu (t : Addr) (w : World) : (ReflectliteValue.unpack (.iface 150 (.pointer (some t)))).run prog w = .ok (.agg #[.pointer (some ⟨3, 150, none⟩), .pointer (some ⟨w.heap.size, 0, none⟩), .int .u64 150]) (w.alloc (.cells #[.pointer (some t)] 150)) := by kernel_rfl
theorem Xw (a : Addr) (w : World) : (ReflectliteValue.methodAny (ReflectliteValue.valueError "reflectlite.Value.Type" 0) (fun t _ _ _ => ReflectliteType.toType t) #[.agg #[.pointer (some ⟨3, 150, none⟩), .pointer (some a), .int .u64 150]]).run prog w = .ok (.iface 323 (.agg #[.pointer (some ⟨3, 150, none⟩)])) w := by kernel_rfl
theorem XJ (w : World) : ((ReflectliteType.abiMethod fun t => (fun a : Nat => Value.int IntKind.u8 (a : Int)) <$> Rtype.kind t) #[.pointer (some ⟨3, 150, none⟩)]).run prog w = .ok (.int .u8 22) w := by kernel_rfl
theorem XK (w : World) : ((ReflectliteType.abiMethod fun t => (fun a : Nat => Value.int IntKind.u8 (a : Int)) <$> Rtype.kind t) #[.pointer (some ⟨3, 148, none⟩)]).run prog w = .ok (.int .u8 22) w := by kernel_rfl
theorem Qt (a : Addr) (w : World) : (ReflectliteValue.parts (.agg #[.pointer (some ⟨3, 150, none⟩), .pointer (some a), .int .u64 150])).run prog w = .ok (some (150, a, 150)) w := by kernel_rfl
theorem XE (a p : Addr) (W : World) (ha : W.cell? a = some (.pointer (some p))) : (ReflectliteValue.method (ReflectliteValue.valueError "reflectlite.Value.IsNil" 0) ReflectliteValue.isNil #[.agg #[.pointer (some ⟨3, 150, none⟩), .pointer (some a), .int .u64 150]]).run prog W = .ok (.bool false) W := by
 rw [KM];simp only [Sem.run_bind, Qt, Result.andThen];simp [ReflectliteValue.isNil, loadVar, isAgg, underlying, U6, ha, Result.andThen]
theorem XN (w : World) : (ReflectliteType.method ReflectliteType.elem #[.agg #[.pointer (some ⟨3, 150, none⟩)]]).run prog w = .ok (.iface 323 (.agg #[.pointer (some ⟨3, 148, none⟩)])) w := by kernel_rfl
theorem XM (w : World) : (ReflectliteType.relation "Implements" ReflectliteType.implements_ #[.agg #[.pointer (some ⟨3, 148, none⟩)], .iface 323 (.agg #[.pointer (some ⟨3, 143, none⟩)])]).run prog w = .ok (.bool true) w := by kernel_rfl
theorem Qq (v : Value) (w : World) : (ReflectliteType.typeOf #[.iface 148 v]).run prog w = .ok (.iface 323 (.agg #[.pointer (some ⟨3, 148, none⟩)])) w := by kernel_rfl
theorem XR (w : World) : (ReflectliteType.relation "AssignableTo" ReflectliteType.assignableTo #[.agg #[.pointer (some ⟨3, 148, none⟩)], .iface 323 (.agg #[.pointer (some ⟨3, 148, none⟩)])]).run prog w = .ok (.bool true) w := by kernel_rfl
theorem Xv (x : Addr) (w : World) : (ReflectliteValue.unpack (.iface 148 (.pointer (some x)))).run prog w = .ok (.agg #[.pointer (some ⟨3, 148, none⟩), .pointer (some ⟨w.heap.size, 0, none⟩), .int .u64 150]) (w.alloc (.cells #[.pointer (some x)] 148)) := by kernel_rfl
theorem XC (w : World) : (Rtype.elem? 150).run prog w = .ok (some 148) w := by kernel_rfl
theorem XF (p : Addr) (w : World) : (ReflectliteValue.mk 148 p ReflectliteValue.flagAddr).run prog w = .ok (.agg #[.pointer (some ⟨3, 148, none⟩), .pointer (some p), .int .u64 406]) w := by kernel_rfl
theorem XI (a p : Addr) (W : World) (ha : W.cell? a = some (.pointer (some p))) : (ReflectliteValue.method (ReflectliteValue.valueError "reflectlite.Value.Elem" 0) ReflectliteValue.elem #[.agg #[.pointer (some ⟨3, 150, none⟩), .pointer (some a), .int .u64 150]]).run prog W
   = .ok (.agg #[.pointer (some ⟨3, 148, none⟩), .pointer (some p), .int .u64 406]) W := by
 rw [KM];simp only [Sem.run_bind, Qt, Result.andThen];simp [ReflectliteValue.elem, loadVar, isAgg, underlying, U6, ha, Result.andThen, XC, XF]
theorem XA (a : Addr) (w : World) : (ReflectliteValue.parts (.agg #[.pointer (some ⟨3, 148, none⟩), .pointer (some a), .int .u64 406])).run prog w = .ok (some (148, a, 406)) w := by kernel_rfl
theorem Xy (a : Addr) (w : World) : (ReflectliteValue.parts (.agg #[.pointer (some ⟨3, 148, none⟩), .pointer (some a), .int .u64 150])).run prog w = .ok (some (148, a, 150)) w := by kernel_rfl
theorem XO (w : World) : (Rtype.directlyAssignable 148 148).run prog w = .ok true w := by kernel_rfl
theorem Xx (ta b : Addr) (x : Addr) (pI : Value) (W : World) (hb : W.cell? b = some (.pointer (some x))) (ht : W.cell? ta = some pI) (hf : W.frozen? ta = false) :
  (ReflectliteValue.set #[.agg #[.pointer (some ⟨3, 148, none⟩), .pointer (some ta), .int .u64 406], .agg #[.pointer (some ⟨3, 148, none⟩), .pointer (some b), .int .u64 150]]).run prog W = .ok (.tuple #[]) (W.setCell ta (.pointer (some x))) := by
 rw [U3];simp only [Sem.run_bind, XA, Xy, Result.andThen];simp [ReflectliteValue.flagAddr, loadVar, isAgg, underlying, afi, hb, Result.andThen, XO, storeVar, Value.cells, storeCells, Addr.add];rw [run_store prog W ta _ _ (by rfl)];simp [ht, hf]
theorem Qn (t : Addr) (w : World) : (ReflectliteValue.unpack (.iface 251 (.pointer (some t)))).run prog w = .ok (.agg #[.pointer (some ⟨3, 251, none⟩), .pointer (some ⟨w.heap.size, 0, none⟩), .int .u64 150]) (w.alloc (.cells #[.pointer (some t)] 251)) := by kernel_rfl
theorem Qp (a : Addr) (w : World) : (ReflectliteValue.methodAny (ReflectliteValue.valueError "reflectlite.Value.Type" 0) (fun t _ _ _ => ReflectliteType.toType t) #[.agg #[.pointer (some ⟨3, 251, none⟩), .pointer (some a), .int .u64 150]]).run prog w = .ok (.iface 323 (.agg #[.pointer (some ⟨3, 251, none⟩)])) w := by kernel_rfl
theorem Qx (w : World) : ((ReflectliteType.abiMethod fun t => (fun a : Nat => Value.int IntKind.u8 (a : Int)) <$> Rtype.kind t) #[.pointer (some ⟨3, 251, none⟩)]).run prog w = .ok (.int .u8 22) w := by kernel_rfl
theorem Qy (w : World) : ((ReflectliteType.abiMethod fun t => (fun a : Nat => Value.int IntKind.u8 (a : Int)) <$> Rtype.kind t) #[.pointer (some ⟨3, 41, none⟩)]).run prog w = .ok (.int .u8 2) w := by kernel_rfl
theorem Qu (a : Addr) (w : World) : (ReflectliteValue.parts (.agg #[.pointer (some ⟨3, 251, none⟩), .pointer (some a), .int .u64 150])).run prog w = .ok (some (251, a, 150)) w := by kernel_rfl
theorem Qv (a p : Addr) (W : World) (ha : W.cell? a = some (.pointer (some p))) : (ReflectliteValue.method (ReflectliteValue.valueError "reflectlite.Value.IsNil" 0) ReflectliteValue.isNil #[.agg #[.pointer (some ⟨3, 251, none⟩), .pointer (some a), .int .u64 150]]).run prog W = .ok (.bool false) W := by
 rw [KM];simp only [Sem.run_bind, Qu, Result.andThen];simp [ReflectliteValue.isNil, loadVar, isAgg, underlying, adj, ha, Result.andThen]
theorem QA (w : World) : (ReflectliteType.method ReflectliteType.elem #[.agg #[.pointer (some ⟨3, 251, none⟩)]]).run prog w = .ok (.iface 323 (.agg #[.pointer (some ⟨3, 41, none⟩)])) w := by kernel_rfl
theorem Qz (w : World) : (ReflectliteType.relation "Implements" ReflectliteType.implements_ #[.agg #[.pointer (some ⟨3, 41, none⟩)], .iface 323 (.agg #[.pointer (some ⟨3, 143, none⟩)])]).run prog w = .ok (.bool true) w := by kernel_rfl
theorem Qr (v : Value) (w : World) : (ReflectliteType.typeOf #[.iface 41 v]).run prog w = .ok (.iface 323 (.agg #[.pointer (some ⟨3, 41, none⟩)])) w := by kernel_rfl
theorem QB (w : World) : (ReflectliteType.relation "AssignableTo" ReflectliteType.assignableTo #[.agg #[.pointer (some ⟨3, 41, none⟩)], .iface 323 (.agg #[.pointer (some ⟨3, 41, none⟩)])]).run prog w = .ok (.bool true) w := by kernel_rfl
theorem Qo (x : Int) (w : World) : (ReflectliteValue.unpack (.iface 41 (iQ x))).run prog w = .ok (.agg #[.pointer (some ⟨3, 41, none⟩), .pointer (some ⟨w.heap.size, 0, none⟩), .int .u64 130]) (w.alloc (.cells #[iQ x] 41)) := by kernel_rfl
theorem XD (w : World) : (Rtype.elem? 251).run prog w = .ok (some 41) w := by kernel_rfl
theorem XG (p : Addr) (w : World) : (ReflectliteValue.mk 41 p ReflectliteValue.flagAddr).run prog w = .ok (.agg #[.pointer (some ⟨3, 41, none⟩), .pointer (some p), .int .u64 386]) w := by kernel_rfl
theorem Qw (a p : Addr) (W : World) (ha : W.cell? a = some (.pointer (some p))) : (ReflectliteValue.method (ReflectliteValue.valueError "reflectlite.Value.Elem" 0) ReflectliteValue.elem #[.agg #[.pointer (some ⟨3, 251, none⟩), .pointer (some a), .int .u64 150]]).run prog W
   = .ok (.agg #[.pointer (some ⟨3, 41, none⟩), .pointer (some p), .int .u64 386]) W := by
 rw [KM];simp only [Sem.run_bind, Qu, Result.andThen];simp [ReflectliteValue.elem, loadVar, isAgg, underlying, adj, ha, Result.andThen, XD, XG]
theorem XB (a : Addr) (w : World) : (ReflectliteValue.parts (.agg #[.pointer (some ⟨3, 41, none⟩), .pointer (some a), .int .u64 386])).run prog w = .ok (some (41, a, 386)) w := by kernel_rfl
theorem Xz (a : Addr) (w : World) : (ReflectliteValue.parts (.agg #[.pointer (some ⟨3, 41, none⟩), .pointer (some a), .int .u64 130])).run prog w = .ok (some (41, a, 130)) w := by kernel_rfl
theorem XQ (w : World) : (Rtype.directlyAssignable 41 41).run prog w = .ok true w := by kernel_rfl
theorem Qs (ta b : Addr) (x : Int) (pI : Value) (W : World) (hb : W.cell? b = some (iQ x)) (ht : W.cell? ta = some pI) (hf : W.frozen? ta = false) :
  (ReflectliteValue.set #[.agg #[.pointer (some ⟨3, 41, none⟩), .pointer (some ta), .int .u64 386], .agg #[.pointer (some ⟨3, 41, none⟩), .pointer (some b), .int .u64 130]]).run prog W = .ok (.tuple #[]) (W.setCell ta (iQ x)) := by
 rw [U3];simp only [Sem.run_bind, XB, Xz, Result.andThen];simp [ReflectliteValue.flagAddr, loadVar, isAgg, underlying, U_e, hb, Result.andThen, XQ, storeVar, Value.cells, storeCells, Addr.add];rw [run_store prog W ta _ _ (by rfl)];simp [ht, hf]
theorem adg (t : Addr) (pI : Value) (x : Addr) (w : World) (hg : w.cell? ⟨1, 0, none⟩ = some (.iface 323 (.agg #[.pointer (some ⟨3, 143, none⟩)]))) (Yp : w.cell? t = some pI) (hf0 : w.frozen? t = false) :
  Calls prog 63 #[.iface 148 (.pointer (some x)), .iface 150 (.pointer (some t))] w fun ev w' => ev = .returned (.bool true) /\ w' = ((((w.alloc (.cells #[.pointer (some t)] 150)).alloc (.cells #[.pointer (some ⟨3, 150, none⟩), .pointer (some ⟨w.heap.size, 0, none⟩), .int .u64 150] 255)).alloc (.cells #[.pointer (some ⟨3, 150, none⟩), .pointer (some ⟨w.heap.size, 0, none⟩), .int .u64 150] 255)).alloc (.cells #[.pointer (some x)] 148)).setCell t (.pointer (some x)) := by
 have h6 := @run_callFunc_extern prog 129 _ (fun args => ReflectliteValue.unpack (args.getD 0 (.tuple #[]))) func129 kR kR kR kR;have h7 := @run_callFunc_extern prog 130 _ (ReflectliteValue.methodAny (ReflectliteValue.valueError "reflectlite.Value.Type" 0) (fun t _ _ _ => ReflectliteType.toType t)) func130 kR kR kR kR;have h8 := @run_callFunc_extern prog 131 _ (ReflectliteValue.method (ReflectliteValue.valueError "reflectlite.Value.IsNil" 0) ReflectliteValue.isNil) func131 kR kR kR kR;have h27 := @run_callFunc_extern prog 371 _ (ReflectliteType.abiMethod fun t => do pure (.int .u8 (<-Rtype.kind t))) func371 kR kR kR kR;have h37 := @run_callFunc_extern prog 385 _ (ReflectliteType.method ReflectliteType.elem) func385 kR kR kR kR;have h38 := @run_callFunc_extern prog 386 _ (ReflectliteType.relation "Implements" ReflectliteType.implements_) func386 kR kR kR kR;have uV := @run_callFunc_extern prog 219 _ ReflectliteType.typeOf func219 kR kR kR kR;have h35 := @run_callFunc_extern prog 383 _ (ReflectliteType.relation "AssignableTo" ReflectliteType.assignableTo) func383 kR kR kR kR;have Hp := @run_callFunc_extern prog 220 _ (ReflectliteValue.method (ReflectliteValue.valueError "reflectlite.Value.Elem" 0) ReflectliteValue.elem) func220 kR kR kR kR;have OL := @run_callFunc_extern prog 221 _ ReflectliteValue.set func221 kR kR kR kR;have f6 := Xu;have f7 := Xw;have k27 := XJ;have k25 := XK;have e27 := XN;have i25 := XM;have tO := Qq;have a25 := XR;have v25 := Xv x;have mK := GX;have mE := GZ;have mI := GY;have mA := G0;have n8 := XE ⟨w.heap.size, 0, none⟩ t ((w.alloc (.cells #[.pointer (some t)] 150)).alloc (.cells #[.pointer (some ⟨3, 150, none⟩), .pointer (some ⟨w.heap.size, 0, none⟩), .int .u64 150] 255)) sM;have iy : 1 < w.heap.size := by
  rcases qz 1 w.heap.size with h | h
  ·exact h
  simp [World.cell?, EZ h] at hg
 have hg2 : ((w.alloc (.cells #[.pointer (some t)] 150)).alloc (.cells #[.pointer (some ⟨3, 150, none⟩), .pointer (some ⟨w.heap.size, 0, none⟩), .int .u64 150] 255)).cell? ⟨1, 0, none⟩ = some (.iface 323 (.agg #[.pointer (some ⟨3, 143, none⟩)])) := by
  rw [World.cell?_alloc_lt _ _ ⟨1, 0, none⟩ (by simp; omega), World.cell?_alloc_lt _ _ ⟨1, 0, none⟩ iy]; exact hg
 have Ov : t.block < w.heap.size := by
  rcases qz t.block w.heap.size with h | h
  ·exact h
  simp [World.cell?, EZ h] at Yp
 have el := XI ⟨w.heap.size, 0, none⟩ t (((w.alloc (.cells #[.pointer (some t)] 150)).alloc (.cells #[.pointer (some ⟨3, 150, none⟩), .pointer (some ⟨w.heap.size, 0, none⟩), .int .u64 150] 255)).alloc (.cells #[.pointer (some ⟨3, 150, none⟩), .pointer (some ⟨w.heap.size, 0, none⟩), .int .u64 150] 255)) (by rw [World.cell?_alloc_lt _ _ ⟨w.heap.size, 0, none⟩ (by simp; omega), World.cell?_alloc_lt _ _ ⟨w.heap.size, 0, none⟩ sM]; simp);have st := Xx t ⟨w.heap.size + 1 + 1 + 1, 0, none⟩ x pI ((((w.alloc (.cells #[.pointer (some t)] 150)).alloc (.cells #[.pointer (some ⟨3, 150, none⟩), .pointer (some ⟨w.heap.size, 0, none⟩), .int .u64 150] 255)).alloc (.cells #[.pointer (some ⟨3, 150, none⟩), .pointer (some ⟨w.heap.size, 0, none⟩), .int .u64 150] 255)).alloc (.cells #[.pointer (some x)] 148))
  (by rw [World.cell?_alloc_at _ _ _ _ sM]; rfl)
  (by rw [World.cell?_alloc_lt _ _ t (by simp; omega), World.cell?_alloc_lt _ _ t (by simp; omega), World.cell?_alloc_lt _ _ t (by simp; omega), World.cell?_alloc_lt _ _ t Ov]; exact Yp)
  (by rw [World.frozen?_alloc_old _ _ t (by simp; omega), World.frozen?_alloc_old _ _ t (by simp; omega), World.frozen?_alloc_old _ _ t (by simp; omega), World.frozen?_alloc_old _ _ t (Nat.ne_of_lt Ov)]; exact hf0)
 go_enter func63, ntmps63
 go_wp2
 refine wp_loop_rounds 1 ?_;rw [rounds_succ]
 go_wp2
 go_ret
 exact ⟨rfl, rfl⟩
theorem adh (t : Addr) (pI : Value) (x : Int) (w : World) (hg : w.cell? ⟨1, 0, none⟩ = some (.iface 323 (.agg #[.pointer (some ⟨3, 143, none⟩)]))) (Yp : w.cell? t = some pI) (hf0 : w.frozen? t = false) :
  Calls prog 63 #[.iface 41 (iQ x), .iface 251 (.pointer (some t))] w fun ev w' => ev = .returned (.bool true) /\ w' = ((((w.alloc (.cells #[.pointer (some t)] 251)).alloc (.cells #[.pointer (some ⟨3, 251, none⟩), .pointer (some ⟨w.heap.size, 0, none⟩), .int .u64 150] 255)).alloc (.cells #[.pointer (some ⟨3, 251, none⟩), .pointer (some ⟨w.heap.size, 0, none⟩), .int .u64 150] 255)).alloc (.cells #[iQ x] 41)).setCell t (iQ x) := by
 have h6 := @run_callFunc_extern prog 129 _ (fun args => ReflectliteValue.unpack (args.getD 0 (.tuple #[]))) func129 kR kR kR kR;have h7 := @run_callFunc_extern prog 130 _ (ReflectliteValue.methodAny (ReflectliteValue.valueError "reflectlite.Value.Type" 0) (fun t _ _ _ => ReflectliteType.toType t)) func130 kR kR kR kR;have h8 := @run_callFunc_extern prog 131 _ (ReflectliteValue.method (ReflectliteValue.valueError "reflectlite.Value.IsNil" 0) ReflectliteValue.isNil) func131 kR kR kR kR;have h27 := @run_callFunc_extern prog 371 _ (ReflectliteType.abiMethod fun t => do pure (.int .u8 (<-Rtype.kind t))) func371 kR kR kR kR;have h37 := @run_callFunc_extern prog 385 _ (ReflectliteType.method ReflectliteType.elem) func385 kR kR kR kR;have h38 := @run_callFunc_extern prog 386 _ (ReflectliteType.relation "Implements" ReflectliteType.implements_) func386 kR kR kR kR;have uV := @run_callFunc_extern prog 219 _ ReflectliteType.typeOf func219 kR kR kR kR;have h35 := @run_callFunc_extern prog 383 _ (ReflectliteType.relation "AssignableTo" ReflectliteType.assignableTo) func383 kR kR kR kR;have Hp := @run_callFunc_extern prog 220 _ (ReflectliteValue.method (ReflectliteValue.valueError "reflectlite.Value.Elem" 0) ReflectliteValue.elem) func220 kR kR kR kR;have OL := @run_callFunc_extern prog 221 _ ReflectliteValue.set func221 kR kR kR kR;have f6 := Qn;have f7 := Qp;have k27 := Qx;have k25 := Qy;have e27 := QA;have i25 := Qz;have tO := Qr;have a25 := QB;have v25 := Qo x;have mK := GX;have mE := GZ;have mI := GY;have mA := G0;have n8 := Qv ⟨w.heap.size, 0, none⟩ t ((w.alloc (.cells #[.pointer (some t)] 251)).alloc (.cells #[.pointer (some ⟨3, 251, none⟩), .pointer (some ⟨w.heap.size, 0, none⟩), .int .u64 150] 255)) sM;have iy : 1 < w.heap.size := by
  rcases qz 1 w.heap.size with h | h
  ·exact h
  simp [World.cell?, EZ h] at hg
 have hg2 : ((w.alloc (.cells #[.pointer (some t)] 251)).alloc (.cells #[.pointer (some ⟨3, 251, none⟩), .pointer (some ⟨w.heap.size, 0, none⟩), .int .u64 150] 255)).cell? ⟨1, 0, none⟩ = some (.iface 323 (.agg #[.pointer (some ⟨3, 143, none⟩)])) := by
  rw [World.cell?_alloc_lt _ _ ⟨1, 0, none⟩ (by simp; omega), World.cell?_alloc_lt _ _ ⟨1, 0, none⟩ iy]; exact hg
 have Ov : t.block < w.heap.size := by
  rcases qz t.block w.heap.size with h | h
  ·exact h
  simp [World.cell?, EZ h] at Yp
 have el := Qw ⟨w.heap.size, 0, none⟩ t (((w.alloc (.cells #[.pointer (some t)] 251)).alloc (.cells #[.pointer (some ⟨3, 251, none⟩), .pointer (some ⟨w.heap.size, 0, none⟩), .int .u64 150] 255)).alloc (.cells #[.pointer (some ⟨3, 251, none⟩), .pointer (some ⟨w.heap.size, 0, none⟩), .int .u64 150] 255)) (by rw [World.cell?_alloc_lt _ _ ⟨w.heap.size, 0, none⟩ (by simp; omega), World.cell?_alloc_lt _ _ ⟨w.heap.size, 0, none⟩ sM]; simp);have st := Qs t ⟨w.heap.size + 1 + 1 + 1, 0, none⟩ x pI ((((w.alloc (.cells #[.pointer (some t)] 251)).alloc (.cells #[.pointer (some ⟨3, 251, none⟩), .pointer (some ⟨w.heap.size, 0, none⟩), .int .u64 150] 255)).alloc (.cells #[.pointer (some ⟨3, 251, none⟩), .pointer (some ⟨w.heap.size, 0, none⟩), .int .u64 150] 255)).alloc (.cells #[iQ x] 41))
  (by rw [World.cell?_alloc_at _ _ _ _ sM]; rfl)
  (by rw [World.cell?_alloc_lt _ _ t (by simp; omega), World.cell?_alloc_lt _ _ t (by simp; omega), World.cell?_alloc_lt _ _ t (by simp; omega), World.cell?_alloc_lt _ _ t Ov]; exact Yp)
  (by rw [World.frozen?_alloc_old _ _ t (by simp; omega), World.frozen?_alloc_old _ _ t (by simp; omega), World.frozen?_alloc_old _ _ t (by simp; omega), World.frozen?_alloc_old _ _ t (Nat.ne_of_lt Ov)]; exact hf0)
 go_enter func63, ntmps63
 go_wp2
 refine wp_loop_rounds 1 ?_;rw [rounds_succ]
 go_wp2
 go_ret
 exact ⟨rfl, rfl⟩
theorem abM (w : World) : (ReflectliteType.relation "AssignableTo" ReflectliteType.assignableTo #[.agg #[.pointer (some ⟨3, 148, none⟩)], .iface 323 (.agg #[.pointer (some ⟨3, 41, none⟩)])]).run prog w = .ok (.bool false) w := by kernel_rfl
theorem XT : ∃ want, prog.underlying 328 = some (.interface want) /\ (prog.info? 148).map (fun i => (lacking want i.methods).isEmpty) = some false := ⟨_, underlying328, by kernel_rfl⟩
theorem XS : ∃ want, prog.underlying 331 = some (.interface want) /\ (prog.info? 148).map (fun i => (lacking want i.methods).isEmpty) = some true := ⟨_, underlying331, by kernel_rfl⟩
theorem XH (v : Value) (w : World) : (Instr.typeAssert (.iface 148 v) 143 328 true).run prog w = .ok (.tuple #[.nilIface, .bool false]) w := by
 obtain ⟨want, h1, h2⟩ := XT;exact run_typeAssert_lacksB h1 h2 kR v 143 w
theorem aau (v : Value) (w : World) : (Instr.typeAssert (.iface 148 v) 143 331 true).run prog w = .ok (.tuple #[.iface 148 v, .bool true]) w := by
 obtain ⟨want, h1, h2⟩ := XS;exact run_typeAssert_hasB h1 h2 v 143 w
theorem aat (h : Value) (w : World) : (Go.method 573 148 h "Unwrap").run prog w = .ok (378, h) w := by kernel_rfl
theorem abN (t : Addr) (pI : Value) (x : Int) (w : World) (b : Nat) (hfb : w.cell? ⟨b, 1, none⟩ = some (.iface 41 (iQ x))) (hg : w.cell? ⟨1, 0, none⟩ = some (.iface 323 (.agg #[.pointer (some ⟨3, 143, none⟩)]))) (Yp : w.cell? t = some pI) (hf0 : w.frozen? t = false) :
  Calls prog 63 #[.iface 148 (pQ b), .iface 251 (.pointer (some t))] w fun ev w' => ev = .returned (.bool true) /\ w' = ((((w.alloc (.cells #[.pointer (some t)] 251)).alloc (.cells #[.pointer (some ⟨3, 251, none⟩), .pointer (some ⟨w.heap.size, 0, none⟩), .int .u64 150] 255)).alloc (.cells #[.pointer (some ⟨3, 251, none⟩), .pointer (some ⟨w.heap.size, 0, none⟩), .int .u64 150] 255)).alloc (.cells #[iQ x] 41)).setCell t (iQ x) := by
 have h6 := @run_callFunc_extern prog 129 _ (fun args => ReflectliteValue.unpack (args.getD 0 (.tuple #[]))) func129 kR kR kR kR;have h7 := @run_callFunc_extern prog 130 _ (ReflectliteValue.methodAny (ReflectliteValue.valueError "reflectlite.Value.Type" 0) (fun t _ _ _ => ReflectliteType.toType t)) func130 kR kR kR kR;have h8 := @run_callFunc_extern prog 131 _ (ReflectliteValue.method (ReflectliteValue.valueError "reflectlite.Value.IsNil" 0) ReflectliteValue.isNil) func131 kR kR kR kR;have h27 := @run_callFunc_extern prog 371 _ (ReflectliteType.abiMethod fun t => do pure (.int .u8 (<-Rtype.kind t))) func371 kR kR kR kR;have h37 := @run_callFunc_extern prog 385 _ (ReflectliteType.method ReflectliteType.elem) func385 kR kR kR kR;have h38 := @run_callFunc_extern prog 386 _ (ReflectliteType.relation "Implements" ReflectliteType.implements_) func386 kR kR kR kR;have uV := @run_callFunc_extern prog 219 _ ReflectliteType.typeOf func219 kR kR kR kR;have h35 := @run_callFunc_extern prog 383 _ (ReflectliteType.relation "AssignableTo" ReflectliteType.assignableTo) func383 kR kR kR kR;have Hp := @run_callFunc_extern prog 220 _ (ReflectliteValue.method (ReflectliteValue.valueError "reflectlite.Value.Elem" 0) ReflectliteValue.elem) func220 kR kR kR kR;have OL := @run_callFunc_extern prog 221 _ ReflectliteValue.set func221 kR kR kR kR;have f6 := Qn;have f7 := Qp;have k27 := Qx;have k25 := Qy;have e27 := QA;have i25 := Qz;have tO := Qr;have a25 := QB;have v25 := Qo x;have mK := GX;have mE := GZ;have mI := GY;have mA := G0;have n8 := Qv ⟨w.heap.size, 0, none⟩ t ((w.alloc (.cells #[.pointer (some t)] 251)).alloc (.cells #[.pointer (some ⟨3, 251, none⟩), .pointer (some ⟨w.heap.size, 0, none⟩), .int .u64 150] 255)) sM;have iy : 1 < w.heap.size := by
  rcases qz 1 w.heap.size with h | h
  ·exact h
  simp [World.cell?, EZ h] at hg
 have hg2 : ((w.alloc (.cells #[.pointer (some t)] 251)).alloc (.cells #[.pointer (some ⟨3, 251, none⟩), .pointer (some ⟨w.heap.size, 0, none⟩), .int .u64 150] 255)).cell? ⟨1, 0, none⟩ = some (.iface 323 (.agg #[.pointer (some ⟨3, 143, none⟩)])) := by
  rw [World.cell?_alloc_lt _ _ ⟨1, 0, none⟩ (by simp; omega), World.cell?_alloc_lt _ _ ⟨1, 0, none⟩ iy]; exact hg
 have Ov : t.block < w.heap.size := by
  rcases qz t.block w.heap.size with h | h
  ·exact h
  simp [World.cell?, EZ h] at Yp
 have el := Qw ⟨w.heap.size, 0, none⟩ t (((w.alloc (.cells #[.pointer (some t)] 251)).alloc (.cells #[.pointer (some ⟨3, 251, none⟩), .pointer (some ⟨w.heap.size, 0, none⟩), .int .u64 150] 255)).alloc (.cells #[.pointer (some ⟨3, 251, none⟩), .pointer (some ⟨w.heap.size, 0, none⟩), .int .u64 150] 255)) (by rw [World.cell?_alloc_lt _ _ ⟨w.heap.size, 0, none⟩ (by simp; omega), World.cell?_alloc_lt _ _ ⟨w.heap.size, 0, none⟩ sM]; simp);have st := Qs t ⟨w.heap.size + 1 + 1 + 1, 0, none⟩ x pI ((((w.alloc (.cells #[.pointer (some t)] 251)).alloc (.cells #[.pointer (some ⟨3, 251, none⟩), .pointer (some ⟨w.heap.size, 0, none⟩), .int .u64 150] 255)).alloc (.cells #[.pointer (some ⟨3, 251, none⟩), .pointer (some ⟨w.heap.size, 0, none⟩), .int .u64 150] 255)).alloc (.cells #[iQ x] 41))
  (by rw [World.cell?_alloc_at _ _ _ _ sM]; rfl)
  (by rw [World.cell?_alloc_lt _ _ t (by simp; omega), World.cell?_alloc_lt _ _ t (by simp; omega), World.cell?_alloc_lt _ _ t (by simp; omega), World.cell?_alloc_lt _ _ t Ov]; exact Yp)
  (by rw [World.frozen?_alloc_old _ _ t (by simp; omega), World.frozen?_alloc_old _ _ t (by simp; omega), World.frozen?_alloc_old _ _ t (by simp; omega), World.frozen?_alloc_old _ _ t (Nat.ne_of_lt Ov)]; exact hf0)
 have tF := Qq;have aN := abM;have lk := XH;have hs := aau;have mU := aat;have s8 : b < w.heap.size := by
  rcases qz b w.heap.size with h | h
  ·exact h
  simp [World.cell?, EZ h] at hfb
 have ad9 : (((w.alloc (.cells #[.pointer (some t)] 251)).alloc (.cells #[.pointer (some ⟨3, 251, none⟩), .pointer (some ⟨w.heap.size, 0, none⟩), .int .u64 150] 255)).alloc (.cells #[.pointer (some ⟨3, 251, none⟩), .pointer (some ⟨w.heap.size, 0, none⟩), .int .u64 150] 255)).cell? ⟨b, 1, none⟩ = some (.iface 41 (iQ x)) := by
  rw [World.cell?_alloc_lt _ _ ⟨b, 1, none⟩ (by simp; omega), World.cell?_alloc_lt _ _ ⟨b, 1, none⟩ (by simp; omega), World.cell?_alloc_lt _ _ ⟨b, 1, none⟩ s8]; exact hfb
 go_enter func63, ntmps63
 go_wp2
 refine wp_loop_rounds 2 ?_;rw [rounds_succ]
 go_wp2
 rw [rounds_succ]
 go_wp2
 go_ret
 exact ⟨rfl, rfl⟩
end
def XZ (w : World) : Prop := w.cell? ⟨1, 0, none⟩ = some (.iface 323 (.agg #[.pointer (some ⟨3, 143, none⟩)]))
theorem an.D7 {g : Gh} {L : List aw} {w : World} (h : an g L w) (o : Obj) : an g L (w.alloc o) := (h.push o).tail
theorem Lq {w : World} {b T : Nat} {v u : Value} (h : w.heap[b]? = some (.cells #[u] T (0, 0))) : w.setCell ⟨b, 0, none⟩ v = { w with heap := w.heap.setIfInBounds b (.cells #[v] T (0, 0)) } := by
 unfold World.setCell
 congr 1
 apply Array.ext_getElem?;intro j;rw [Array.getElem?_modify, Array.getElem?_setIfInBounds]
 by_cases hj : b = j
 ·subst hj;have iy : b < w.heap.size := (sY.1 h).1;simp only [if_true, iy];rw [h];rfl
 rw [aj hj, aj hj]
theorem an.NO {g : Gh} {L : List aw} {w : World} {b T : Nat} {u : Value} (h : an g (ah b [u] T :: L) w) (v : Value) : an g (ah b [v] T :: L) (w.setCell ⟨b, 0, none⟩ v) := by
 rw [Lq h.cW];exact h.set _
section
variable {G : Gh} {L R : List aw} {w : World}
theorem LY {b T : Nat} {u : Value} (h : an G (ah b [u] T :: L) w) : w.cell? ⟨b, 0, none⟩ = some u /\ w.frozen? ⟨b, 0, none⟩ = false := by
 have hp : w.heap[b]? = some (.cells #[u] T (0, 0)) := h.cW;refine ⟨Rd.jE h .here 0 u rfl, ?_⟩;unfold World.frozen?;simp [hp]
theorem OV {t T : Nat} {pI ev : Value} {A : aw} (hw : an G (ah t [pI] T :: A :: L) w) (hA : Pb ev A) (ke : aG L XZ) : Calls prog 63 #[ev, .iface 251 (pQ t)] w (bU fun r w' => r = .bool true /\ ∃ er : Int, er ≠ 17 /\ an G (ah t [iQ er] T :: A :: L) w') := by
 obtain ⟨h1, h2⟩ := LY hw;have h3 : XZ w := ke.at hw.tail.tail;rcases hA with ⟨f, at_, er, rfl, SC, rfl⟩ | ⟨er, rfl, SC, rfl⟩
 ·have hf : w.cell? ⟨f, 1, none⟩ = some (.iface 41 (iQ er)) := Rd.jE hw.tail .here 1 _ rfl;refine Calls.mono (abN ⟨t, 0, none⟩ pI er w f hf h3 h1 h2) fun e w' hh => ?_
  obtain ⟨rfl, rfl⟩ := hh;exact ⟨_, rfl, rfl, er, SC, ((((hw.D7 _).D7 _).D7 _).D7 _).NO _⟩
 refine Calls.mono (adh ⟨t, 0, none⟩ pI er w h3 h1 h2) fun e w' hh => ?_
 obtain ⟨rfl, rfl⟩ := hh;exact ⟨_, rfl, rfl, er, SC, ((((hw.D7 _).D7 _).D7 _).D7 _).NO _⟩
theorem MQ {t T f : Nat} {pI : Value} {A : aw} (hw : an G (ah t [pI] T :: L) w) (ke : aG L XZ) : Calls prog 63 #[.iface 148 (pQ f), .iface 150 (pQ t)] w (bU fun r w' => r = .bool true /\ an G (ah t [pQ f] T :: L) w') := by
 obtain ⟨h1, h2⟩ := LY hw;have h3 : XZ w := ke.at hw.tail;refine Calls.mono (adg ⟨t, 0, none⟩ pI ⟨f, 0, none⟩ w h3 h1 h2) fun e w' hh => ?_
 obtain ⟨rfl, rfl⟩ := hh;exact ⟨_, rfl, rfl, ((((hw.D7 _).D7 _).D7 _).D7 _).NO _⟩
theorem KA {ev : Value} {A : aw} (hw : an G (A :: L) w) (hA : Pb ev A) (ke : aG L XZ) : Calls prog 61 #[ev] w (bU fun r w' => r = iQ 18 /\ an G L w') := by
 refine ad (args := [_]) func61 rfl ntmps61 rfl rfl ?_;refine z6 ?_;refine aF rfl nC hw rfl fun w b3 hw => ?_;refine z5 ?_;refine qK rfl underlying251 sM rfl ?_;refine al rfl yF rfl (OV hw hA ke) rfl fun w v6 hv => ?_;obtain ⟨rfl, er, SC, hw⟩ := hv;refine z1 ?_;refine lD (v := iQ er) aB hw ?_;refine z3 ?_;refine aE rfl (fun h2 => ?_) fun h2 => ?_
 ·
  exact absurd h2 SC
 refine z6 ?_;exact aK rfl rfl rfl ⟨rfl, hw.tail.tail⟩
theorem yw {s : Su} {rv : Value} {D : Dk} {dp : Nat} (hw : an G (eL dp D :: L) w) (kr : aG L (g7 4 rv (s.roots.map eK))) (hn : s.roots.length <= 1000) (ho : D.on = true) :
  Calls prog 58 #[pQ dp, gQ (EI s rv)] w (bU fun r w' => (eI s ≠ 0 /\ r = .tuple #[.pointer none, iQ (eI s)] /\ an G (eL dp D :: L) w') ∨
   (eI s = 0 /\ ∃ q, r = .tuple #[pQ q, iQ 0] /\ an G (vF q dp s rv :: eL dp D :: L) w')) := by
 refine ad (args := [_, _]) func58 rfl ntmps58 rfl rfl ?_;refine z2 ?_;refine a9 rfl rfl rfl hw rfl fun w b3 hw => ?_;refine z6 ?_;refine lA (l := EI s rv) eR hw ?_;refine al rfl DU rfl (Gb (s := s) hw (kr.of sF) hn) rfl fun w v10 hv => ?_;obtain ⟨rfl, hw⟩ := hv;refine z7 ?_;refine aE rfl (fun h1 => ?_) fun h1 => ?_
 ·
  refine z7 ?_;exact cz rfl rfl rfl rfl (.inl ⟨h1, rfl, hw.tail⟩)
 refine z5 ?_;refine al rfl zG rfl (A6 (hw.b [eL dp D])) rfl fun w S8 hv => ?_;obtain ⟨rfl, hw⟩ := hv;rw [ho];refine jG rfl rfl ?_;refine aC ?_;refine di rfl (fun h2 => ?_) fun h2 => ?_
 ·
  cases h2
 have hs0 : eI s = 0 := c6.1 h1;refine z4 ?_;refine bt rfl rfl (ar.tL (cs := Sg s.cf) iZ hw pK rfl rfl) ?_;refine al rfl wG rfl (yr (c := s.cf) hw) rfl fun w v20 hv => ?_;obtain ⟨Yt, hw⟩ := hv;obtain ⟨-, rfl⟩ := Yt.resolve_left (fun h => h.1 (df hs0).1);refine z3 ?_;refine aF rfl pR hw rfl fun w b7 hw => ?_;refine aT (cs := oz (aL s.cf)) (l' := oz (aL s.cf)) rfl tV rfl rfl cw rfl (by intro u hu; simp [oz] at hu; rcases hu with rfl | rfl | rfl <;> rfl) hw pK sM rfl rfl (fun w hw => ?_);refine z5 ?_;refine lA (l := EI s rv) eR hw ?_;refine lA (l := oz (aL s.cf)) cw hw ?_;refine aO (v := gQ (jQ dp s rv)) rfl rfl (fun w => kR) ?_;refine a9 rfl rfl rfl hw rfl fun w YP hw => ?_;refine z5 ?_;exact cz rfl rfl rfl rfl (.inr ⟨hs0, YP, rfl, yW (hw.b [ah b7 _ _, ah b3 _ _, ah YP _ _, eL dp D]).tail.tail⟩)
theorem NK {rd : Int -> Option Pg} {c : List Int} {ts : List Tr} {rp : Rp} {er : Int} (h : qs rd c ts rp er) : er = 0 \/ er = 18 := by
 rcases h with ⟨-, -, h⟩ | ⟨-, W, A, -, ⟨-, -, h⟩ | ⟨-, -, h⟩⟩
 ·exact .inr h
 ·exact .inl h
 exact .inr h
theorem GV {s : Su} {rv r : Value} {D : Dk} {dp : Nat} (h : (eI s ≠ 0 /\ r = .tuple #[.pointer none, iQ (eI s)] /\ an G (eL dp D :: L) w) ∨
    (eI s = 0 /\ ∃ q, r = .tuple #[pQ q, iQ 0] /\ an G (vF q dp s rv :: eL dp D :: L) w)) :
  ∃ (er : Int) (lp : Option Addr) (A : aw), r = .tuple #[.pointer lp, iQ er] /\ eI s = er /\ (er = 0 -> ∃ q, lp = some ⟨q, 0, none⟩ /\ A = ah q (jQ dp s rv) 157) /\ an G (A :: eL dp D :: L) w := by
 rcases h with ⟨h1, h2, h3⟩ | ⟨h1, q, h2, h3⟩
 ·exact ⟨_, _, aV [], h2, rfl, fun h => absurd h h1, an.bz (M := []) h3⟩
 exact ⟨0, _, _, h2, h1, fun _ => ⟨q, rfl, rfl⟩, h3⟩
theorem Ry {s : Su} {rv r : Value} {D : Dk} {q dp : Nat} (h : (∃ c l vq, jS s D.bK = some (c, l) /\ BU s.cf.refs c l /\ r = .tuple #[pQ vq, .nilIface] /\ an G (cj vq (dV s.cf.refs c l) :: vF q dp s rv :: eL dp D :: L) w) ∨
   (∃ ev A, (∀ c l, jS s D.bK = some (c, l) -> ¬ BU s.cf.refs c l) /\ r = .tuple #[.pointer none, ev] /\ Pb ev A /\ an G (A :: vF q dp s rv :: eL dp D :: L) w)) :
  ∃ (ev : Value) (b : Bool) (pp : Option Addr) (A : aw), r = .tuple #[.pointer pp, ev] /\ ((ev = .nilIface /\ b = false) \/ (∃ T z, ev = .iface T z) /\ b = true) /\ (b = false -> ∃ c l vq, jS s D.bK = some (c, l) /\ BU s.cf.refs c l /\ pp = some ⟨vq, 0, none⟩ /\ A = cj vq (dV s.cf.refs c l)) ∧
   (b = true -> (∀ c l, jS s D.bK = some (c, l) -> ¬ BU s.cf.refs c l) /\ Pb ev A) /\ an G (A :: ah q (jQ dp s rv) 157 :: eL dp D :: L) w := by
 rcases h with ⟨c, l, vq, h1, h2, h3, h4⟩ | ⟨ev, A, h1, h2, h3, h4⟩
 ·exact ⟨_, false, _, _, h3, .inl ⟨rfl, rfl⟩, fun _ => ⟨c, l, vq, h1, h2, rfl, rfl⟩, (fun h => by cases h), h4⟩
 exact ⟨ev, true, _, A, h2, .inr ⟨by rcases h3 with ⟨_, _, _, h, _⟩ | ⟨_, h, _⟩ <;> exact ⟨_, _, h⟩, rfl⟩, (fun h => by cases h), fun _ => ⟨h1, h3⟩, h4⟩
def iB (rp : Rp) : List Value := qu.cells ⟨rp, nQ⟩
theorem ku (rp : Rp) : iR (iB rp) := fun u hu => by simp [iB, qu.cells] at hu; rcases hu with rfl | rfl | rfl | rfl | rfl | rfl | rfl | rfl <;> rfl
theorem A2 {s : Su} {rv : Value} {D : Dk} {dp : Nat} (hw : an G (eL dp D :: L) w) (aW : D.Ok) (kr : aG L (g7 4 rv (s.roots.map eK))) (hn : s.roots.length <= 1000) (ho : D.on = true) (ke : aG L XZ) (RI : aG L EvK) :
  Calls prog 22 #[pQ dp, gQ (EI s rv)] w (bU fun r w' =>
   (∃ er, er ≠ 0 /\ r = .tuple #[.pointer none, gQ (iB wZ), iQ er] /\ ((eI s = 0 /\ (D.fh.length : Int) = s.cf.blocks) -> er = 18 /\ ∀ c l rp, ¬ eU s D.bK c l rp) /\ an G (eL dp D :: L) w') ∨
   (∃ c l vq rp, eU s D.bK c l rp /\ rp.bad = [] /\ (D.fh.length : Int) = s.cf.blocks /\ r = .tuple #[pQ vq, gQ (iB rp), iQ 0] /\ an G (cj vq (dV s.cf.refs c l) :: eL dp D :: L) w')) := by
 refine ad (args := [_, _]) func22 rfl ntmps22 rfl rfl ?_;refine z2 ?_;refine a9 rfl rfl rfl hw rfl fun w b3 hw => ?_;refine z1 ?_;refine aF rfl ft hw rfl fun w b5 hw => ?_;refine z5 ?_;refine lA (l := EI s rv) eR hw ?_;refine al rfl wM rfl (yw (s := s) (hw.b [eL dp D]) (kr.of sF) hn ho) rfl fun w S8 hv => ?_;obtain ⟨er, lp, A, rfl, RQ, hA, hw⟩ := GV hv;refine yb ?_;refine aE rfl (fun h1 => ?_) fun h1 => ?_
 ·
  refine z2 ?_;refine aO (v := gQ (iB wZ)) rfl rfl (fun w => kR) ?_;refine z2 ?_;refine aT (cs := iB wZ) (l' := iB wZ) rfl tV rfl rfl aM rfl (ku _) hw pK sM rfl rfl fun w hw => ?_;refine z3 ?_;exact m9 rfl rfl rfl ⟨_, rfl, (ar.cU (l := iB wZ) aM hw pK rfl)⟩ rfl (.inl ⟨er, h1, rfl, fun h => absurd (RQ ▸ h.1) h1, (hw.b [ah b3 _ _, ah b5 _ _, A, eL dp D]).tail.tail.tail⟩)
 have h1 := c6.1 h1;obtain ⟨q, rfl, rfl⟩ := hA h1;subst h1;refine z3 ?_;refine bd [0, 1, 2, 3, 4, 5] bJ kR ?_;replace hw := hw.drawn (w.drawn + 1);refine z1 ?_;refine cS rfl oK rfl ?_;refine lD (v := iQ s.cf.blocks) ag hw ?_;refine z1 ?_;refine dJ rfl oh rfl (o4 (hw.b [eL dp D])) (fun w Zb hv q' hq => ?_) fun w Zb hv => ?_
 ·
  obtain ⟨rfl, hw⟩ := hv;have hq := bm (l := [2]) kR hq;simp only [bQ, dz, or_false] at hq;subst hq;exact bx rfl rfl rfl (ar.bL (v := iQ s.cf.blocks) ag hw pK rfl)
 obtain ⟨rfl, hw⟩ := hv;refine z2 ?_;refine aE rfl (fun h2 => ?_) fun h2 => ?_
 ·
  refine z2 ?_;refine aO (v := gQ (iB wZ)) rfl rfl (fun w => kR) ?_;refine z1 ?_;refine aT (cs := iB wZ) (l' := iB wZ) rfl tV rfl rfl aM rfl (ku _) hw pK sM rfl rfl fun w hw => ?_;refine z3 ?_;exact m9 rfl rfl rfl ⟨_, rfl, (ar.cU (l := iB wZ) aM hw pK rfl)⟩ rfl (.inl ⟨18, by decide, rfl, fun h => absurd h.2.symm h2, (hw.b [ah b3 _ _, ah b5 _ _, ah q _ _, eL dp D]).tail.tail.tail⟩)
 have s8 : (D.fh.length : Int) = s.cf.blocks := (c6.1 h2).symm;have hb := yW (hw.b [ah q _ _, eL dp D]);refine z4 ?_;refine al rfl zC rfl (A0 hb aW ⟨RQ, ho, s8⟩) rfl fun w v31 hv => ?_;obtain ⟨ev, b, pp, A, rfl, Oz, UK, Ny, hw⟩ := Ry hv;obtain ⟨ms, hI⟩ := pM;refine mN ?_;refine Bw rfl hI rfl Oz ?_;refine aC ?_;refine di rfl (fun h3 => ?_) fun h3 => ?_
 ·
  obtain ⟨rI, hE⟩ := Ny h3;refine z2 ?_;refine aO (v := gQ (iB wZ)) rfl rfl (fun w => kR) ?_;refine z1 ?_;refine al rfl Il rfl (KA hw hE ((ke.cons _).cons _ |>.of sF)) rfl fun w v38 hv => ?_;obtain ⟨rfl, hw⟩ := hv;refine z1 ?_;refine aT (cs := iB wZ) (l' := iB wZ) rfl tV rfl rfl aM rfl (ku _) hw pK sM rfl rfl fun w hw => ?_;refine z3 ?_;exact m9 rfl rfl rfl ⟨_, rfl, (ar.cU (l := iB wZ) aM hw pK rfl)⟩ rfl (.inl ⟨18, by decide, rfl, fun h => ⟨rfl, fun c l rp hF => rI c l hF.load hF.ok⟩, (hw.b [ah b3 _ _, ah b5 _ _, ah q _ _, eL dp D]).tail.tail.tail⟩)
 obtain ⟨c, l, vq, Aw, Jf, rfl, rfl⟩ := UK h3;refine z5 ?_;refine lD (v := rv) fN hw ?_;refine al rfl my rfl (nr (l := s.roots) hw (m6 Jf) (kr.of sF) hn (RI.of sF)) rfl fun w v43 hv => ?_;obtain ⟨rp, er, rfl, ⟨hW, OI⟩, hw⟩ := hv;refine z3 ?_;refine aF rfl ft hw rfl fun w mB hw => ?_;refine aT (cs := iB rp) (l' := iB rp) rfl tV rfl rfl aM rfl (ku _) hw pK sM rfl rfl fun w hw => ?_;refine z8 ?_;refine aE rfl (fun h4 => ?_) fun h4 => ?_
 ·
  refine z2 ?_;refine aO (v := gQ (iB wZ)) rfl rfl (fun w => kR) ?_;refine z2 ?_;refine aT (cs := iB wZ) (l' := iB wZ) rfl tV rfl rfl aM rfl (ku _) hw pK sM rfl rfl fun w hw => ?_;refine z3 ?_;exact m9 rfl rfl rfl ⟨_, rfl, (ar.cU (l := iB wZ) aM hw pK rfl)⟩ rfl (.inl ⟨er, h4, rfl, fun h => ⟨(NK hW).resolve_left h4, fun c' l' rp' hF => by
      have h9 := hF.load;rw [Aw] at h9; cases h9;exact h4 (qs.one hW hF.whole).2⟩, (hw.b [ah b3 _ _, ah b5 _ _, ah mB _ _, cj vq _, ah q _ _, eL dp D]).tail.tail.tail.tail.tail⟩)
 have h4 := c6.1 h4;subst h4;refine z2 ?_;refine bd [0, 1, 2, 3, 4] bJ kR ?_;replace hw := hw.drawn (w.drawn + 1);refine z1 ?_;refine lA (l := iB rp) aM hw ?_;refine z1 ?_;refine aT (cs := iB rp) (l' := iB rp) rfl tV rfl rfl aM rfl (ku _) hw pK sM rfl kR fun w hw => ?_;refine z3 ?_;exact m9 rfl rfl rfl ⟨_, rfl, (ar.cU (l := iB rp) aM hw pK rfl)⟩ rfl (.inr ⟨c, l, vq, rp, ⟨RQ, Aw, Jf, hW⟩, OI, s8, rfl, (hw.b [ah b3 _ _, ah b5 _ _, ah mB _ _, ah q _ _, cj vq _, eL dp D]).tail.tail.tail.tail⟩)
end
section
variable {G : Gh} {L R : List aw} {w : World} {s : Su} {D : Dk} {q dp : Nat} {rv : Value}
theorem Rq {n : Nat} {r : Value} (h : (∃ p : bT, gy s D.bK n = some p.pg /\ r = .tuple #[gQ p.cells, .nilIface] /\ p.Sm /\ an G (cB p :: vF q dp s rv :: eL dp D :: L) w) ∨
   (∃ f er, gy s D.bK n = none /\ r = .tuple #[gQ eh.cells, .iface 148 (pQ f)] /\ er ≠ 17 /\ an G (Nz f (D6 s n) er :: vF q dp s rv :: eL dp D :: L) w)) :
  ∃ (p : bT) (ev : Value) (b : Bool) (A : aw), r = .tuple #[gQ p.cells, ev] /\ iR p.cells /\ ((ev = .nilIface /\ b = false) \/ (∃ T z, ev = .iface T z) /\ b = true) /\ (b = false -> gy s D.bK n = some p.pg /\ p.Sm /\ A = cB p) ∧
   (b = true -> gy s D.bK n = none /\ ∃ f er, ev = .iface 148 (pQ f) /\ er ≠ 17 /\ A = Nz f (D6 s n) er) /\ an G (A :: ah q (jQ dp s rv) 157 :: eL dp D :: L) w := by
 rcases h with ⟨p, h1, rfl, h3, h2⟩ | ⟨f, er, h1, rfl, h3, h2⟩
 ·exact ⟨p, _, false, _, rfl, dX (aS h3 .here) h2, .inl ⟨rfl, rfl⟩, fun _ => ⟨h1, h3, rfl⟩, (fun h => by cases h), h2⟩
 exact ⟨eh, _, true, _, rfl, cT, .inr ⟨⟨_, _, rfl⟩, rfl⟩, (fun h => by cases h), fun _ => ⟨h1, f, er, rfl, h3, rfl⟩, h2⟩
theorem TL {Bk : Nat -> bW} {n : Int} {p : Pg} (h : gy s Bk n = some p) : cM p = 0 := by
 unfold gy at h;split at h
 ·cases hd : xC n (Bk ((aL s.cf).first + n - 1).toNat) with
  | none => rw [hd] at h; cases h
  | some x =>
   obtain ⟨p', g⟩ := x;rw [hd] at h;simp only at h
   split at h
   ·cases h; exact (MJ hd).1
   cases h
 cases h
def Jt (l : List CK) : List Value := (l.map qZ).flatten
theorem MW (l : List CK) (c : CK) : Jt l ++ qZ c = Jt (l ++ [c]) := by simp [Jt]
theorem A1 {n : Nat} {lev : Int} (hw : an G (vF q dp s rv :: eL dp D :: L) w) (aW : D.Ok) (hL : Lk s D) (hn : 1 <= n /\ (n : Int) <= (aL s.cf).pages) (PX : -1 <= lev /\ lev <= 1000) :
  Calls prog 65 #[pQ q, yz ((n : Int), lev)] w (bU fun r w' =>
   (∃ l v, xh s D.bK ((n : Int), lev) = some l /\ l.length <= 8 /\ r = .tuple #[v, .nilIface] /\ an G (row 163 2 v l.length (Jt l) :: vF q dp s rv :: eL dp D :: L) w') ∨
   (∃ f er, xh s D.bK ((n : Int), lev) = none /\ r = .tuple #[nQ, .iface 148 (pQ f)] /\ er ≠ 17 /\ an G (Nz f (D6 s n) er :: vF q dp s rv :: eL dp D :: L) w')) := by
 obtain ⟨pn, bn, fn, hp, hpn, W3, s8, Kf, Ej⟩ := hL.Rj;have Bu : (aL s.cf).pages = (pn : Int) := by rw [hp]
 have Ns : (aL s.cf).first = (fn : Int) := by rw [hp]
 have hlen := hL.len;have hbk : s.cf.blocks <= 65536 := (df hL.sup).1.1.2;obtain ⟨at_, Ay⟩ : ∃ at_ : Nat, D6 s n = at_ := ⟨(D6 s n).toNat, by unfold D6; omega⟩;have Ms : at_ <= 65536 := by unfold D6 at Ay; omega
 obtain ⟨ms, hI⟩ := pM;refine ad (args := [_, _]) func65 rfl ntmps65 rfl rfl ?_;refine z2 ?_;refine a9 rfl rfl rfl hw rfl fun w b3 hw => ?_;refine z7 ?_;refine lD (v := iQ n) ag hw ?_;have hb := hw.b [vF _ _ _ _, eL dp D];refine al rfl qm rfl (qX (n := n) hb aW hL hn) rfl fun w Sw hv => ?_;obtain ⟨p, ev, b, A, rfl, jd, Oz, UK, Ny, hw⟩ := Rq hv;refine z3 ?_;refine aF rfl bE hw rfl fun w b6 hw => ?_;refine aT (cs := p.cells) (l' := p.cells) rfl tV rfl rfl ae rfl jd hw pK (by simp [bT.cells]) rfl rfl fun w hw => ?_;refine z6 ?_;refine Bw rfl hI rfl Oz ?_;refine aC ?_;refine di rfl (fun h1 => ?_) fun h1 => ?_
 ·
  refine z7 ?_;exact cz rfl rfl rfl rfl (by
 obtain ⟨h2, f, er, rfl, SC, rfl⟩ := Ny h1;refine .inr ⟨f, er, by unfold xh; rw [h2], rfl, SC, ?_⟩;exact (hw.b [ah b6 _ _, ah b3 _ _, Nz f _ _, ah q _ _, eL dp D]).tail.tail)
 obtain ⟨WQ, B0, rfl⟩ := UK h1;refine z2 ?_;refine bd [0, 1, 2, 3, 4, 5, 6, 7, 8, 9, 10, 11] bJ kR ?_;replace hw := hw.drawn (w.drawn + 1);refine z3 ?_;refine bt rfl rfl (ar.tL (cs := oz (aL s.cf)) cw hw pK rfl rfl) ?_;refine z1 ?_;refine lD (v := iQ n) ag hw ?_;refine al rfl uf rfl (we (p := aL s.cf) (n := n) hw oM) kR fun w S7 hv => ?_;obtain ⟨h0, hw⟩ := hv;obtain ⟨-, rfl⟩ := h0.resolve_left (fun h => h.1 ⟨oM, hn.2⟩);rw [show (aL s.cf).first + (n : Int) - 1 = at_ from Ay];refine mN ?_;refine pS (fun e w => e = [(0, pQ q), (3, pQ b3), (6, pQ b6), (8, iQ at_), (10, iQ (jU lev))] /\ an G (ah b6 p.cells 104 :: cB p :: ah b3 (qZ ((n : Int), lev)) 163 :: ah q (jQ dp s rv) 157 :: eL dp D :: L) w) ?_ ?_
 ·
  refine z3 ?_;refine lD (v := iQ lev) ag hw ?_;refine z7 ?_;refine aE rfl (fun h2 => ?_) fun h2 => ?_
  ·
   refine z3 ?_;exact ⟨[(0, _), (3, _), (6, _), (8, _), (10, _)], sB, by unfold jU; simp [h2], hw.b [ah b6 _ _, cB p, ah b3 _ _, ah q _ _, eL dp D]⟩
  refine z5 ?_;refine aE rfl (fun h3 => ?_) fun h3 => ?_
  ·
   refine z3 ?_;exact ⟨[(0, _), (3, _), (6, _), (8, _), (10, _)], sB, by unfold jU; simp [h2, h3], hw.b [ah b6 _ _, cB p, ah b3 _ _, ah q _ _, eL dp D]⟩
  refine dS ?_;exact ⟨[(0, _), (3, _), (6, _), (8, _), (10, _)], sB, by unfold jU; simp [h2, h3], hw.b [ah b6 _ _, cB p, ah b3 _ _, ah q _ _, eL dp D]⟩
 clear hw;rintro e w ⟨rfl, hw⟩;have gN : xh s D.bK ((n : Int), lev) = if p.kind ≠ jU lev \/ (jU lev = 2 /\ p.level ≠ lev) then none else if ∃ k ∈ cL p.pg, (aL s.cf).pages < k then none else some ((cL p.pg).map fun k => (k, if jU lev = 2 then lev - 1 else -1)) := by
  unfold xh; rw [WQ]; rfl
 refine z4 ?_;refine lD (v := iQ p.kind) ag hw ?_;refine z3 ?_;refine cu (l1 := [5, 6, 7, 8, 9, 10, 11, 12, 13, 14]) (l2 := []) rfl (d := 55) (p.kind ≠ jU lev \/ (jU lev = 2 /\ p.level ≠ lev)) rfl ?_ ?_
 ·
  refine ay (d := 45) rfl (fun h4 => ?_) fun h4 => ?_
  ·
   refine Ht ?_;refine cQ ?_;exact dC
  refine z3 ?_;refine ay (d := 48) rfl (fun h5 => ?_) fun h5 => ?_
  ·
   refine z1 ?_;refine lD (v := iQ p.level) ag hw ?_;refine z1 ?_;refine lD (v := iQ lev) ag hw ?_;refine z1 ?_;refine sO rfl rfl rfl rfl ?_;refine z2 ?_;refine cQ ?_;exact dC
  refine z5 ?_;refine qJ rfl rfl rfl rfl ?_;refine z2 ?_;refine cQ ?_;exact dC
 refine aC ?_;refine aE rfl (fun h6 => ?_) fun h6 => ?_
 ·
  refine z3 ?_;refine qK rfl eH sM rfl ?_;refine aO (v := .agg #[iQ at_, .iface 41 (iQ 15)]) rfl rfl (fun w => kR) ?_;refine a9 rfl rfl rfl hw rfl fun w b59 hw => ?_;refine qK rfl kf sM rfl ?_;refine z4 ?_;exact cz rfl rfl rfl rfl (by
 refine .inr ⟨b59, 15, by rw [gN]; exact ao h6, rfl, by decide, ?_⟩;rw [Ay];exact (hw.b [cB p, ah b6 _ _, ah b3 _ _, ah b59 _ _, ah q _ _, eL dp D]).tail.tail.tail)
 rw [aj h6] at gN;refine z5 ?_;refine pS (fun e w => e = [(0, pQ q), (6, pQ b6), (8, iQ at_), (11, iQ (if jU lev = 2 then lev - 1 else -1))] /\ an G (ah b6 p.cells 104 :: cB p :: ah b3 (qZ ((n : Int), lev)) 163 :: ah q (jQ dp s rv) 157 :: eL dp D :: L) w) ?_ ?_
 ·
  refine z5 ?_;refine aE rfl (fun h7 => ?_) fun h7 => ?_
  ·
   refine z2 ?_;refine lD (v := iQ lev) ag hw ?_;refine z3 ?_;exact ⟨[(0, _), (6, _), (8, _), (11, _)], sB, by rw [ao h7], hw⟩
  refine dS ?_;exact ⟨[(0, _), (6, _), (8, _), (11, _)], sB, by rw [aj h7], hw⟩
 clear hw;rintro e w ⟨rfl, hw⟩;have RU := Fo (TL WQ);obtain ⟨ks, HD⟩ : ∃ ks, cL p.pg = ks := ⟨_, rfl⟩;obtain ⟨bl, s8⟩ : ∃ bl, (if jU lev = 2 then lev - 1 else -1) = bl := ⟨_, rfl⟩;rw [HD, s8] at gN;rw [s8];rw [HD] at RU
 refine z7 ?_;refine lA (l := p.cells) ae hw ?_;refine al rfl nv rfl (pC (p := p) hw (aS B0 pK)) rfl fun w v67 hv => ?_;have hw := hv;rw [HD] at hw;obtain ⟨wa, wc, rfl⟩ := aP hw;refine z4 ?_;have hw := bI hw 163 2;refine bF (fun m e w => ∃ (k : Nat) (u : Value), k <= ks.length /\ m = ks.length - k /\ e = [(0, pQ q), (8, iQ at_), (11, iQ bl), (12, u), (67, .slice wa ks.length wc), (68, iQ ks.length), (69, iQ k)] /\ (∀ (j : Nat) (x : Int), j < k -> ks[j]? = some x -> ¬ (aL s.cf).pages < x) /\ an G (row 163 2 u k (Jt ((ks.take k).map fun k => (k, bl))) :: row 3 1 (.slice wa ks.length wc) ks.length (bg ks) :: ah b6 p.cells 104 :: cB p :: ah b3 (qZ ((n : Int), lev)) 163 :: ah q (jQ dp s rv) 157 :: eL dp D :: L) w)
  (m := ks.length) sB
  ⟨0, _, dy _, rfl, rfl, (fun j x h => by omega), hw⟩ ?_
 rintro m e w ⟨k, u, hk, rfl, rfl, fx, hw⟩;refine z5 ?_;refine aE rfl (fun h8 => ?_) fun h8 => ?_
 ·
  have gK : k < ks.length := oM;obtain ⟨x, hx⟩ : ∃ x, ks[k]? = some x := ⟨_, dm gK⟩;have iT : aG (row 3 1 (.slice wa ks.length wc) ks.length (bg ks) :: ah b6 p.cells 104 :: cB p :: ah b3 (qZ ((n : Int), lev)) 163 :: ah q (jQ dp s rv) 157 :: eL dp D :: L) (qx (.slice wa ks.length wc) (bg ks)) := uk;obtain ⟨bb, oo, rfl⟩ := ((iT.of sF).at hw).nn (by rw [bC]; omega);refine z5 ?_;refine cR rfl bp cm rfl rfl ⟨oM, oM⟩ ?_;refine bt rfl rfl (ar.one ag (((iT.of sF).at hw).at (by rw [ez]; exact Ee hx))) ?_;refine z9 ?_;refine cS rfl ry rfl ?_;refine lD (v := iQ (aL s.cf).pages) ag hw ?_;refine z2 ?_;refine aE rfl (fun h9 => ?_) fun h9 => ?_
  ·
   refine z3 ?_;refine qK rfl eH sM rfl ?_;refine aO (v := .agg #[iQ at_, .iface 41 (iQ 15)]) rfl rfl (fun w => kR) ?_;refine a9 rfl rfl rfl hw rfl fun w b83 hw => ?_;refine qK rfl kf sM rfl ?_;refine z4 ?_;exact cz rfl rfl rfl rfl (by
 refine .inr ⟨b83, 15, by rw [gN]; exact ao ⟨x, gl hx, h9⟩, rfl, by decide, ?_⟩;rw [Ay];exact (hw.b [row 163 _ _ _ _, row 3 _ _ _ _, cB p, ah b6 _ _, ah b3 _ _, ah b83 _ _, ah q _ _, eL dp D]).tail.tail.tail.tail.tail)
  refine z5 ?_;refine aO (v := gQ (qZ (x, bl))) rfl rfl (fun w => kR) ?_;refine fG (cs := qZ (x, bl)) rfl dO g3 ji dM rfl rfl rfl hw rfl fun w b89 hw => ?_;refine fH (m := k) (k := 1) (news := qZ (x, bl)) rfl dO g3 ny ji rfl rfl hw pK (Rd.jE hw pK) rfl (by intro u hu; simp [qZ] at hu; rcases hu with rfl | rfl <;> rfl) mL oM rfl (fun w v90 hw => ?_);refine z6 ?_;have hz := (hw.b [ah b89 _ _, row 163 _ v90 _ _, row 3 _ _ _ _, ah b6 _ _, cB p, ah b3 _ _, ah q _ _, eL dp D]).tail;have e1 : Jt ((ks.take k).map fun k => (k, bl)) ++ qZ (x, bl) = Jt ((ks.take (k + 1)).map fun k => (k, bl)) := by rw [cC hx, MW, kz]; rfl
  rw [e1] at hz;refine ⟨ks.length - (k + 1), oM, [(0, _), (8, _), (11, _), (12, _), (67, _), (68, _), (69, iQ (k + 1 : Nat))], sB, k + 1, _, oM, rfl, rfl, ?_, hz⟩;intro j y hj hy;rcases qz j k with h | h
  ·exact fx j y h hy
  have : j = k := oM;subst this;rw [hx] at hy; cases hy; exact h9
 refine z8 ?_;exact cz rfl rfl rfl rfl (by
 have pA : k = ks.length := oM;subst pA;rw [sX] at hw;refine .inl ⟨ks.map fun k => (k, bl), u, ?_, by rw [bX]; exact RU, rfl, ?_⟩
 ·rw [gN];refine aj ?_;rintro ⟨y, hy, iy⟩;obtain ⟨j, hj⟩ := List.mem_iff_getElem?.1 hy;have Vt : j < ks.length := (xu.1 hj).1;exact fx j y Vt hj iy
 ·rw [bX];exact (hw.b [row 3 _ _ _ _, cB p, ah b6 _ _, ah b3 _ _, row 163 _ _ _ _, ah q _ _, eL dp D]).tail.tail.tail.tail)
end
theorem T6 (w : World) : Calls prog 311 #[.int .u64 0] w fun e w' => e = .returned (iQ 0) /\ w' = w := by
 go_enter func311, ntmps311
 go_wp2
 go_ret
 exact ⟨by kernel_rfl, rfl⟩
theorem Wx (w : World) : Calls prog 311 #[.int .u64 1] w fun e w' => e = .returned (iQ 1) /\ w' = w := by
 go_enter func311, ntmps311
 go_wp2
 go_ret
 exact ⟨by kernel_rfl, rfl⟩
section
variable {G : Gh} {L R : List aw} {w : World}
theorem UX {n : Nat} (hw : an G L w) (hn : n <= 1) : Calls prog 311 #[.int .u64 n] w (bU fun r w' => ∃ x : Int, r = iQ x /\ an G L w') := by
 have h : n = 0 \/ n = 1 := oM;rcases h with rfl | rfl
 ·exact Calls.mono (T6 w) fun e w' hh => by obtain ⟨rfl, rfl⟩ := hh; exact ⟨_, rfl, 0, rfl, hw⟩
 exact Calls.mono (Wx w) fun e w' hh => by obtain ⟨rfl, rfl⟩ := hh; exact ⟨_, rfl, 1, rfl, hw⟩
theorem MO {n : Nat} (hw : an G L w) (hn : n <= 1) : Calls prog 238 #[.int .u64 n] w (bU fun r w' => ∃ x : Int, r = iQ x /\ an G L w') := by
 refine ad (args := [_]) func238 rfl ntmps238 rfl rfl ?_;refine z5 ?_;refine cg rfl ?_;refine z4 ?_;refine al rfl xZ rfl (UX hw hn) rfl fun w v7 hv => ?_;obtain ⟨x, rfl, hw⟩ := hv;refine z3 ?_;exact aK rfl rfl rfl ⟨x, rfl, hw⟩
structure zI (kv : KV) (l : List Int) : Prop where
 sub : ∀ k v, cO kv k = some v -> k ∈ l
 sup : ∀ k ∈ l, ∃ v, cO kv k = some v
 one : l.length <= 1
theorem zI.get {kv : KV} {l vis : List Int} (h : zI kv l) {k : Int} (hk : k ∈ l) (hn : k ∉ vis) (hs : ∀ x ∈ vis, x ∈ l) : vis = [] /\ l = [k] := by
 have h1 := h.one;have hl : l = [k] := by
  match l, hk, h1 with
  | [x], hk, _ => simp at hk; rw [hk]
 subst hl;refine ⟨?_, rfl⟩;cases vis with
 | nil => rfl
 | cons x r =>
  have := hs x sM;simp at this;subst this;exact absurd sM hn
def adk (l : List Int) (k : Nat) (args : List Value) (M : List aw) : Prop := ∃ x, l[k]? = some x /\ args = [iQ x]
theorem WC {kv : KV} {l : List Int} {b1 mm : Nat} (Ax : zI kv l) : Bq prog 140 [pQ b1] G (ah b1 [.map (some mm)] 147 :: bH mm kv :: L) w l.length (adk l) (ah b1 [.map (some mm)] 147 :: bH mm kv :: L) := by
 intro lq J Jx w hy hw;refine ad (args := [_, _]) func140 rfl ntmps140 rfl rfl ?_;refine z2 ?_;refine lD (v := .map (some mm)) jl hw ?_;refine X2 rfl fa rfl hw pK rfl fun w it hw => ?_;refine z2 ?_;refine bF (fun m e w => ∃ (vis : List Int), m = l.length + 1 - vis.length /\ e = [(0, .func (.yield lq) #[] #[]), (5, pQ it)] /\ (vis.Nodup /\ (∀ k ∈ vis, k ∈ l) /\ vis.length <= l.length) /\ an G (J vis.length :: y0 it mm kv vis :: ah b1 [.map (some mm)] 147 :: L) w)
  (m := l.length + 1) sB
  ⟨[], rfl, rfl, ⟨NV, (fun k h => by cases h), dy _⟩, hw.b [J 0]⟩ ?_
 rintro m e w ⟨vis, rfl, rfl, ⟨hvn, hvs, RN⟩, hw⟩;refine z2 ?_;refine aaJ rfl rfl hw pK rfl (fun w fx hw => ?_) fun w k v hk Ml hw => ?_
 ·
  refine z3 ?_;refine cg rfl ?_;refine z1 ?_;exact kC rfl rfl (.inl (by
 have hle := p5 (m := vis) (l := l) (by
  match l, Ax.one with
  | [], _ => exact NV
  | [x], _ => simp) (fun x hx => by obtain ⟨v, hv⟩ := Ax.sup x hx; exact fx x v hv)
 have he : vis.length = l.length := Nat.le_antisymm RN hle;rw [he] at hw;have hz := Fu (hw.b [y0 it mm _ _]);exact hz.b [J l.length, ah b1 _ _, bH mm kv]))
 have hkm := Ax.sub k v hk;obtain ⟨rfl, rfl⟩ := Ax.get hkm Ml hvs;have hw : an G (y0 it mm kv [k] :: J 0 :: ah b1 [.map (some mm)] 147 :: L) w := hw;refine z3 ?_;refine bY rfl ?_;refine z4 ?_;refine X4 rfl rfl hw pK hk ?_;refine z7 ?_;refine pk rfl rfl rfl (hy 0 _ _ w sM ⟨k, rfl, rfl⟩ (hw.b [J 0])) rfl fun w v12 hv => ?_;obtain ⟨bq, rfl, r9, zL⟩ := nD hv;refine jG rfl rfl ?_;refine aC ?_;refine di rfl (fun h1 => ?_) fun h1 => ?_
 ·
  refine rL ?_;exact kC rfl rfl (.inr (by
 have hz := zL (by simpa using h1);have hz := Fu (hz.b [y0 it mm _ _]);exact hz.b [Jx, ah b1 _ _, bH mm kv]))
 refine dS ?_;have hz := r9 (by simpa using h1);exact ⟨1, by simp, [(0, _), (5, _)], sB, [k], rfl, rfl, ⟨by simp, by simp, by simp⟩, hz.b [J 1, y0 it mm _ _, ah b1 _ _]⟩
theorem Kz {mm : Nat} (hw : an G L w) : Calls prog 67 #[.map (some mm)] w (bU fun r w' => ∃ b1, r = .func (.func 140) #[] #[pQ b1] /\ an G (ah b1 [.map (some mm)] 147 :: L) w') := by
 refine ad (args := [_]) func67 rfl ntmps67 rfl rfl ?_;refine z2 ?_;refine a9 rfl rfl rfl hw rfl fun w b1 hw => ?_;refine z4 ?_;refine gP (v1 := #[]) (v2 := #[pQ b1]) rfl (by intro z hz; simp at hz; subst hz; exact ⟨_, rfl⟩) sM (by simp only [jM, cH, gE]; rfl) ?_;refine z3 ?_;exact aK rfl rfl rfl ⟨b1, rfl, hw⟩
abbrev asJ (b2 : Nat) (l : List Int) (k : Nat) : aw := ex fun u : Value => aV [ah b2 [u] 22, row 3 1 u k (bg (l.take k))]
theorem U4 {b2 k : Nat} {l : List Int} {u : Value} (hw : an G (ah b2 [u] 22 :: row 3 1 u k (bg (l.take k)) :: L) w) : an G (asJ b2 l k :: L) w := an.gh u (an.bz (M := [_, _]) hw)
theorem QC {b2 k : Nat} {l : List Int} (hw : an G (asJ b2 l k :: L) w) : ∃ u : Value, an G (ah b2 [u] 22 :: row 3 1 u k (bg (l.take k)) :: L) w := by
 obtain ⟨u, hw⟩ := hw.fD;exact ⟨u, hw.cF⟩
theorem xL {kv : KV} {ls : List Int} {b1 mm : Nat} (hw : an G (ah b1 [.map (some mm)] 147 :: bH mm kv :: L) w) (Ax : zI kv ls) :
  Calls prog 236 #[nQ, .func (.func 140) #[] #[pQ b1]] w (bU fun r w' => an G (row 3 1 r ls.length (bg ls) :: L) w') := by
 have Uz := Ax.one;refine ad (args := [_, _]) func236 rfl ntmps236 rfl rfl ?_;refine z2 ?_;refine a9 rfl rfl rfl hw rfl fun w b2 hw => ?_;refine z8 ?_;have hw := bI hw 3 1;have hz := hw.b [ah b2 _ _, row 3 1 (nQ) 0 [], ah b1 _ _, bH mm _];clear hw;have hw := U4 (l := ls) (k := 0) hz;refine qI (e₀ := [(2, pQ b2)]) (fun k => asJ b2 ls k) (fun _ => False) [] rfl k7 rfl sG rfl hw (fun k args M h => by obtain ⟨x, _, rfl⟩ := h; rfl) (WC (w := w) Ax) ?_ ?_ ?_ ?_
 ·
  clear hw;intro l D1 o k args M w hk oJ hw;obtain ⟨x, hx, rfl⟩ := oJ;obtain ⟨u, hw⟩ := QC hw;obtain ⟨ua, uc, rfl⟩ := aP (hw.pick (A := row 3 1 u _ _) pK);refine z3 ?_;refine ⟨_, hw.pick (A := pt l o) pK, fun o' w hw => ?_⟩;refine z2 ?_;refine lD (v := .slice ua k uc) dU hw ?_;refine z1 ?_;refine fG (cs := [iQ x]) rfl bp cm gZ dM rfl rfl rfl hw rfl fun w rF hw => ?_;refine fH (m := k) (k := 1) (news := [iQ x]) rfl bp cm ni gZ rfl rfl hw pK (Rd.jE hw pK) rfl (by intro u hu; simp at hu; subst hu; rfl) mL oM rfl (fun w v11 hw => ?_);obtain ⟨na, nc, rfl⟩ := aP hw;refine bu (l' := [.slice na (k + 1) nc]) rfl tV rfl rfl dU rfl hw pK rfl rfl rfl fun w hw => ?_;refine aC ?_;have hz := (hw.b [ah rF _ _, ah b2 _ _, row 3 1 _ _ _]).tail;have e1 : bg (ls.take k) ++ [iQ x] = bg (ls.take (k + 1)) := by rw [cC hx, rX]
  rw [e1] at hz;exact U4 hz
 ·
  clear hw;intro D1 w hw;obtain ⟨u, hw⟩ := QC hw;rw [sX] at hw;obtain ⟨ua, uc, rfl⟩ := aP (hw.pick (A := row 3 1 u _ _) pK);refine z2 ?_;refine lD (v := .slice ua ls.length uc) dU hw ?_;refine z3 ?_;refine bB rfl ?_;refine gz hw pK fun w hw => ?_;exact p6 rfl rfl (hw.b [ah b2 _ _, ah b1 _ _, bH mm _, row 3 1 _ _ _]).tail.tail.tail
 ·
  clear hw; intro D w hw; exact (gC hw).elim fun _ h => h.1.elim
 intro id A hA; cases hA
theorem AR {kv : KV} {l : List Int} {b1 mm : Nat} (hw : an G (ah b1 [.map (some mm)] 147 :: bH mm kv :: L) w) (Ax : zI kv l) :
  Calls prog 138 #[.func (.func 140) #[] #[pQ b1]] w (bU fun r w' => an G (row 3 1 r l.length (bg l) :: L) w') := by
 refine ad (args := [_]) func138 rfl ntmps138 rfl rfl ?_;refine z7 ?_;refine al rfl oN rfl (xL hw Ax) rfl fun w v4 hv => ?_;have hw := hv;refine z3 ?_;exact aK rfl rfl rfl (hw)
theorem Cq {v : Value} {n : Nat} (hw : an G L w) (hn : n <= 1) : Calls prog 301 #[v, iQ 0, iQ n] w (bU fun r w' => an G L w') := by
 refine ad (args := [_, _, _]) func301 rfl ntmps301 rfl rfl ?_;refine z7 ?_;refine bF (fun m e w => ∃ (z : Nat), m = z + 1 /\ z = 0 /\ e = [(2, iQ n), (6, iQ 1)] /\ an G L w)
  (m := 1) sB
  ⟨0, rfl, rfl, rfl, hw⟩ ?_
 rintro m e w ⟨z, rfl, rfl, rfl, hw⟩;refine z7 ?_;refine aE rfl (fun h1 => ?_) fun h1 => ?_
 ·
  exact absurd h1 oM
 refine z1 ?_;exact kC rfl rfl (hw)
theorem OS {v : Value} {n : Nat} {x : Int} (hw : an G L w) (hn : n <= 1) : Calls prog 237 #[v, iQ 0, iQ n, iQ x] w (bU fun r w' => an G L w') := by
 refine ad (args := [_, _, _, _]) func237 rfl ntmps237 rfl rfl ?_;refine z9 ?_;refine bF (fun m e w => ∃ (z : Nat), m = z + 1 /\ z = 0 /\ e = [(0, v), (1, iQ 0), (2, iQ n)] /\ an G L w)
  (m := 1) sB
  ⟨0, rfl, rfl, rfl, hw⟩ ?_
 rintro m e w ⟨z, rfl, rfl, rfl, hw⟩;refine SM ?_;refine aE rfl (fun h1 => ?_) fun h1 => ?_
 ·
  refine z5 ?_;refine al rfl k5 rfl (Cq hw hn) rfl fun w Ya hv => ?_;have hw := hv;refine z2 ?_;exact kC rfl rfl (hw)
 exact absurd oM h1
theorem Ge {a : Option Addr} {n c : Nat} (hw : an G L w) (hn : n <= 1) : Calls prog 139 #[.slice a n c] w (bU fun r w' => an G L w') := by
 refine ad (args := [_]) func139 rfl ntmps139 rfl rfl ?_;refine mN ?_;refine dd (v := (n : Int)) rfl kR cP aax rfl (Vf oM) ?_;refine al rfl Be rfl (MO hw hn) rfl fun w v9 hv => ?_;obtain ⟨x, rfl, hw⟩ := hv;refine al rfl n' rfl (OS hw hn) rfl fun w v10 hv => ?_;have hw := hv;refine aC ?_;exact kC rfl rfl (hw)
theorem Cm {kv : KV} {l : List Int} {b1 mm : Nat} (hw : an G (ah b1 [.map (some mm)] 147 :: bH mm kv :: L) w) (Ax : zI kv l) :
  Calls prog 66 #[.func (.func 140) #[] #[pQ b1]] w (bU fun r w' => an G (row 3 1 r l.length (bg l) :: L) w') := by
 refine ad (args := [_]) func66 rfl ntmps66 rfl rfl ?_;refine z7 ?_;refine al rfl tJ rfl (AR hw Ax) rfl fun w v5 hv => ?_;have hw := hv;obtain ⟨ra, rc, rfl⟩ := aP hw;refine z5 ?_;refine al rfl sy rfl (Ge hw Ax.one) rfl fun w v7 hv => ?_;have hw := hv;refine z7 ?_;exact aK rfl rfl rfl (hw)
end
end Go.Proofs.YtjbkgbilbnccnaaGreatDoor.X
