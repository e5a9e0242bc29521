/- The ground and the walks of this claim, part 1: XRegion XCode XMem XPure XLd XRange XMore XMap XBase XBytes XPage XPage2 XPage3 XCmp XPage4 XPage5. -/
import Derived.Deep.Quiet
import Derived.Tactics
import Derived.OrdersIn
import Derived.RangeFuncRecord
import Derived.Scope
import Derived.WalkKit
import Derived.Test.YtjbkgbilbnccnaaGreatDoorRows
import Derived.Laws.IdiomCopy
import Derived.Lib.AppendZeros
import Derived.Laws.StructEq
import Derived.ChangeKeysEq
import Derived.OpenShut
import Derived.ReadAgain
import Derived.HandedShaped
import Derived.RecoverIn
import Derived.LaidEql
import Derived.Stop.Asserts
import Derived.RowKitTokens
import Derived.Test.YtjbkgbilbnccnaaGreatDoorTie
import Derived.Test.YtjbkgbilbnccnaaGreatDoorCards
import Derived.ProofKit
import Derived.LaidMore
import Derived.SevenTiedAt
namespace Go.Proofs.YtjbkgbilbnccnaaGreatDoor.X
open _root_.Go.Proofs.Tryz _root_.Go.Proofs.YtjbkgbilbnccnaaGreatDoor.Tryz
set_option linter.unusedVariables false
set_option linter.unusedSimpArgs false
set_option maxRecDepth 20000
set_option maxHeartbeats 8000000
abbrev pQ (b : Nat) : Value := .pointer (some ⟨b, 0, none⟩)
abbrev sQ (b m c : Nat) : Value := .slice (some ⟨b, 0, none⟩) m c
abbrev nQ : Value := .slice none 0 0
abbrev iQ (x : Int) : Value := .int .i64 x
abbrev gQ (l : List Value) : Value := .agg l.toArray
theorem tV : True := True.intro
theorem oM {p : Prop} (h : p := by omega) : p := h
theorem kR {p : Prop} (h : p := by kernel_rfl) : p := h
theorem sM {p : Prop} (h : p := by simp) : p := h
theorem dM {p : Prop} (h : p := by decide) : p := h
theorem mL {p : Prop} (h : p := by simp only [maxLen]; omega) : p := h
abbrev dm := @List.getElem?_eq_getElem
abbrev bX := @List.length_map
abbrev bQ := @List.mem_cons
abbrev c6 := @Decidable.not_not
abbrev de := @List.length_append
abbrev dg := @List.getElem?_map
abbrev cH := @List.map_cons
abbrev dz := @List.not_mem_nil
abbrev ez := @Int.toNat_natCast
abbrev gl := @List.mem_of_getElem?
abbrev dE := @List.mem_map
abbrev fB := @List.length_take
abbrev dy := @Nat.zero_le
abbrev lP := @List.getD_eq_getElem?_getD
abbrev gT := @List.length_drop
abbrev iD := @List.mem_cons_self
abbrev jN := @List.mem_cons_of_mem
abbrev gF := @List.mem_append
abbrev g5 := @List.length_cons
abbrev iC := @List.cons_append
abbrev ie := @List.nil_append
abbrev mG := @List.length_singleton
abbrev jM := @List.map_toArray
abbrev gE := @List.map_nil
abbrev oF := @List.take_of_length_le
abbrev qA := @Decidable.byContradiction
abbrev kz := @List.map_append
abbrev sY := @Array.getElem?_eq_some_iff
abbrev g8 := @Nat.le_refl
abbrev Ae := @List.eq_nil_of_length_eq_zero
abbrev xu := @List.getElem?_eq_some_iff
abbrev pZ := @List.append_assoc
abbrev vm := @List.drop_eq_nil_of_le
abbrev pz := @List.append_nil
abbrev rR := @Bool.and_eq_true
abbrev xt := @List.mem_append_left
abbrev sX := @List.take_length
abbrev rj := @List.mem_range
abbrev pY := @Nat.zero_add
abbrev qz := @Nat.lt_or_ge
abbrev Dp := @List.getElem?_eq_none
abbrev EZ := @Array.getElem?_eq_none
abbrev xr := @List.nodup_cons
abbrev rQ := @Int.le_refl
abbrev BL := @List.all_eq_true
abbrev JZ := @List.length_replicate
abbrev EY := @List.flatten_cons
abbrev Dn := @List.mem_filter
abbrev N8 := @Array.getElem?_eq_getElem
abbrev JY := @List.drop_succ_cons
abbrev LL := @List.contains_iff_mem
abbrev EX := @List.length_set
abbrev EW := @Nat.min_eq_left
abbrev JX := @List.filter_append
abbrev LK := @List.flatMap_append
abbrev LJ := @List.take_succ_cons
abbrev LI := @List.getElem?_range
abbrev LH := @List.map_congr_left
abbrev N7 := @List.take_append_drop
abbrev N6 := @List.length_filter_le
abbrev N5 := @List.mem_append_right
abbrev JW := @List.getElem_mem
abbrev BK := @Nat.add_mul
abbrev N4 := @Nat.pow_le_pow_right
abbrev LG := @List.flatMap_cons
abbrev LF := @List.ext_getElem?
abbrev Tz := @Array.getD_eq_getD_getElem?
abbrev JV := @List.length_nil
abbrev Ty := @List.getElem?_append_right
abbrev LD := @List.drop_length
abbrev LC := @Nat.mod_eq_of_lt
abbrev N3 := @List.getElem?_drop
abbrev Tx := @List.mem_of_find?_eq_some
abbrev Wh := @Array.getElem?_setIfInBounds_ne
abbrev EV := @Nat.mul_one
abbrev Hx := @List.map_map
abbrev Wg := @Array.getElem_setIfInBounds_ne
abbrev N2 := @List.nodup_append
abbrev Wf := @List.count_eq_zero_of_not_mem
abbrev N1 := @List.filter_cons
abbrev N0 := @List.mem_flatMap
abbrev We := @List.dropLast_concat_getLast
abbrev Rh := @Nat.lt_of_lt_of_le
abbrev Tw := @List.modify_succ_cons
abbrev NZ := @Option.map_some
abbrev NY := @List.find?_cons
abbrev LB := @List.sum_cons
abbrev Rf := @List.take_add_one
abbrev Wd := @List.drop_eq_getElem_cons
abbrev Wc := @List.getElem?_append_left
abbrev Tv := @List.mem_of_mem_take
abbrev Tu := @List.getElem?_modify
abbrev NX := @List.drop_zero
abbrev NW := @List.take_zero
abbrev NV := @List.nodup_nil
abbrev Zk := @Array.all_eq_true_iff_forall_mem
abbrev Re := @List.ext_getElem
abbrev LA := @List.map_set
abbrev Wb := @List.getElem?_replicate
abbrev Rc := @List.foldl_cons
abbrev Tt := @List.getElem?_take
abbrev Ts := @List.find?_eq_none
abbrev Wa := @Nat.testBit_lt_two_pow
abbrev V9 := @Nat.div_div_eq_div_mul
abbrev Tq := @List.getElem?_set
abbrev Rb := @List.drop_drop
abbrev NU := @Int.add_zero
abbrev Tp := @Array.mem_filter
abbrev To := @Option.getD_some
abbrev Zj := @Option.ne_none_iff_exists'
abbrev V8 := @List.getD_cons_zero
abbrev Tn := @List.range_succ
abbrev V7 := @Array.empty_append
abbrev Ra := @Nat.sub_zero
abbrev V6 := @List.append_of_mem
abbrev Q9 := @Nat.le_trans
abbrev V5 := @List.set_cons_succ
abbrev aj := @if_neg
abbrev ao := @if_pos
abbrev cd := @decide_eq_decide
def bU (R : Value -> World -> Prop) : Ending -> World -> Prop := fun e w => ∃ v, e = .returned v /\ R v w
def dk (P : Program) : Op -> Nat
 | .move _ | .assign _ | .pick .. | .fieldAddr .. | .field .. | .unOp .. | .extract .. | .nilCheck _ | .slice .. | .indexAddr .. | .index ..
 | .makeInterface .. | .makeFunc .. | .build .. | .typeAssert .. => 0
 | .binOp op t x y _ =>
  if op matches .eql | .neq then
   match P.underlying t with
   | some (.pointer _) | some (.interface _) => if Region.isConst x || Region.isConst y then 0 else 1
   | _ => 0
  else 0
 | .convert s d _ => match P.underlying s, P.underlying d with | some (.int _), some (.int _) => 0 | some (.string), some (.string) => 0 | _, _ => 2
 | .load .. | .lookup .. | .entry _ | .waits _ => 1
 | .call { callee := .builtin b, argTypes, .. } => match b with
  | .len | .cap => match (argTypes[0]?).bind P.underlying with | some (.map ..) | some (.chan ..) => 1 | _ => 0
  | .min | .max | .complex | .real | .imag => 0
  | _ => 2
 | _ => 2
def Fw (ro : Option Nat) : Fence := { Fence.wide with round := ro }
theorem Ad (ro : Option Nat) (m : Nat) : (Fw ro).room m := fun d hd => by cases hd
def zH (P : Program) (l : Nat) (f : FuncId) (tmps : Array Value) (assign body : Code) (w : World) (R : Ending -> World -> Prop) : Prop := RoundIn (Fw none) 0 P l f tmps assign body w R
theorem zH.fw {P : Program} {l : Nat} {f : FuncId} {tmps : Array Value} {assign body : Code} {w : World} {R : Ending -> World -> Prop} (h : zH P l f tmps assign body w R) (ro : Option Nat) (n : Nat) : RoundIn (Fw ro) n P l f tmps assign body w R :=
 ⟨trivial, fun c cs _ => h.2 c cs (Ad _ _)⟩
theorem Calls.fw {P : Program} {f : FuncId} {args : Array Value} {w : World} {R : Ending -> World -> Prop} (h : Calls P f args w R) (ro : Option Nat) (n : Nat) : CallsIn (Fw ro) n P f args w R :=
 ⟨trivial, fun cs _ => (callsIn_wide (n := 0).2 h).2 cs (Ad none _)⟩
theorem zH.ex {P : Program} {l : Nat} {f : FuncId} {tmps : Array Value} {assign body : Code} {w : World} {V : Value -> World -> Prop} (h : zH P l f tmps assign body w (bU V)) : ∃ v w', V v w' := by
 obtain ⟨e, w', ⟨v, _, hv⟩, _⟩ := h.2 default [] (Ad none _); exact ⟨_, _, hv⟩
section
variable {P : Program} {ops : Array Oper} {md : Region.Mode}
def xp (P : Program) (s : Sem Next) (k : Nat) (w : World) (V : Value -> World -> Prop) : Prop :=
 match k with
 | 0 => ∃ v, (∀ w', s.run P w' = .ok (.value v) w') /\ V v w
 | 1 => ∃ v, s.run P w = .ok (.value v) w /\ V v w
 | _ => match s.run P w with
  | .ok (.value v) w' => V v w'
  | .ok .skip w' => V undef w'
  | .ok (.enter f args) w' => Calls P f args w' (bU V)
  | .ok (.round l f tmps assign body) w' => zH P l f tmps assign body w' (bU V)
  | _ => False
theorem hO {s : Sem Next} {k : Nat} {w : World} {V V' : Value -> World -> Prop} (h : ∀ v w', V v w' -> V' v w') (hh : xp P s k w V) : xp P s k w V' := by
 unfold xp at *
 match k with
 | 0 => obtain ⟨v, h1, h2⟩ := hh; exact ⟨v, h1, h _ _ h2⟩
 | 1 => obtain ⟨v, h1, h2⟩ := hh; exact ⟨v, h1, h _ _ h2⟩
 | k + 2 =>
  simp only at hh ⊢
  generalize s.run P w = r at *
  cases r with
  | ok n w' =>
   cases n <;> simp only at hh ⊢
   case value v => exact h _ _ hh
   case skip => exact h _ _ hh
   case enter f args => exact hh.mono fun e CP ⟨v, he, hv⟩ => ⟨v, he, h _ _ hv⟩
   case round => exact RoundIn.mono hh fun e CP ⟨v, he, hv⟩ => ⟨v, he, h _ _ hv⟩
  | halt x w' => exact hh.elim
theorem Px {s : Sem Next} {k : Nat} {w : World} {V : Value -> World -> Prop} (hh : xp P s k w V) : ∃ v w', V v w' := by
 unfold xp at hh
 match k with
 | 0 => obtain ⟨v, _, h2⟩ := hh; exact ⟨_, _, h2⟩
 | 1 => obtain ⟨v, _, h2⟩ := hh; exact ⟨_, _, h2⟩
 | k + 2 =>
  simp only at hh
  generalize s.run P w = r at *
  cases r with
  | ok n w' =>
   cases n <;> simp only at hh
   case value v => exact ⟨_, _, hh⟩
   case skip => exact ⟨_, _, hh⟩
   case enter f args => obtain ⟨e, CP, fr, ⟨v, _, hv⟩, _⟩ := hh []; exact ⟨_, _, hv⟩
   case round => exact hh.ex
  | halt x w' => exact hh.elim
def NB (P : Program) (ops : Array Oper) (o : Oper) (K : Act -> World -> Prop) (a : Act) (w : World) : Prop :=
 if Region.wanted o (yielded ops a.tmps) then xp P (execOp a.eval o) (dk P o.op) w (fun v w' => K (a.put o.dst v) w') else K (a.put o.dst undef) w
theorem Hb {o : Oper} {K K' : Act -> World -> Prop} {a : Act} {w : World} (h : ∀ v w', K (a.put o.dst v) w' -> K' (a.put o.dst v) w') (hh : NB P ops o K a w) : NB P ops o K' a w := by
 unfold NB at *;split
 ·rename_i hw; rw [ao hw] at hh; exact hO (fun v w' => h v w') hh
 rename_i hw; rw [aj hw] at hh; exact h _ _ hh
theorem aay {o : Oper} {K : Act -> World -> Prop} {a : Act} {w : World} (hh : NB P ops o K a w) : ∃ v w', K (a.put o.dst v) w' := by
 unfold NB at hh;split at hh
 ·exact Px hh
 exact ⟨_, _, hh⟩
def rz (md : Region.Mode) (ops : Array Oper) (i : Nat) : List Nat :=
 (List.range ops.size).foldl (fun s j => if s.contains j then s else match ops[j]? with
  | some o => if o.after.any (fun e => Region.binds md e && s.contains e.on) then j :: s else s
  | none => s) [i]
structure kU (md : Region.Mode) (ops : Array Oper) (listed : Array Bool) : Prop where
 size : listed.size = ops.size
 TB : ∀ j o, ops[j]? = some o -> listed.getD j false = true -> ∀ e ∈ o.after, Region.binds md e = true -> listed.getD e.on false = true
theorem MH (i : Nat) : ∀ j ∈ rz md ops i, j = i \/ ∃ o, ops[j]? = some o /\ ∃ e ∈ o.after, Region.binds md e = true /\ e.on ∈ rz md ops i ∧
  ∀ listed, kU md ops listed -> listed.getD i false = false -> listed.getD e.on false = false := by
 unfold rz
 suffices h : ∀ (l : List Nat) (s : List Nat),
   (∀ j ∈ s, j = i \/ ∃ o, ops[j]? = some o /\ ∃ e ∈ o.after, Region.binds md e = true /\ e.on ∈ s /\ ∀ listed, kU md ops listed -> listed.getD i false = false -> listed.getD e.on false = false) →
   (∀ j ∈ (l.foldl (fun s j => if s.contains j then s else match ops[j]? with
    | some o => if o.after.any (fun e => Region.binds md e && s.contains e.on) then j :: s else s
    | none => s) s), j = i \/ ∃ o, ops[j]? = some o /\ ∃ e ∈ o.after, Region.binds md e = true /\ e.on ∈ (l.foldl (fun s j => if s.contains j then s else match ops[j]? with
    | some o => if o.after.any (fun e => Region.binds md e && s.contains e.on) then j :: s else s
    | none => s) s) /\ ∀ listed, kU md ops listed -> listed.getD i false = false -> listed.getD e.on false = false) from
  h _ [i] sM
 intro l
 induction l with
 | nil => intro s hs; exact hs
 | cons k l ih =>
  intro s hs;simp only [Rc];refine ih _ ?_;split
  ·exact hs
  split
  ·rename_i o ho;split
   ·rename_i acY;obtain ⟨e, he, hb⟩ := Array.any_eq_true'.1 acY;simp only [rR, LL] at hb;intro j hj;rcases bQ.1 hj with rfl | hj
    ·refine .inr ⟨o, ho, e, he, hb.1, jN _ hb.2, fun listed hc hi => ?_⟩;rcases hs _ hb.2 with h1 | ⟨o', RS, e', he', P4, _, fx⟩
     ·rw [h1]; exact hi
     cases hl : listed.getD e.on false with
     | false => rfl
     | true => have := hc.TB _ _ RS hl e' he' P4; rw [fx listed hc hi] at this; cases this
    rcases hs j hj with h1 | ⟨o', RS, e', he', P4, hm, fx⟩
    ·exact .inl h1
    exact .inr ⟨o', RS, e', he', P4, jN _ hm, fx⟩
   exact hs
  exact hs
theorem HQ {i j : Nat} {listed : Array Bool} (hc : kU md ops listed) (hi : listed.getD i false = false) (hj : j ∈ rz md ops i) : listed.getD j false = false := by
 rcases MH i j hj with h | ⟨o, ho, e, he, hb, _, fx⟩
 ·rw [h]; exact hi
 cases hl : listed.getD j false with
 | false => rfl
 | true => have := hc.TB _ _ ho hl e he hb; rw [fx listed hc hi] at this; cases this
theorem p8 {i j : Nat} {listed : Array Bool} (hc : kU md ops listed) (hi : listed.getD i false = false) (hj : j ∈ rz md ops i) (qF : j ≠ i) : j ∉ Region.ready md ops listed := by
 intro hr;obtain ⟨_, o, ho, fx⟩ := mem_ready.1 hr;rcases MH i j hj with h | ⟨o', RS, e, he, hb, _, PR⟩
 ·exact qF h
 have : o' = o := Option.some.inj (RS.symm.trans ho);subst this;have h1 := fx e he hb;rw [PR listed hc hi] at h1; cases h1
theorem unl {listed : Array Bool} {i : Nat} (h : listed.getD i true = false) : listed.getD i false = false := by
 rcases qz i listed.size with h' | h'
 ·simp [h'] at h ⊢; exact h
 simp [EZ h'] at h
theorem kU.set {listed : Array Bool} {i : Nat} (hc : kU md ops listed) (hi : i ∈ Region.ready md ops listed) : kU md ops (listed.setIfInBounds i true) := by
 obtain ⟨_, oi, Uv, fx⟩ := mem_ready.1 hi;refine ⟨by simp [hc.size], fun j oj hj hl e he hb => ?_⟩
 by_cases hij : i = j
 ·subst hij;have : oj = oi := Option.some.inj (hj.symm.trans Uv);subst this;exact getD_set_true (fx e he hb)
 rw [getD_set_ne false hij] at hl;exact getD_set_true (hc.TB j oj hj hl e he hb)
def Se (k1 k2 : Nat) : Bool := k1 == 0 || k2 == 0 || k1 == 1
def pb (P : Program) (md : Region.Mode) (ops : Array Oper) (q i : Nat) : Bool :=
 match ops[q]?, ops[i]? with
 | some oq, some oi => Nat.ble 2 (dk P oi.op) && dk P oq.op == 1 && !(rz md ops q).contains i
 | _, _ => false
def X1 (P : Program) (ops : Array Oper) (o : Oper) (a : Act) (w : World) : Prop :=
 Region.wanted o (yielded ops a.tmps) = true -> ∃ v, (execOp a.eval o).run P w = .ok (.value v) w /\ ∀ d, o.dst = some d -> a.tmps.getD d undef = v
def Nj (P : Program) (md : Region.Mode) (ops : Array Oper) (done : List Nat) (i : Nat) (a : Act) (w : World) : Prop :=
 ∀ q ∈ done, pb P md ops q i = true -> ∀ o, ops[q]? = some o -> X1 P ops o a w
def lG (P : Program) (md : Region.Mode) (ops : Array Oper) (done : List Nat) (i : Nat) (o : Oper) (K : Act -> World -> Prop) (a : Act) (w : World) : Prop :=
 if Region.wanted o (yielded ops a.tmps) then
  xp P (execOp a.eval o) (dk P o.op) w (fun v w' => Nj P md ops done i (a.put o.dst v) w' /\ K (a.put o.dst v) w')
 else K (a.put o.dst undef) w
theorem Nh {done : List Nat} {i : Nat} {o : Oper} {K : Act -> World -> Prop} {a : Act} {w : World} (h : lG P md ops done i o K a w) : NB P ops o K a w := by
 unfold lG at h; unfold NB;split
 ·rename_i hw; rw [ao hw] at h; exact hO (fun v w' h => h.2) h
 rename_i hw; rw [aj hw] at h; exact h
theorem jn {done : List Nat} {i : Nat} {o : Oper} {K K' : Act -> World -> Prop} {a : Act} {w : World} (h : ∀ v w', K (a.put o.dst v) w' -> K' (a.put o.dst v) w') (hh : lG P md ops done i o K a w) :
  lG P md ops done i o K' a w := by
 unfold lG at *;split
 ·rename_i hw; rw [ao hw] at hh; exact hO (fun v w' hk => ⟨hk.1, h v w' hk.2⟩) hh
 rename_i hw; rw [aj hw] at hh; exact h _ _ hh
theorem QI {oq oi : Oper} (hs : ∀ cs b, oq.op ≠ .select cs b) (gN : ∀ d, oi.dst = some d -> d ∉ oq.looksAt ops /\ oq.dst ≠ some d) {a : Act} {w : World} {v : Value} :
  X1 P ops oq (a.put oi.dst v) w ↔ X1 P ops oq a w := by
 unfold X1;rw [wanted_put oq a oi.dst v fun d hd => (gN d hd).1, execOp_put oq hs a oi.dst v fun d hd => (gN d hd).1];have e : ∀ d, oq.dst = some d -> (a.put oi.dst v).tmps.getD d undef = a.tmps.getD d undef := fun d hd => by
  cases hi : oi.dst with
  | none => rfl
  | some c =>
   have qF : c ≠ d := fun hcd => (gN c hi).2 (by rw [hd, hcd])
   simp [Act.put, Wh qF]
 constructor <;> intro h hw <;> obtain ⟨u, h1, h2⟩ := h hw <;> refine ⟨u, h1, fun d hd => ?_⟩
 ·rw [<-e d hd]; exact h2 d hd
 rw [e d hd]; exact h2 d hd
theorem w4 {q i : Nat} {oq oi : Oper} (hq : ops[q]? = some oq) (hi : ops[i]? = some oi) (h : pb P md ops q i = true) : 2 <= dk P oi.op /\ dk P oq.op = 1 /\ i ∉ rz md ops q := by
 unfold pb at h; rw [hq, hi] at h
 simpa [and_assoc] using h
theorem Sp {done : List Nat} {i j : Nat} {oi oj : Oper} (hi : ops[i]? = some oi) (hj : ops[j]? = some oj)
  (hap : oi.apart ops oj = true) (WM : ∀ (j : Nat) (o : Oper) cs b, ops[j]? = some o -> o.op ≠ .select cs b)
  (hc : Se (dk P oi.op) (dk P oj.op) = true) (Kb : j ∉ rz md ops i) (PU : dk P oi.op = 1 -> ∀ d, oi.dst = some d -> d ∉ oi.looksAt ops) {n : Nat} (W0 : ∀ d, oi.dst = some d -> d < n) {K : Act -> World -> Prop} {a : Act} {w : World} (ed : a.tmps.size = n)
  (hci : ∀ q ∈ done, ∀ oq, ops[q]? = some oq -> dk P oq.op = 1 -> ∀ d, oi.dst = some d -> d ∉ oq.looksAt ops /\ oq.dst ≠ some d)
  (hcj : ∀ q ∈ done, ∀ oq, ops[q]? = some oq -> dk P oq.op = 1 -> ∀ d, oj.dst = some d -> d ∉ oq.looksAt ops /\ oq.dst ≠ some d)
  (h : lG P md ops done i oi (lG P md ops (i :: done) j oj K) a w) : lG P md ops done j oj (lG P md ops (j :: done) i oi K) a w := by
 have ZX : ∀ cs b, oi.op ≠ .select cs b := fun cs b => WM i oi cs b hi
 have hsj : ∀ cs b, oj.op ≠ .select cs b := fun cs b => WM j oj cs b hj
 obtain ⟨h1, h2, h3⟩ := Oper.apart_spec hap;have wj : ∀ v, Region.wanted oj (yielded ops (a.put oi.dst v).tmps) = Region.wanted oj (yielded ops a.tmps) := fun v => wanted_put oj a oi.dst v h1
 have ej : ∀ v, execOp (a.put oi.dst v).eval oj = execOp a.eval oj := fun v => execOp_put oj hsj a oi.dst v h1
 have wi : ∀ u, Region.wanted oi (yielded ops (a.put oj.dst u).tmps) = Region.wanted oi (yielded ops a.tmps) := fun v => wanted_put oi a oj.dst v h3
 have ei : ∀ u, execOp (a.put oj.dst u).eval oi = execOp a.eval oi := fun v => execOp_put oi ZX a oj.dst v h3
 have pc : ∀ v u, (a.put oi.dst v).put oj.dst u = (a.put oj.dst u).put oi.dst v := fun v u => Act.put_comm a v u h2
 have chI : ∀ q ∈ done, ∀ oq, ops[q]? = some oq -> dk P oq.op = 1 -> ∀ (b : Act) v w', X1 P ops oq (b.put oi.dst v) w' ↔ X1 P ops oq b w' := fun q hq oq C5 hk b v w' =>
  QI (WM q oq · · C5) (hci q hq oq C5 hk)
 have chJ : ∀ q ∈ done, ∀ oq, ops[q]? = some oq -> dk P oq.op = 1 -> ∀ (b : Act) v w', X1 P ops oq (b.put oj.dst v) w' ↔ X1 P ops oq b w' := fun q hq oq C5 hk b v w' =>
  QI (WM q oq · · C5) (hcj q hq oq C5 hk)
 have reJ : ∀ v u w', Nj P md ops (i :: done) j ((a.put oi.dst v).put oj.dst u) w' -> Nj P md ops done j (a.put oj.dst u) w' := fun v u w' hr q hq hp oq C5 => by
  obtain ⟨_, hk, _⟩ := w4 C5 hj hp;have := hr q (jN _ hq) hp oq C5;rw [pc] at this;exact (chI q hq oq C5 hk _ v w').1 this
 have reI : ∀ v u w', Nj P md ops done i (a.put oi.dst v) w' -> Nj P md ops (j :: done) i ((a.put oj.dst u).put oi.dst v) w' := fun v u w' hr q hq hp oq C5 => by
  obtain ⟨C7, hk, _⟩ := w4 C5 hi hp;rcases bQ.1 hq with rfl | hq
  ·have : oq = oj := Option.some.inj (C5.symm.trans hj);subst this;simp [Se, hk] at hc; omega
  rw [<-pc]; exact (chJ q hq oq C5 hk _ u w').2 (hr q hq hp oq C5)
 by_cases RM : Region.wanted oi (yielded ops a.tmps) = true
 case neg =>
  unfold lG at h; rw [aj RM, wj] at h
  unfold lG
  by_cases PO : Region.wanted oj (yielded ops a.tmps) = true
  ·rw [ao PO, ej] at h; rw [ao PO];refine hO (fun u w' ⟨hr, hK⟩ => ⟨reJ undef u w' hr, ?_⟩) h;rw [wi, aj RM, <-pc]; exact hK
  rw [aj PO] at h; rw [aj PO, wi, aj RM, <-pc]; exact h
 by_cases PO : Region.wanted oj (yielded ops a.tmps) = true
 case neg =>
  unfold lG at h; rw [ao RM] at h
  unfold lG; rw [aj PO, wi, ao RM, ei];refine hO (fun v w' ⟨hr, hK⟩ => ⟨reI v undef w' hr, ?_⟩) h;rw [wj, aj PO, pc] at hK; exact hK
 by_cases ki : dk P oi.op = 0
 ·unfold lG at h; rw [ao RM, ki] at h
  obtain ⟨v, hv, hr0, hK⟩ := h;rw [wj, ao PO, ej] at hK;unfold lG; rw [ao PO];refine hO (fun u w' ⟨hr, hK'⟩ => ⟨reJ v u w' hr, ?_⟩) hK;rw [wi, ao RM, ei, ki];refine ⟨v, hv, fun q hq hp oq C5 => ?_, by rw [<-pc]; exact hK'⟩;obtain ⟨C7, _⟩ := w4 C5 hi hp; omega
 by_cases kj : dk P oj.op = 0
 ·unfold lG at h; rw [ao RM] at h
  obtain ⟨v0, w0, _, h0⟩ := Px h;rw [wj, ao PO, ej, kj] at h0;obtain ⟨u, hu, _⟩ := h0;unfold lG; rw [ao PO, kj];refine ⟨u, hu, fun q hq hp oq C5 => ?_, ?_⟩
  ·obtain ⟨C7, _⟩ := w4 C5 hj hp; omega
  rw [wi, ao RM, ei];refine hO (fun v w' ⟨hr, hK⟩ => ⟨reI v u w' hr, ?_⟩) h;rw [wj, ao PO, ej, kj] at hK;obtain ⟨u', PS, _, hK⟩ := hK;have : u' = u := by have := (PS w').symm.trans (hu w'); simpa using this
  subst this;rw [<-pc]; exact hK
 have hk : dk P oi.op = 1 := by simpa [Se, ki, kj] using hc
 unfold lG at h; rw [ao RM, hk] at h
 obtain ⟨v, hv, _, h⟩ := h;rw [wj, ao PO, ej] at h;unfold lG; rw [ao PO]
 by_cases kj1 : dk P oj.op = 1
 ·rw [kj1] at h ⊢;obtain ⟨u, hu, hr, hK⟩ := h;refine ⟨u, hu, reJ v u w hr, ?_⟩;rw [wi, ao RM, ei, hk];refine ⟨v, hv, fun q hq hp oq C5 => ?_, by rw [<-pc]; exact hK⟩;obtain ⟨C7, _⟩ := w4 C5 hi hp; omega
 refine hO (fun u w' ⟨hr, hK⟩ => ⟨reJ v u w' hr, ?_⟩) h;rw [wi, ao RM, ei, hk];have hp : pb P md ops i j = true := by unfold pb; simp only [hi, hj]; simp [hk, Kb]; omega
 have Ho := hr i (iD ..) hp oi hi;have acd : Region.wanted oi (yielded ops ((a.put oi.dst v).put oj.dst u).tmps) = true := by rw [pc, wanted_put oi _ oi.dst v (PU hk), wi]; exact RM
 obtain ⟨v', h4, h5⟩ := Ho acd;rw [pc, execOp_put oi ZX _ oi.dst v (PU hk), ei] at h4;refine ⟨v', h4, fun q hq hp oq C5 => ?_, ?_⟩
 ·obtain ⟨C7, _⟩ := w4 C5 hi hp; omega
 rw [pc] at hK;cases hd : oi.dst with
 | none => rw [hd] at hK; exact hK
 | some d =>
  have e1 := h5 d hd;have e2 : ((a.put oi.dst v).put oj.dst u).tmps.getD d undef = v := by
   rw [pc, hd];have Ei : (a.put oj.dst u).tmps.size = n := by cases oj.dst <;> simp [Act.put, ed]
   have iy := W0 d hd
   generalize a.put oj.dst u = b at Ei
   simp [Act.put, Ei, iy]
  rw [e2] at e1; subst e1;rw [hd] at hK; exact hK
def He (P : Program) (md : Region.Mode) (ops : Array Oper) (Q : Act -> World -> Prop) : Nat -> Array Bool -> List Nat -> Act -> World -> Prop
 | 0, listed, _, a, w => Region.ready md ops listed = [] /\ Q a w
 | fuel + 1, listed, done, a, w =>
  (Region.ready md ops listed = [] -> Q a w) /\ ∀ i ∈ Region.ready md ops listed, ∀ o, ops[i]? = some o -> lG P md ops done i o (He P md ops Q fuel (listed.setIfInBounds i true) (i :: done)) a w
theorem Rw {o : Oper} {ρ : Operand -> Value} {w : World} {V : Value -> World -> Prop} (h : xp P (execOp ρ o) (dk P o.op) w V) : ∀ c, o.op ≠ .defer c := by
 intro c hc;have hk : dk P o.op = 2 := by rw [hc]; rfl
 rw [hk] at h;unfold xp at h
 unfold execOp at h;rw [hc] at h
 simp only [Sem.run_bind] at h
 generalize (resolve ρ c o.type).run P w = r at h
 cases r with
 | ok d w' => simp [Result.andThen] at h
 | halt x w' => simp [Result.andThen] at h
theorem lI {ro : Option Nat} {i : Nat} {o : Oper} (ho : ops[i]? = some o) {a : Act} {w : World} {K K' : Act -> World -> Prop} {Q' : Exit -> Act -> World -> Prop} (h : ∀ a w', K a w' -> K' a w') (hh : NB P ops o K a w) : wpOpIn (Fw ro) 0 P ops Q' i K' a w := by
 unfold wpOpIn;simp only [ho];unfold NB at hh;split
 ·rename_i hw;rw [ao hw] at hh;refine ⟨fun _ _ => trivial, ?_⟩;rw [Oper.semAt_eq _ _ _ (Rw hh)];unfold xp at hh
  split at hh
  ·obtain ⟨v, hv, hK⟩ := hh; rw [hv w]; exact h _ _ hK
  ·obtain ⟨v, hv, hK⟩ := hh; rw [hv]; exact h _ _ hK
  generalize (execOp a.eval o).run P w = r at *
  cases r with
  | ok n w' =>
   cases n <;> simp only [Oper.uponIn] at hh ⊢
   case value v => exact h _ _ hh
   case skip => exact h _ _ hh
   case enter f args => exact ⟨(fun hd => by cases hd), Calls.fw (Calls.mono hh fun e CP ⟨v, he, hv⟩ => by subst he; exact h _ _ hv) _ _⟩
   case round => exact ⟨(fun hd => by cases hd), zH.fw (RoundIn.mono hh fun e CP ⟨v, he, hv⟩ => by subst he; exact h _ _ hv) _ _⟩
  | halt x w' => exact hh.elim
 rename_i hw; rw [aj hw] at hh; exact ⟨fun _ _ => trivial, h _ _ hh⟩
theorem rf {ro : Option Nat} {Q : Act -> World -> Prop} {Q' : Exit -> Act -> World -> Prop} (hQ : ∀ a w, Q a w -> Q' .normal a w) : ∀ (fuel : Nat) (listed : Array Bool) (done : List Nat) (a : Act) (w : World),
  He P md ops Q fuel listed done a w -> wpAnyIn (Fw ro) 0 P md ops Q' fuel listed a w
 | 0, _, _, _, _, h => ⟨h.1, hQ _ _ h.2⟩
 | fuel + 1, _, _, _, _, h => ⟨fun h0 => hQ _ _ (h.1 h0), fun i hi => by
   obtain ⟨_, o, ho, _⟩ := mem_ready.1 hi;exact lI ho (fun a' w' => rf hQ fuel _ _ a' w') (Nh (h.2 i hi o ho))⟩
structure Hk (P : Program) (md : Region.Mode) (ops : Array Oper) (n : Nat) : Prop where
 sel : ∀ (j : Nat) (o : Oper) cs b, ops[j]? = some o -> o.op ≠ .select cs b
 dst : ∀ (j : Nat) (o : Oper), ops[j]? = some o -> ∀ d, o.dst = some d -> d < n
 reads : ∀ (q : Nat) (oq : Oper), ops[q]? = some oq -> dk P oq.op = 1 -> ∀ (i : Nat) (oi : Oper), ops[i]? = some oi -> (∀ d, oi.dst = some d -> d ∉ oq.looksAt ops /\ (i = q \/ oq.dst ≠ some d)) \/ (i ≠ q /\ q ∈ rz md ops i)
theorem Af {a : Act} {n : Nat} (h : a.tmps.size = n) (d : Option Tmp) (v : Value) : (a.put d v).tmps.size = n := by cases d <;> simp [Act.put, h]
theorem Sq {d1 d2 : List Nat} (h : ∀ q ∈ d2, q ∈ d1) {i : Nat} {o : Oper} {K : Act -> World -> Prop} {a : Act} {w : World} (hh : lG P md ops d1 i o K a w) : lG P md ops d2 i o K a w := by
 unfold lG at *;split
 ·rename_i hw; rw [ao hw] at hh; exact hO (fun v w' hk => ⟨fun q hq => hk.1 q (h q hq), hk.2⟩) hh
 rename_i hw; rw [aj hw] at hh; exact hh
theorem JF {Q : Act -> World -> Prop} : ∀ (fuel : Nat) (listed : Array Bool) (d1 d2 : List Nat) (a : Act) (w : World), (∀ q ∈ d2, q ∈ d1) -> He P md ops Q fuel listed d1 a w -> He P md ops Q fuel listed d2 a w
 | 0, _, _, _, _, _, _, h => h
 | fuel + 1, listed, d1, d2, a, w, hs, h => ⟨h.1, fun i hi o ho => Sq hs (jn (fun v w' h' => JF fuel _ (i :: d1) (i :: d2) _ _ (fun q hq => by
   rcases bQ.1 hq with rfl | hq
   ·exact iD ..
   ·exact jN _ (hs q hq)) h') (h.2 i hi o ho))⟩
theorem Hd {n : Nat} (gN : Hk P md ops n) {Q : Act -> World -> Prop} {i : Nat} {oi : Oper} (hi : ops[i]? = some oi) :
  ∀ (fuel : Nat) (listed : Array Bool) (done : List Nat) (a : Act) (w : World), a.tmps.size = n -> kU md ops listed -> (∀ q ∈ done, listed.getD q false = true) →
   (∀ j oj, ops[j]? = some oj -> j ≠ i -> listed.getD j true = false -> j ∉ rz md ops i -> oi.apart ops oj = true /\ Se (dk P oi.op) (dk P oj.op) = true) →
   i ∈ Region.ready md ops listed -> lG P md ops done i oi (He P md ops Q fuel (listed.setIfInBounds i true) (i :: done)) a w -> He P md ops Q (fuel + 1) listed done a w := by
 have clean : ∀ (listed : Array Bool) (done : List Nat), kU md ops listed -> (∀ q ∈ done, listed.getD q false = true) -> ∀ i oi, ops[i]? = some oi -> listed.getD i true = false →
   ∀ q ∈ done, ∀ oq, ops[q]? = some oq -> dk P oq.op = 1 -> ∀ d, oi.dst = some d -> d ∉ oq.looksAt ops /\ oq.dst ≠ some d := by
  intro listed done hc hd i oi hi PR q hq oq C5 hk d W0;have hqi : i ≠ q := fun e => by subst e; have := hd _ hq; rw [unl PR] at this; cases this
  rcases gN.reads q oq C5 hk i oi hi with h | ⟨_, h⟩
  ·exact ⟨(h d W0).1, (h d W0).2.resolve_left hqi⟩
  have := HQ hc (unl PR) h; rw [hd _ hq] at this; cases this
 intro fuel
 induction fuel with
 | zero =>
  intro listed done a w ed hc hd _ hr H;refine ⟨fun h => (by rw [h] at hr; cases hr), fun j hj oj Vp => ?_⟩
  by_cases Fz : j = i
  ·subst Fz;have : oj = oi := Option.some.inj (Vp.symm.trans hi);subst this; exact H
  have := ready_mono hj Fz;obtain ⟨_, _, h0⟩ := aay (Nh H);rw [h0.1] at this;cases this
 | succ fuel ih =>
  intro listed done a w ed hc hd YB hr H;refine ⟨fun h => (by rw [h] at hr; cases hr), fun j hj oj Vp => ?_⟩
  by_cases Fz : j = i
  ·subst Fz;have : oj = oi := Option.some.inj (Vp.symm.trans hi);subst this; exact H
  obtain ⟨Z6, _⟩ := mem_ready.1 hj;obtain ⟨abt, _⟩ := mem_ready.1 hr;have Kb : j ∉ rz md ops i := fun h => p8 hc (unl abt) h Fz hj
  obtain ⟨hap, Nx⟩ := YB j oj Vp Fz Z6 Kb;have hH : lG P md ops done i oi (lG P md ops (i :: done) j oj (He P md ops Q fuel ((listed.setIfInBounds i true).setIfInBounds j true) (j :: i :: done))) a w :=
   jn (fun v w' h => h.2 j (ready_mono hj Fz) oj Vp) H
  have PU : dk P oi.op = 1 -> ∀ d, oi.dst = some d -> d ∉ oi.looksAt ops := fun hk d zK => by
   rcases gN.reads i oi hi hk i oi hi with h | ⟨h, _⟩
   ·exact (h d zK).1
   exact absurd rfl h
  have hS := Sp hi Vp hap gN.sel Nx Kb PU (gN.dst i oi hi) ed (clean listed done hc hd i oi hi abt) (clean listed done hc hd j oj Vp Z6) hH;have aab : ∀ k ok, ops[k]? = some ok -> k ≠ i -> (listed.setIfInBounds j true).getD k true = false -> k ∉ rz md ops i →
    oi.apart ops ok = true /\ Se (dk P oi.op) (dk P ok.op) = true := fun k ok hk OB PR rI => by
   refine YB k ok hk OB ?_ rI
   by_cases Mn : j = k
   ·subst Mn; exact Z6
   rw [getD_set_ne true Mn] at PR; exact PR
  have zK : ∀ q ∈ j :: done, (listed.setIfInBounds j true).getD q false = true := fun q hq => by
   rcases bQ.1 hq with rfl | hq
   ·have iy : q < listed.size := by rw [hc.size]; exact (sY.1 Vp).1
    simp [iy]
   exact getD_set_true (hd q hq)
  refine jn (fun u w' h => ?_) hS;refine ih (listed.setIfInBounds j true) (j :: done) _ w' (Af ed _ _) (hc.set hj) zK aab (ready_mono hr (Ne.symm Fz)) ?_;rw [Array.setIfInBounds_comm _ _ Fz];refine jn (fun v CP h => ?_) h;exact JF fuel _ (j :: i :: done) (i :: j :: done) _ _ (fun q hq => by simp at hq ⊢; rcases hq with h | h | h <;> simp [h]) h
def SL (P : Program) (ops : Array Oper) (Q : Act -> World -> Prop) : List Nat -> List Nat -> Act -> World -> Prop
 | _, [] => Q
 | done, i :: r => fun a w => match ops[i]? with
  | none => False
  | some o => lG P .any ops done i o (SL P ops Q (i :: done) r) a w
def YF (P : Program) (ops : Array Oper) (listed : Array Bool) (i : Nat) : Bool :=
 (List.range ops.size).all fun j => j == i || listed.getD j true || (rz .any ops i).contains j ||
  (match ops[i]?, ops[j]? with
   | some oi, some oj => oi.apart ops oj && Se (dk P oi.op) (dk P oj.op)
   | _, _ => false)
def L8 (P : Program) (ops : Array Oper) : List Nat -> Array Bool -> Bool
 | [], listed => (Region.ready .any ops listed).isEmpty
 | i :: r, listed => (Region.ready .any ops listed).contains i && YF P ops listed i && L8 P ops r (listed.setIfInBounds i true)
def aam (n : Nat) (ops : Array Oper) : Bool := ops.all fun o => match o.dst with | some d => Nat.blt d n | none => true
def NT (P : Program) (ops : Array Oper) : Bool :=
 (List.range ops.size).all fun q => match ops[q]? with
  | some oq => !(dk P oq.op == 1) || (List.range ops.size).all fun i => match ops[i]? with
   | some oi => (match oi.dst with
    | some d => (!(oq.looksAt ops).contains d && (i == q || !(oq.dst == some d))) || (!(i == q) && (rz .any ops i).contains q)
    | none => true)
   | none => true
  | none => true
def Zi (P : Program) (ops : Array Oper) (n : Nat) (perm : List Nat) : Bool :=
 Region.noSelect ops && aam n ops && NT P ops && perm.length == ops.size && L8 P ops perm (Array.replicate ops.size false)
theorem MV {n : Nat} (h1 : Region.noSelect ops = true) (h2 : aam n ops = true) (h3 : NT P ops = true) : Hk P .any ops n where
 sel := Region.noSelect_spec h1
 dst := fun j o ho d hd => by
  have := Zk.1 h2 o (Array.mem_of_getElem? ho);rw [hd] at this; simpa using this
 reads := fun q oq hq hk i oi hi => by
  have hql : q < ops.size := (sY.1 hq).1;have Mo : i < ops.size := (sY.1 hi).1;have a1 := BL.1 h3 q (rj.2 hql);simp only [hq, hk, beq_self_eq_true, Bool.not_true, Bool.false_or] at a1;have a2 := BL.1 a1 i (rj.2 Mo);simp only [hi] at a2
  cases hd : oi.dst with
  | none => exact .inl fun d h => by cases h
  | some d =>
   simp only [hd, Bool.or_eq_true, rR, Bool.not_eq_true', beq_iff_eq, LL, beq_eq_false_iff_ne] at a2;rcases a2 with ⟨h4, h5⟩ | ⟨h4, h5⟩
   ·refine .inl fun d' zK => ?_
    cases zK;refine ⟨fun hm => ?_, h5⟩;have : (oq.looksAt ops).contains d = true := LL.2 hm;rw [this] at h4; cases h4
   exact .inr ⟨h4, h5⟩
theorem Hc {n : Nat} (gN : Hk P .any ops n) {Q : Act -> World -> Prop} : ∀ (perm : List Nat) (listed : Array Bool) (done : List Nat) (a : Act) (w : World), a.tmps.size = n -> kU .any ops listed →
  (∀ q ∈ done, listed.getD q false = true) -> L8 P ops perm listed = true -> SL P ops Q done perm a w -> He P .any ops Q perm.length listed done a w
 | [], _, _, _, _, _, _, _, hB, h => ⟨by simpa [L8] using hB, h⟩
 | i :: r, listed, done, a, w, ed, hc, hd, hB, h => by
  simp only [L8, rR] at hB;obtain ⟨⟨hr, hf⟩, hB'⟩ := hB;have Ka : i ∈ Region.ready .any ops listed := by simpa using hr
  obtain ⟨_, oi, Uv, _⟩ := mem_ready.1 Ka;simp only [SL, Uv] at h;refine Hd gN Uv r.length listed done a w ed hc hd (fun j oj hj Fz PR Kb => ?_) Ka ?_
  ·have iy : j < ops.size := (sY.1 hj).1;have h1 := BL.1 hf j (rj.2 iy);have hb : (j == i) = false := by simpa using Fz
   have zL : (rz .any ops i).contains j = false := by
    cases hx : (rz .any ops i).contains j with
    | false => rfl
    | true => exact absurd (LL.1 hx) Kb
   simp only [hb, PR, zL, Bool.false_or, Uv, hj, rR] at h1;exact h1
  refine jn (fun v w' h' => Hc gN r _ _ _ _ (Af ed _ _) (hc.set Ka) (fun q hq => ?_) hB' h') h;rcases bQ.1 hq with rfl | hq
  ·have iy : q < listed.size := by rw [hc.size]; exact (sY.1 Uv).1
   simp [iy]
  exact getD_set_true (hd q hq)
theorem Ex {ro : Option Nat} {n : Nat} (perm : List Nat) {id : Nat} {Q : Exit -> Act -> World -> Prop} {a : Act} {w : World} (hm : P.follows .mixedOrders = true) (hB : Zi P ops n perm = true) (ed : a.tmps.size = n)
  (h : SL P ops (Q .normal) [] perm a { w with drawn := w.drawn + 1 }) : (Code.region id ops true).wpIn (Fw ro) 0 P Q a w := by
 simp only [Zi, rR, beq_iff_eq] at hB;obtain ⟨⟨⟨⟨h1, h2⟩, h3⟩, h4⟩, h5⟩ := hB;refine wpIn_region_any hm (rf (Q := Q .normal) (fun _ _ h => h) _ _ [] _ _ ?_);rw [<-h4] at h5 ⊢
 refine Hc (MV h1 h2 h3) perm _ [] a _ ed ⟨by simp [h4], fun j o ho hl => ?_⟩ (fun q hq => by cases hq) h5 h;exfalso;rcases qz j perm.length with h' | h'
 ·simp [h'] at hl
 simp [EZ (show (Array.replicate perm.length false).size <= j by simpa using h')] at hl
def SN (P : Program) (ops : Array Oper) (Q : Act -> World -> Prop) : List Nat -> Act -> World -> Prop
 | [] => Q
 | i :: r => fun a w => match ops[i]? with
  | none => False
  | some o => NB P ops o (SN P ops Q r) a w
theorem u2 {ro : Option Nat} {Q : Exit -> Act -> World -> Prop} : ∀ (l : List Nat) (a : Act) (w : World), SN P ops (Q .normal) l a w -> wpOpsIn (Fw ro) 0 P ops Q l a w
 | [], _, _, h => h
 | i :: r, a, w, h => by
  rw [wpOpsIn_cons];simp only [SN] at h;cases ho : ops[i]? with
  | none => rw [ho] at h; exact h.elim
  | some o =>
   rw [ho] at h;exact lI ho (fun a' w' h' => u2 r a' w' h') h
theorem Dj {ro : Option Nat} {id : Nat} {Q : Exit -> Act -> World -> Prop} {a : Act} {w : World} (h : SN P ops (Q .normal) (List.range ops.size) a w) : (Code.region id ops false).wpIn (Fw ro) 0 P Q a w :=
 wpIn_region (u2 _ a w h)
end
abbrev fm := List (Nat × Value)
def get : fm -> Nat -> Option Value
 | [], _ => none
 | (k, v) :: r, t => cond (Nat.beq k t && !Nat.beq t 1000000000) (some v) (get r t)
def marks : fm -> List Value
 | [] => []
 | (k, v) :: r => cond (Nat.beq k 1000000000) (v :: marks r) (marks r)
def YI : Value -> Deferred
 | .pointer (some a) => { target := .collected a.block, args := #[] }
 | .func fn first captured => { target := .fn fn captured, args := first }
 | _ => { target := .nil, args := #[] }
theorem wP {k t : Nat} (h : k ≠ t) : Nat.beq k t = false := by cases hb : Nat.beq k t with | false => rfl | true => exact absurd (Nat.eq_of_beq_eq_true hb) h
theorem vL {e : fm} {v : Value} {t : Nat} (h : get e t = some v) : t ≠ 1000000000 := by
 induction e with
 | nil => cases h
 | cons x r ih =>
  obtain ⟨k, u⟩ := x;rintro rfl;simp only [get, Nat.beq_refl, Bool.not_true, Bool.and_false, cond] at h;exact ih h rfl
theorem kX {e : fm} {k t : Nat} {u v : Value} (h : get ((k, u) :: e) t = some v) : (k = t /\ u = v) \/ (k ≠ t /\ get e t = some v) := by
 have ht := vL h;simp only [get, wP ht, Bool.not_false, Bool.and_true] at h
 by_cases hk : k = t
 ·subst hk; simp at h; exact .inl ⟨rfl, h⟩
 rw [wP hk] at h; exact .inr ⟨hk, h⟩
theorem m3 {e : fm} {k : Nat} {v : Value} (h : k ≠ 1000000000) : marks ((k, v) :: e) = marks e := by simp only [marks, wP h, cond]
def ev (e : fm) : Operand -> Option Value
 | .tmp t => get e t
 | .const v => some v
 | .global g => some (pQ g)
 | .func f => some (.func (.func f) #[] #[])
def qB (e : fm) : Option Tmp -> Value -> fm
 | some d, v => (d, v) :: e
 | none, _ => e
structure dh (n : Nat) (e : fm) (a : Act) : Prop where
 defers : a.defers = (marks e).map YI
 size : a.tmps.size = n
 small : n <= 1000000
 get : ∀ t v, get e t = some v -> a.tmps.getD t undef = v
def fk (e' e : fm) : Prop := ∀ t v, get e' t = some v -> get e t = some v
theorem fk.nil (e : fm) : fk [] e := fun _ _ h => by cases h
theorem fk.mark {e' e : fm} {v : Value} (h : fk e' e) : fk ((1000000000, v) :: e') e := fun t u hu => by
 rcases kX hu with ⟨h1, _⟩ | ⟨_, h2⟩
 ·exact absurd h1.symm (vL hu)
 exact h t u h2
theorem fk.cons {e' e : fm} {k : Nat} {v : Value} (h : X.get e k = some v) (h' : fk e' e) : fk ((k, v) :: e') e := fun t u hu => by
 rcases kX hu with ⟨rfl, rfl⟩ | ⟨_, h2⟩
 ·exact h
 exact h' t u h2
structure xl (e' e : fm) : Prop where
 get : fk e' e
 marks : marks e' = marks e
theorem xl.refl (e : fm) : xl e e := ⟨fun _ _ h => h, rfl⟩
theorem xl.cons {e' e : fm} {k : Nat} {v : Value} (h : X.get e k = some v) (h' : xl e' e) : xl ((k, v) :: e') e := ⟨fk.cons h h'.get, (m3 (vL h)).trans h'.marks⟩
theorem dh.sub {n : Nat} {e e' : fm} {a : Act} (h : dh n e a) (hs : xl e' e) : dh n e' a := ⟨by rw [hs.marks]; exact h.defers, h.size, h.small, fun t v hv => h.get t v (hs.get t v hv)⟩
theorem dh.put {n : Nat} {e : fm} {a : Act} (h : dh n e a) {d : Nat} (hd : d < n) (v : Value) : dh n ((d, v) :: e) (a.put (some d) v) := by
 have hs := h.small;refine ⟨by rw [m3 oM]; exact h.defers, by simp [Act.put, h.size], hs, fun t u hu => ?_⟩;rcases kX hu with ⟨rfl, rfl⟩ | ⟨hk, hu⟩
 ·simp [Act.put, h.size, hd]
 have := h.get t u hu;simp only [Act.put, Tz, Wh hk]
 simpa using this
theorem dh.ev {n : Nat} {e : fm} {a : Act} (h : dh n e a) {x : Operand} {v : Value} (hx : X.ev e x = some v) : a.eval x = v := by
 cases x with
 | tmp t => exact h.get t v hx
 | _ => simp [X.ev] at hx; simp [Act.eval, hx]
def cy (n : Nat) (o : Oper) : Bool := (match o.dst with | some d => Nat.blt d n | none => true) && (match o.op with | .select .. => false | _ => true)
theorem Sc {n : Nat} {o : Oper} (h : cy n o = true) : ∀ cs b, o.op ≠ .select cs b := by
 intro cs b he; unfold cy at h; rw [he] at h; simp at h
theorem dh.qB {n : Nat} {e : fm} {a : Act} (h : dh n e a) {o : Oper} (ho : cy n o = true) (v : Value) : dh n (X.qB e o.dst v) (a.put o.dst v) := by
 unfold cy at ho;cases hd : o.dst with
 | none => exact h
 | some d => rw [hd] at ho; simp only [rR] at ho; exact h.put (by simpa using ho.1) v
def XL (P : Program) (n : Nat) (ops : Array Oper) (dr : Bool) (done l : List Nat) (K : fm -> World -> Prop) (e : fm) (w : World) : Prop :=
 ∀ a, dh n e a -> cond dr (SL P ops (fun a' w' => ∃ e', dh n e' a' /\ K e' w') done l a w) (SN P ops (fun a' w' => ∃ e', dh n e' a' /\ K e' w') l a w)
def Gd (ops : Array Oper) (e : fm) : Option (Nat × Bool) -> Prop
 | none => True
 | some (j, want) => ∃ d, (ops[j]?).bind (·.dst) = some d /\ get e d = some (.bool want)
def gU (P : Program) (ops : Array Oper) (dr : Bool) (done : List Nat) (i : Nat) : List Nat := cond dr (done.filter fun q => pb P .any ops q i) []
def uR (P : Program) (n : Nat) (ops : Array Oper) (q : Nat) (e : fm) (w : World) : Prop := ∀ o, ops[q]? = some o -> ∀ a, dh n e a -> X1 P ops o a w
section
variable {P : Program} {n : Nat} {ops : Array Oper} {dr : Bool} {done r : List Nat} {K : fm -> World -> Prop} {e : fm} {w : World} {o : Oper}
theorem aC (h : K e w) : XL P n ops dr done [] K e w := fun a ha => by cases dr <;> exact ⟨e, ha, h⟩
theorem xm {Q Q' : Act -> World -> Prop} (h : ∀ a w, Q a w -> Q' a w) : ∀ (l : List Nat) (a : Act) (w : World), SN P ops Q l a w -> SN P ops Q' l a w
 | [], a, w, hh => h a w hh
 | i :: l, a, w, hh => by
  simp only [SN] at hh ⊢;split
  ·rename_i ho; rw [ho] at hh; exact hh
  rename_i o ho; rw [ho] at hh; exact Hb (fun v w' => xm h l _ w') hh
theorem Bo {Q Q' : Act -> World -> Prop} (h : ∀ a w, Q a w -> Q' a w) : ∀ (l done : List Nat) (a : Act) (w : World), SL P ops Q done l a w -> SL P ops Q' done l a w
 | [], _, a, w, hh => h a w hh
 | i :: l, done, a, w, hh => by
  simp only [SL] at hh ⊢;split
  ·rename_i ho; rw [ho] at hh; exact hh
  rename_i o ho; rw [ho] at hh; exact jn (fun v w' => Bo h l _ _ w') hh
theorem rK {e' : fm} (hs : xl e' e) (h : XL P n ops dr done r K e' w) : XL P n ops dr done r K e w := fun a ha => h a (ha.sub hs)
theorem yL {a : Act} (ha : dh n e a) {j d : Nat} (hj : (ops[j]?).bind (·.dst) = some d) {b : Bool} (hd : get e d = some (.bool b)) : yielded ops a.tmps j = some b := by
 have h1 := ha.get d _ hd;unfold yielded;rw [hj];have h2 : a.tmps[d]? = some (.bool b) := by
  cases h3 : a.tmps[d]? with
  | none => simp [Tz, h3, undef] at h1
  | some v => simp [Tz, h3] at h1; rw [h1]
 simp [h2]
theorem K9 {a : Act} (ha : dh n e a) {j d : Nat} (hj : (ops[j]?).bind (·.dst) = some d) (hd : get e d = some undef) : yielded ops a.tmps j = none := by
 have h1 := ha.get d _ hd;unfold yielded;rw [hj];cases h3 : a.tmps[d]? with
 | none => simp [h3]
 | some v => simp [Tz, h3] at h1; simp [h3, h1, undef]
theorem Iz {a : Act} (ha : dh n e a) (hg : Gd ops e o.guard) : Region.wanted o (yielded ops a.tmps) = true := by
 unfold Region.wanted;cases hgd : o.guard with
 | none => rfl
 | some jw =>
  obtain ⟨j, want⟩ := jw;rw [hgd] at hg;obtain ⟨d, h1, h2⟩ := hg;simp [yL ha h1 h2]
theorem wU {i : Nat} (ho : ops[i]? = some o) (hd : cy n o = true) (hg : Gd ops e o.guard) {ρ : Operand -> Value} (Uh : ∀ x ∈ o.op.operands, ev e x = some (ρ x))
  (h : xp P (execOp ρ o) (dk P o.op) w fun v w' => (∀ q ∈ gU P ops dr done i, uR P n ops q (qB e o.dst v) w') /\ XL P n ops dr (i :: done) r K (qB e o.dst v) w') :
  XL P n ops dr done (i :: r) K e w := by
 intro a ha;have he : execOp a.eval o = execOp ρ o := execOp_congr o (Sc hd) fun x hx => ha.ev (Uh x hx)
 cases dr
 ·simp only [SN, ho, cond];unfold NB;rw [ao (Iz ha hg), he];exact hO (fun v w' h' => h'.2 _ (ha.qB hd v)) h
 simp only [SL, ho, cond];unfold lG;rw [ao (Iz ha hg), he];refine hO (fun v w' h' => ⟨fun q hq hb oq C5 => h'.1 q (Dn.2 ⟨hq, hb⟩) oq C5 _ (ha.qB hd v), h'.2 _ (ha.qB hd v)⟩) h
theorem dA {i : Nat} (ho : ops[i]? = some o) (hd : cy n o = true) (hg : Gd ops e o.guard) {ρ : Operand -> Value} (Uh : ∀ x ∈ o.op.operands, ev e x = some (ρ x)) (hk : dk P o.op = 0) {v : Value}
  (hv : ∀ w', (execOp ρ o).run P w' = .ok (.value v) w') (h : XL P n ops dr (i :: done) r K (qB e o.dst v) w) : XL P n ops dr done (i :: r) K e w := by
 refine wU ho hd hg Uh ?_;rw [hk];refine ⟨v, hv, fun q hq => ?_, h⟩;cases dr
 ·cases hq
 obtain ⟨_, hb⟩ := Dn.1 hq;unfold pb at hb;rw [ho] at hb
 split at hb
 ·rename_i oq oi h1 h2; cases h2; simp [hk] at hb
 cases hb
theorem wV {i : Nat} (ho : ops[i]? = some o) (hd : cy n o = true) (hg : Gd ops e o.guard) {ρ : Operand -> Value} (Uh : ∀ x ∈ o.op.operands, ev e x = some (ρ x)) (hk : dk P o.op = 1) {v : Value}
  (hv : (execOp ρ o).run P w = .ok (.value v) w) (h : XL P n ops dr (i :: done) r K (qB e o.dst v) w) : XL P n ops dr done (i :: r) K e w := by
 refine wU ho hd hg Uh ?_;rw [hk];refine ⟨v, hv, fun q hq => ?_, h⟩;cases dr
 ·cases hq
 obtain ⟨_, hb⟩ := Dn.1 hq;unfold pb at hb;rw [ho] at hb
 split at hb
 ·rename_i oq oi h1 h2; cases h2; simp [hk] at hb
 cases hb
theorem fU {i : Nat} (ho : ops[i]? = some o) (hd : cy n o = true) (hg : Gd ops e o.guard) {ρ : Operand -> Value} (Uh : ∀ x ∈ o.op.operands, ev e x = some (ρ x)) (hk : dk P o.op = 2) {v : Value} {w' : World}
  (hv : (execOp ρ o).run P w = .ok (.value v) w') (hp : ∀ q ∈ gU P ops dr done i, uR P n ops q (qB e o.dst v) w') (h : XL P n ops dr (i :: done) r K (qB e o.dst v) w') : XL P n ops dr done (i :: r) K e w := by
 refine wU ho hd hg Uh ?_;rw [hk]
 show match (execOp ρ o).run P w with | _ => _
 unfold xp;rw [hv];exact ⟨hp, h⟩
theorem zT {i : Nat} (ho : ops[i]? = some o) (hd : cy n o = true) (hg : Gd ops e o.guard) {ρ : Operand -> Value} (Uh : ∀ x ∈ o.op.operands, ev e x = some (ρ x)) (hk : dk P o.op = 2) {w' : World}
  (hv : (execOp ρ o).run P w = .ok .skip w') (hp : ∀ q ∈ gU P ops dr done i, uR P n ops q (qB e o.dst undef) w') (h : XL P n ops dr (i :: done) r K (qB e o.dst undef) w') : XL P n ops dr done (i :: r) K e w := by
 refine wU ho hd hg Uh ?_;rw [hk];unfold xp;rw [hv];exact ⟨hp, h⟩
theorem Pe {i : Nat} (ho : ops[i]? = some o) (hd : cy n o = true) (hg : Gd ops e o.guard) {ρ : Operand -> Value} (Uh : ∀ x ∈ o.op.operands, ev e x = some (ρ x)) (hk : dk P o.op = 2) {f : FuncId} {args : Array Value}
  (hv : (execOp ρ o).run P w = .ok (.enter f args) w) {R : Value -> World -> Prop} (hc : Calls P f args w (bU R))
  (h : ∀ v w', R v w' -> (∀ q ∈ gU P ops dr done i, uR P n ops q (qB e o.dst v) w') /\ XL P n ops dr (i :: done) r K (qB e o.dst v) w') : XL P n ops dr done (i :: r) K e w := by
 refine wU ho hd hg Uh ?_;rw [hk];unfold xp;rw [hv];exact hc.mono fun e w' ⟨v, he, hR⟩ => ⟨v, he, h v w' hR⟩
theorem aaD {i j d : Nat} {want b : Bool} (ho : ops[i]? = some o) (hd : cy n o = true) (hg : o.guard = some (j, want)) (hj : (ops[j]?).bind (·.dst) = some d) (hv : get e d = some (.bool b)) (hb : b = !want)
  (h : XL P n ops dr (i :: done) r K (qB e o.dst undef) w) : XL P n ops dr done (i :: r) K e w := by
 intro a ha;have hw : Region.wanted o (yielded ops a.tmps) = false := by simp [Region.wanted, hg, yL ha hj hv, hb]
 cases dr
 ·simp only [SN, ho, cond];unfold NB; rw [aj (by simp [hw])];exact h _ (ha.qB hd undef)
 simp only [SL, ho, cond];unfold lG; rw [aj (by simp [hw])];exact h _ (ha.qB hd undef)
theorem VK {i j d : Nat} {want : Bool} (ho : ops[i]? = some o) (hd : cy n o = true) (hg : o.guard = some (j, want)) (hj : (ops[j]?).bind (·.dst) = some d) (hv : get e d = some undef)
  (h : XL P n ops dr (i :: done) r K (qB e o.dst undef) w) : XL P n ops dr done (i :: r) K e w := by
 intro a ha;have hw : Region.wanted o (yielded ops a.tmps) = false := by simp [Region.wanted, hg, K9 ha hj hv]
 cases dr
 ·simp only [SN, ho, cond];unfold NB; rw [aj (by simp [hw])];exact h _ (ha.qB hd undef)
 simp only [SL, ho, cond];unfold lG; rw [aj (by simp [hw])];exact h _ (ha.qB hd undef)
theorem O9 {Q : Act -> World -> Prop} : ∀ (l1 l2 : List Nat) (a : Act) (w : World), SN P ops (SN P ops Q l2) l1 a w -> SN P ops Q (l1 ++ l2) a w
 | [], _, _, _, h => h
 | i :: l1, l2, a, w, h => by
  simp only [SN, iC] at h ⊢;split
  ·rename_i ho; rw [ho] at h; exact h
  rename_i o ho; rw [ho] at h; exact Hb (fun v w' => O9 l1 l2 _ w') h
theorem O' {Q : Act -> World -> Prop} : ∀ (l1 l2 done : List Nat) (a : Act) (w : World), SL P ops (SL P ops Q (l1.reverse ++ done) l2) done l1 a w -> SL P ops Q done (l1 ++ l2) a w
 | [], _, _, _, _, h => h
 | i :: l1, l2, done, a, w, h => by
  simp only [SL, iC, List.reverse_cons, pZ, ie] at h ⊢;split
  ·rename_i ho; rw [ho] at h; exact h
  rename_i o ho; rw [ho] at h; exact jn (fun v w' => O' l1 l2 _ _ w') h
structure Kp (S : List Nat) (a a' : Act) : Prop where
 defers : a'.defers = a.defers
 size : a'.tmps.size = a.tmps.size
 same : ∀ t, S.contains t = false -> a'.tmps.getD t undef = a.tmps.getD t undef
theorem Kp.refl (S : List Nat) (a : Act) : Kp S a a := ⟨rfl, rfl, fun _ _ => rfl⟩
theorem Kp.trans {S : List Nat} {a b c : Act} (h : Kp S a b) (h' : Kp S b c) : Kp S a c := ⟨h'.defers.trans h.defers, h'.size.trans h.size, fun t ht => (h'.same t ht).trans (h.same t ht)⟩
theorem Kp.put {S : List Nat} {a : Act} {d : Option Tmp} (v : Value) (h : ∀ t, d = some t -> S.contains t = true) : Kp S a (a.put d v) := by
 cases d with
 | none => exact Kp.refl S a
 | some t =>
  refine ⟨rfl, by simp [Act.put], fun u hu => ?_⟩;have qF : t ≠ u := fun e => by subst e; rw [h t rfl] at hu; cases hu
  simp [Act.put, Wh qF]
def OQ (ops : Array Oper) (l : List Nat) : List Nat := l.filterMap fun i => (ops[i]?).bind (·.dst)
theorem ME {l : List Nat} {i : Nat} {o : Oper} (hi : i ∈ l) (ho : ops[i]? = some o) : ∀ t, o.dst = some t -> (OQ ops l).contains t = true := fun t ht => by
 rw [LL];exact List.mem_filterMap.2 ⟨i, hi, by rw [ho]; exact ht⟩
theorem KQ {Q : Act -> World -> Prop} {S : List Nat} : ∀ (l : List Nat) (a : Act) (w : World), (∀ i ∈ l, ∀ o, ops[i]? = some o -> ∀ t, o.dst = some t -> S.contains t = true) -> SN P ops Q l a w -> SN P ops (fun a' w' => Q a' w' /\ Kp S a a') l a w
 | [], a, w, _, h => ⟨h, Kp.refl S a⟩
 | i :: l, a, w, hS, h => by
  simp only [SN] at h ⊢;split
  ·rename_i ho; rw [ho] at h; exact h
  rename_i o ho;rw [ho] at h;exact Hb (fun v w' hx => xm (fun a' CP hy => ⟨hy.1, (Kp.put v (hS i (iD ..) o ho)).trans hy.2⟩) _ _ _ (KQ l _ w' (fun j hj => hS j (jN _ hj)) hx)) h
theorem KR {Q : Act -> World -> Prop} {S : List Nat} : ∀ (l done : List Nat) (a : Act) (w : World), (∀ i ∈ l, ∀ o, ops[i]? = some o -> ∀ t, o.dst = some t -> S.contains t = true) -> SL P ops Q done l a w -> SL P ops (fun a' w' => Q a' w' /\ Kp S a a') done l a w
 | [], _, a, w, _, h => ⟨h, Kp.refl S a⟩
 | i :: l, done, a, w, hS, h => by
  simp only [SL] at h ⊢;split
  ·rename_i ho; rw [ho] at h; exact h
  rename_i o ho;rw [ho] at h;exact jn (fun v w' hx => Bo (fun a' CP hy => ⟨hy.1, (Kp.put v (hS i (iD ..) o ho)).trans hy.2⟩) _ _ _ _ (KR l _ _ w' (fun j hj => hS j (jN _ hj)) hx)) h
def Kh (S : List Nat) (e : fm) : Bool := e.all fun x => !S.contains x.1
theorem FD {S : List Nat} {e : fm} {t : Nat} {v : Value} (h : Kh S e = true) (hg : get e t = some v) : S.contains t = false := by
 induction e with
 | nil => cases hg
 | cons x r ih =>
  obtain ⟨k, u⟩ := x;simp only [Kh, List.all_cons, rR] at h;rcases kX hg with ⟨rfl, _⟩ | ⟨_, hg⟩
  ·simpa using h.1
  exact ih h.2 hg
theorem cu {l l1 l2 : List Nat} (hl : l = l1 ++ l2) {d : Nat} (q : Prop) [Decidable q] (hf : Kh (OQ ops l1) e = true) (h1 : XL P n ops dr done l1 (fun e' w' => w' = w /\ get e' d = some (.bool (decide q))) e w)
  (h2 : XL P n ops dr (l1.reverse ++ done) l2 K ((d, .bool (decide q)) :: e) w) : XL P n ops dr done l K e w := by
 subst hl;intro a ha;have h := h1 a ha;have key : ∀ (a' : Act) (w' : World), (∃ e', dh n e' a' /\ w' = w /\ get e' d = some (.bool (decide q))) -> Kp (OQ ops l1) a a' -> dh n ((d, .bool (decide q)) :: e) a' /\ w' = w := fun a' w' ⟨e', El, hw, hg⟩ hk => by
  refine ⟨⟨by rw [m3 (vL hg), hk.defers]; exact ha.defers, hk.size.trans ha.size, ha.small, fun t v hv => ?_⟩, hw⟩;rcases kX hv with ⟨rfl, rfl⟩ | ⟨_, hv⟩
  ·exact El.get _ _ hg
  rw [hk.same t (FD hf hv)]; exact ha.get t v hv
 have hS : ∀ i ∈ l1, ∀ o, ops[i]? = some o -> ∀ t, o.dst = some t -> (OQ ops l1).contains t = true := fun i hi o ho => ME hi ho
 cases dr
 ·exact O9 l1 l2 a w (xm (fun a' w' hx => by obtain ⟨h3, rfl⟩ := key a' w' hx.1 hx.2; exact h2 a' h3) _ _ _ (KQ _ _ _ hS h))
 exact O' l1 l2 done a w (Bo (fun a' w' hx => by obtain ⟨h3, rfl⟩ := key a' w' hx.1 hx.2; exact h2 a' h3) _ _ _ _ (KR _ _ _ _ hS h))
theorem ay {d : Nat} {p : Prop} [Decidable p] (hv : get e d = some (.bool (decide p))) (ht : p -> XL P n ops dr done r K ((d, .bool true) :: e) w) (hf : ¬ p -> XL P n ops dr done r K ((d, .bool false) :: e) w) :
  XL P n ops dr done r K e w := by
 by_cases hp : p
 ·exact rK (xl.cons (by rw [hv]; simp [hp]) (xl.refl e)) (ht hp)
 exact rK (xl.cons (by rw [hv]; simp [hp]) (xl.refl e)) (hf hp)
theorem QJ {d : Nat} {b : Bool} (hv : get e d = some (.bool b)) (ht : b = true -> XL P n ops dr done r K ((d, .bool true) :: e) w) (hf : b = false -> XL P n ops dr done r K ((d, .bool false) :: e) w) :
  XL P n ops dr done r K e w := by
 cases b
 ·exact rK (xl.cons hv (xl.refl e)) (hf rfl)
 exact rK (xl.cons hv (xl.refl e)) (ht rfl)
end
abbrev hC := fm -> World -> Prop
def oU : List (Nat × hC) -> Nat -> Option hC
 | [], _ => none
 | (k, K) :: r, t => cond (Nat.beq k t) (some K) (oU r t)
def oR (K : hC) (E : List (Nat × hC)) (F : hC) (n : Nat) : Exit -> Act -> World -> Prop
 | .normal, a, w => ∃ e, dh n e a /\ K e w
 | .ret, a, w => ∃ e, dh n e a /\ F e w
 | .exit id, a, w => ∃ K', oU E id = some K' /\ ∃ e, dh n e a /\ K' e w
 | _, _, _ => False
def X (P : Program) (n : Nat) (ro : Option Nat) (c : Code) (K : hC) (E : List (Nat × hC)) (F : hC) (e : fm) (w : World) : Prop := ∀ a, dh n e a -> c.wpIn (Fw ro) 0 P (oR K E F n) a w
section
variable {P : Program} {n : Nat} {ro : Option Nat} {c x y : Code} {K F : hC} {E : List (Nat × hC)} {e : fm} {w : World}
theorem SS {e' : fm} (hs : xl e' e) (h : X P n ro c K E F e' w) : X P n ro c K E F e w := fun a ha => h a (ha.sub hs)
theorem YZ {K' F' : hC} (h : X P n ro c K E F e w) (hn : ∀ e w, K e w -> K' e w) (hr : ∀ e w, F e w -> F' e w) : X P n ro c K' E F' e w := fun a ha =>
 wpIn_mono (h a ha) fun ex a w hq => by
  cases ex <;> simp only [oR] at hq ⊢
  case normal => obtain ⟨e, h1, h2⟩ := hq; exact ⟨e, h1, hn _ _ h2⟩
  case ret => obtain ⟨e, h1, h2⟩ := hq; exact ⟨e, h1, hr _ _ h2⟩
  case exit id => exact hq
theorem dS (h : K e w) : X P n ro .skip K E F e w := fun a ha => wpIn_skip ⟨e, ha, h⟩
theorem VO {l : Nat} (h : K e w) : X P n ro (.label l) K E F e w := fun a ha => wpIn_label ⟨e, ha, h⟩
theorem rL (h : F e w) : X P n ro .ret K E F e w := fun a ha => wpIn_ret ⟨e, ha, h⟩
theorem S0 {id : Nat} {K' : hC} (hk : oU E id = some K') (h : K' e w) : X P n ro (.exit id) K E F e w := fun a ha => wpIn_exit ⟨K', hk, e, ha, h⟩
theorem ju (h : X P n ro x (X P n ro y K E F) E F e w) : X P n ro (.seq x y) K E F e w := fun a ha =>
 wpIn_seq (wpIn_mono (h a ha) fun ex a w hq => by
  cases ex <;> simp only [oR] at hq <;> simp only [Exit.then]
  case normal => obtain ⟨e, h1, h2⟩ := hq; exact h2 a h1
  case ret => exact hq
  case exit id => exact hq)
theorem pS (J : hC) (h : X P n ro x (fun e w => ∃ e', xl e' e /\ J e' w) E F e w) (h' : ∀ e w, J e w -> X P n ro y K E F e w) : X P n ro (.seq x y) K E F e w :=
 ju (YZ h (fun _ _ ⟨_, hs, hj⟩ => SS hs (h' _ _ hj)) (fun _ _ h => h))
theorem di {Qg : Operand} {t : Bool} (hc : ev e Qg = some (.bool t)) (ht : t = true -> X P n ro x K E F e w) (hf : t = false -> X P n ro y K E F e w) : X P n ro (.cond Qg x y) K E F e w := fun a ha =>
 wpIn_cond_split (ha.ev hc) (fun h => ht h a ha) (fun h => hf h a ha)
theorem bY {Qg : Operand} (hc : ev e Qg = some (.bool true)) (ht : X P n ro x K E F e w) : X P n ro (.cond Qg x y) K E F e w := di hc (fun _ => ht) (fun h => by cases h)
theorem cg {Qg : Operand} (hc : ev e Qg = some (.bool false)) (hf : X P n ro y K E F e w) : X P n ro (.cond Qg x y) K E F e w := di hc (fun h => by cases h) (fun _ => hf)
theorem aE {Qg : Operand} {p : Prop} [Decidable p] (hc : ev e Qg = some (.bool (decide p))) (ht : p -> X P n ro x K E F e w) (hf : ¬ p -> X P n ro y K E F e w) : X P n ro (.cond Qg x y) K E F e w :=
 di hc (fun h => ht (of_decide_eq_true h)) (fun h => hf (of_decide_eq_false h))
theorem VS {id : Nat} (h : X P n ro x K ((id, K) :: E) F e w) : X P n ro (.block id x) K E F e w := fun a ha =>
 wpIn_block (wpIn_mono (h a ha) fun ex a w hq => by
  cases ex <;> simp only [oR] at hq <;> simp only [Exit.inBlock]
  case normal => exact hq
  case ret => exact hq
  case exit id' =>
   obtain ⟨K', hk, e, h1, h2⟩ := hq;simp only [oU] at hk
   by_cases Z' : id = id'
   ·subst Z'; simp at hk; subst hk; rw [ao rfl]; exact ⟨e, h1, h2⟩
   ·rw [wP Z'] at hk;rw [aj (fun h => Z' h.symm)];exact ⟨K', hk, e, h1, h2⟩)
theorem VL (h : X P n ro x K E F e w) : X P n ro (.scope x) K E F e w := fun a ha b k cs J' hb hr => by
 have h0 : (lone (b.atR a (.code (.scope x) :: k)) cs w).fenced P (Fw ro) := fenced_calm hb hr rfl;have s1 : step P (lone (b.atR a (.code (.scope x) :: k)) cs w) = .next (lone (b.atR a (.code x :: .inScope x :: k)) cs w) := step_lone_go (by simp [stepG, stepG.exec, Frame.atR]);have s2 : ∀ (a : Act) (w : World), step P (lone (b.atR a (.inScope x :: k)) cs w) = .next (lone (b.atR a k) cs w) := fun a w => step_lone_go (by simp [stepG, stepG.exec, Frame.atR])
 obtain ⟨ex, Bl, xn, hq, B5⟩ := h a ha b (.inScope x :: k) cs J' hb hr;cases ex with
 | normal => exact ⟨.normal, Bl, xn, hq, .head h0 s1 (StepsIn.trans B5 (.one (fenced_calm hb hr rfl) (s2 _ _)))⟩
 | exit id =>
  have hx : exitTo id (.inScope x :: k) = exitTo id k := by simp [exitTo]
  exact ⟨.exit id, Bl, xn, hq, fun k' hk => .head h0 s1 (B5.1 k' (by rw [hx]; exact hk)), fun hs hk => let ⟨k₁, h1, h2⟩ := B5.2 hs (by rw [hx]; exact hk); ⟨k₁, h1, .head h0 s1 h2⟩⟩
 | goto l => exact hq.elim
 | ret => exact ⟨.ret, Bl, xn, hq, ArrivesIn.of_steps (e := .ret) (.one h0 s1) B5⟩
 | panic ch => exact hq.elim
 | outgrown => exact hq.elim
theorem Ix {a : Act} {Q : Exit -> Act -> World -> Prop} (I : Nat -> Act -> World -> Prop) {m : Nat} (Ug : I m a w)
  (round : ∀ m a w, I m a w -> c.wpIn (Fw ro) 0 P (Exit.then (fun a' w' => ∃ m', m' < m /\ I m' a' w') Q) a w) : (Code.loop c).wpIn (Fw ro) 0 P Q a w := by
 intro b k cs J' hb hr;have key : ∀ m a w, I m a w →
   ∃ e a' w', Q e a' w' /\ ArrivesIn (Machine.fenced P (Fw ro)) P (lone (b.atR a (.code c :: .inLoop c :: k)) cs w) b k cs e a' w' := by
  intro m
  induction m using Nat.strongRecOn with
  | _ m ih =>
   intro a w hI;obtain ⟨e, Bl, xn, hq, B5⟩ := round m a w hI b (.inLoop c :: k) cs J' hb hr;cases e with
   | normal =>
    obtain ⟨m', iy, abD⟩ := hq;obtain ⟨ada, aas, BB, abe, W7⟩ := ih m' iy Bl xn abD;exact ⟨ada, aas, BB, abe, .of_steps (StepsIn.trans B5 (.one (fenced_calm hb hr rfl) stepR_inLoop)) W7⟩
   | exit id => exact ⟨_, Bl, xn, hq, .pass (x := .inLoop c) rfl (fun _ _ => .inl sM) B5⟩
   | goto l => exact ⟨_, Bl, xn, hq, .pass (x := .inLoop c) rfl (fun _ _ => .inl sM) B5⟩
   | ret => exact ⟨_, Bl, xn, hq, .pass (x := .inLoop c) rfl (fun _ _ => .inl sM) B5⟩
   | panic ch => exact ⟨_, Bl, xn, hq, .pass (x := .inLoop c) rfl (fun _ _ => .inl sM) B5⟩
   | outgrown => exact ⟨_, Bl, xn, hq, .pass (x := .inLoop c) rfl (fun _ _ => .inl sM) B5⟩
 obtain ⟨e, a', w', hq, B5⟩ := key m a w Ug;exact ⟨e, a', w', hq, .of_steps (.one (fenced_calm hb hr rfl) stepR_loop) B5⟩
theorem bF (I : Nat -> hC) {m : Nat} {e₀ : fm} (hs : xl e₀ e) (Ug : I m e₀ w)
  (round : ∀ m e w, I m e w -> X P n ro c (fun e' w' => ∃ m', m' < m /\ ∃ ze, xl ze e' /\ I m' ze w') E F e w) : X P n ro (.loop c) K E F e w := fun a ha =>
 Ix (fun m a w => ∃ e, dh n e a /\ I m e w) (m := m) ⟨e₀, ha.sub hs, Ug⟩ fun m a w ⟨e, ha, hI⟩ =>
  wpIn_mono (round m e w hI a ha) fun ex a w hq => by
   cases ex <;> simp only [oR] at hq <;> simp only [Exit.then]
   case normal => obtain ⟨e', h1, m', hm, ze, hs, hI⟩ := hq; exact ⟨m', hm, ze, h1.sub hs, hI⟩
   case ret => exact hq
   case exit id => exact hq
theorem cZ {id : Nat} {ops : Array Oper} {l : List Nat} (hl : List.range ops.size = l) (h : XL P n ops false [] l K e w) : X P n ro (.region id ops false) K E F e w := fun a ha =>
 Dj (by rw [hl]; exact h a ha)
theorem bd {id : Nat} {ops : Array Oper} (perm : List Nat) (hm : P.follows .mixedOrders = true) (hB : Zi P ops n perm = true) (h : XL P n ops true [] perm K e { w with drawn := w.drawn + 1 }) :
  X P n ro (.region id ops true) K E F e w := fun a ha => Ex perm hm hB ha.size (h a ha)
theorem sR {id : Nat} {o : Oper} {d : Nat} {fs : FuncId} {t' : TypeId} {p p' : String} {af af' : Array Edge} {ts : Array TypeId} {fn : Fn} {first captured : Array Value} {hm : o = ⟨some d, o.op, o.type, p, af, none⟩}
  (hd : Nat.blt d n = true) (h : XL P n #[o] false [] [0] (fun e' w' => get e' d = some (.func fn first captured) /\ K ((1000000000, .func fn first captured) :: e') w') e w) :
  X P n none (.region id #[o, ⟨none, .defer ⟨.value (.tmp d), #[], ts⟩, t', p', af', none⟩] false) K E F e w := fun a ha => by
 refine wpIn_region ?_;have h1 := h a ha;simp only [cond] at h1;have rZ : ∀ i : Nat, i < 1 -> (#[o, (⟨none, .defer ⟨.value (.tmp d), #[], ts⟩, t', p', af', none⟩ : Oper)] : Array Oper)[i]? = (#[o] : Array Oper)[i]? := fun i hi => by
  have : i = 0 := oM;subst this; rfl
 show wpOpsIn (Fw none) 0 P _ (oR K E F n) [0, 1] a w
 rw [wpOpsIn_cons];have h2 : NB P #[o] o (fun a' w' => ∃ e', dh n e' a' /\ get e' d = some (.func fn first captured) /\ K ((1000000000, .func fn first captured) :: e') w') a w := h1;have aaa : o.guard = none := by rw [hm]
 have h3 : NB P #[o, ⟨none, .defer ⟨.value (.tmp d), #[], ts⟩, t', p', af', none⟩] o (fun a' w' => ∃ e', dh n e' a' /\ get e' d = some (.func fn first captured) /\ K ((1000000000, .func fn first captured) :: e') w') a w := by
  unfold NB at h2 ⊢;have hw : ∀ y, Region.wanted o y = true := fun y => by simp [Region.wanted, aaa]
  rw [ao (hw _)] at h2 ⊢; exact h2
 refine lI rfl (fun a' w' h' => ?_) h3;obtain ⟨e', El, hg, hK⟩ := h';rw [wpOpsIn_cons];unfold wpOpIn;refine (show (if Region.wanted _ _ = true then _ else _ : Prop) from ?_);rw [ao (by simp [Region.wanted])];refine ⟨fun _ _ => trivial, ?_⟩;have PZ : a'.eval (.tmp d) = .func fn first captured := El.ev (x := .tmp d) hg
 have uq : ∀ w', (execOp a'.eval (⟨none, .defer ⟨.value (.tmp d), #[], ts⟩, t', p', af', none⟩ : Oper)).run P w' = .ok (.defer (YI (.func fn first captured))) w' := fun w' => by
  simp [execOp, resolve, PZ, Deferred.ofValue, YI]
 show Oper.uponIn (Fw none) 0 P (⟨none, .defer ⟨.value (.tmp d), #[], ts⟩, t', p', af', none⟩ : Oper) a' _ _ ((execOp a'.eval (⟨none, .defer ⟨.value (.tmp d), #[], ts⟩, t', p', af', none⟩ : Oper)).run P _)
 rw [uq, Oper.uponIn_defer];refine ⟨_, ⟨?_, El.size, El.small, fun t v hv => ?_⟩, hK⟩
 ·simp [marks, El.defers, Act.put]
 rcases kX hv with ⟨h1, _⟩ | ⟨_, h2⟩
 ·exact absurd h1.symm (vL hv)
 exact El.get t v h2
end
def KS (P : Program) (f : FuncId) (args : Array Value) (w : World) (R : Value -> World -> Prop) : Prop := CallsDIn (Fw none) 0 P f args .returning w fun en u w' => u = .returning /\ bU R en w'
def nz (P : Program) (n : Nat) (fn : Func) (R : Value -> World -> Prop) : hC := fun e w =>
 ∀ a, dh n e a -> LeavesInM (Fw none) 0 P fn a.tmps (bU R) a.defers .returning w
def qq : Nat -> List Value -> fm
 | _, [] => []
 | k, v :: r => (k, v) :: qq (k + 1) r
theorem FB : ∀ (l : List Value) (k t : Nat) (v : Value), get (qq k l) t = some v -> k <= t /\ l[t - k]? = some v
 | [], _, _, _, h => by cases h
 | u :: l, k, t, v, h => by
  rcases kX h with ⟨rfl, rfl⟩ | ⟨hk, h⟩
  ·simp
  obtain ⟨h1, h2⟩ := FB l (k + 1) t v h;refine ⟨oM, ?_⟩;rw [show t - k = (t - (k + 1)) + 1 by omega]
  simpa using h2
theorem Al : ∀ (l : List Value) (k : Nat), k + l.length <= 1000000 -> marks (qq k l) = []
 | [], _, _ => rfl
 | u :: l, k, h => by
  simp only [qq];rw [m3 (by simp at h; omega)];exact Al l (k + 1) (by simp at h; omega)
theorem tM {args : List Value} {n : Nat} (hle : Nat.ble args.length n = true) (hs : Nat.ble n 1000000 = true) : dh n (qq 0 args) { tmps := args.toArray ++ Array.replicate (n - args.toArray.size) undef, defers := [] } := by
 have ad5 : args.length <= n := by simpa using hle
 have hs' : n <= 1000000 := by simpa using hs
 refine ⟨by rw [Al args 0 oM]; rfl, by simp; omega, hs', fun t v hv => ?_⟩;obtain ⟨_, h2⟩ := FB args 0 t v hv;have iy : t < args.length := by
  rcases qz t args.length with h' | h'
  ·exact h'
  simp [Dp h'] at h2
 simp only [Tz];rw [Array.getElem?_append_left (by simpa using iy)];simp at h2 ⊢;simp [h2]
theorem ad {P : Program} {f : FuncId} {fn : Func} {c : Code} {args : List Value} {w : World} {R : Value -> World -> Prop} {n : Nat}
  (hf : P.funcs[f]? = some fn) (hb : fn.body = some c) (hn : fn.ntmps = n) (hle : Nat.ble args.length n = true) (hs : Nat.ble n 1000000 = true)
  (h : X P n none c (nz P n fn R) [] (nz P n fn R) (qq 0 args) w) : Calls P f args.toArray w (bU R) := by
 refine callsIn_wide (n := 0).1 (callsIn_of_wp_marks (F := Fw none) hf hb trivial ?_);refine wpIn_mono (h _ (by rw [hn]; exact tM hle hs)) fun ex a w hq => ?_
 cases ex <;> simp only [oR, oU, nz] at hq <;> simp only [bodyPostM]
 case normal => obtain ⟨e, ha, h1⟩ := hq; exact h1 a ha
 case ret => obtain ⟨e, ha, h1⟩ := hq; exact h1 a ha
 case exit => obtain ⟨K, hk, _⟩ := hq; cases hk
def ar (P : Program) (w : World) (t : TypeId) (a : Addr) (v : Value) : Prop := (loadVar t a).run P w = .ok v w
def kK (P : Program) (e : fm) (w : World) : ResultVar -> Value -> Prop
 | .tmp t, v => get e t = some v
 | .cell t ty, v => ∃ a, get e t = some (.pointer (some a)) /\ ar P w ty a v
section
variable {P : Program} {n : Nat} {fn : Func} {R : Value -> World -> Prop} {e : fm} {w : World}
def ox (P : Program) (n : Nat) (fn : Func) (R : Value -> World -> Prop) (e : fm) (ds : List Value) (w : World) : Prop :=
 ∀ a, dh n e a -> LeavesInM (Fw none) 0 P fn a.tmps (bU R) (ds.map YI) .returning w
theorem bB {ds : List Value} (hm : marks e = ds) (h : ox P n fn R e ds w) : nz P n fn R e w := fun a ha => by rw [ha.defers, hm]; exact h a ha
theorem ox.Fa {v : Value} (h : ∀ a, dh n e a -> (results fn a.tmps).run P w = .ok v w) (hR : R v w) : ox P n fn R e [] w := fun a ha => ⟨v, h a ha, v, rfl, hR⟩
theorem BT (hr : fn.results = #[]) (h : R (.tuple #[]) w) : ox P n fn R e [] w := .Fa (fun a _ => by simp [results, hr]) h
def ET (a : Act) : ResultVar -> Sem Value
 | .tmp t => pure (a.tmps.getD t undef)
 | .cell x t => do loadVar t (<-asAddr (a.tmps.getD x undef))
theorem NP {r : ResultVar} {v : Value} {a : Act} (h : kK P e w r v) (ha : dh n e a) : (ET a r).run P w = .ok v w := by
 cases r with
 | tmp t => simp only [ET, ha.get t v h]; rfl
 | cell x ty =>
  obtain ⟨q, h1, h2⟩ := h;have UL : (loadVar ty q).run P w = .ok v w := h2;simp [ET, ha.get x _ h1, asAddr, UL]
inductive Hf (P : Program) (e : fm) (w : World) : List ResultVar -> List Value -> Prop where
 | nil : Hf P e w [] []
 | cons {r : ResultVar} {v : Value} {rs : List ResultVar} {vs : List Value} (h : kK P e w r v) (h' : Hf P e w rs vs) : Hf P e w (r :: rs) (v :: vs)
theorem NQ {rs : List ResultVar} {vs : List Value} {a : Act} (h : Hf P e w rs vs) (ha : dh n e a) : (rs.mapM (ET a)).run P w = .ok vs w := by
 induction h with
 | nil => rfl
 | cons h _ ih => simp [NP h ha, ih]
theorem qM {rs : List ResultVar} {vs : List Value} {a : Act} (hr : fn.results = rs.toArray) (h : Hf P e w rs vs) (ha : dh n e a) : (results fn a.tmps).run P w = .ok (if h : vs.toArray.size = 1 then vs.toArray[0] else .tuple vs.toArray) w := by
 have h1 := NQ h ha;have h2 : results fn a.tmps = (do let vs <-rs.toArray.mapM (ET a); pure (if h : vs.size = 1 then vs[0] else .tuple vs)) := by
  unfold results; rw [hr]; rfl
 rw [h2];simp only [List.mapM_toArray, bind_map_left, Sem.run_bind, h1, Result.andThen_ok, Sem.run_pure]
theorem p6 {r : ResultVar} {v : Value} (hr : fn.results = #[r]) (hv : kK P e w r v) (h : R v w) : ox P n fn R e [] w := .Fa (fun a ha => qM (rs := [r]) (vs := [v]) hr (.cons hv .nil) ha) h
theorem yX {r r' : ResultVar} {v v' : Value} (hr : fn.results = #[r, r']) (hv : kK P e w r v) (WL : kK P e w r' v') (h : R (.tuple #[v, v']) w) : ox P n fn R e [] w := .Fa (fun a ha => qM (rs := [r, r']) (vs := [v, v']) hr (.cons hv (.cons WL .nil)) ha) h
theorem J6 {r r' Yg : ResultVar} {v v' v'' : Value} (hr : fn.results = #[r, r', Yg]) (hv : kK P e w r v) (WL : kK P e w r' v') (ZK : kK P e w Yg v'') (h : R (.tuple #[v, v', v'']) w) : ox P n fn R e [] w := .Fa (fun a ha => qM (rs := [r, r', Yg]) (vs := [v, v', v'']) hr (.cons hv (.cons WL (.cons ZK .nil))) ha) h
theorem Zz {r1 r2 r3 r4 : ResultVar} {v1 v2 v3 v4 : Value} (hr : fn.results = #[r1, r2, r3, r4]) (h1 : kK P e w r1 v1) (h2 : kK P e w r2 v2) (h3 : kK P e w r3 v3) (h4 : kK P e w r4 v4) (h : R (.tuple #[v1, v2, v3, v4]) w) : ox P n fn R e [] w := .Fa (fun a ha => qM (rs := [r1, r2, r3, r4]) (vs := [v1, v2, v3, v4]) hr (.cons h1 (.cons h2 (.cons h3 (.cons h4 .nil)))) ha) h
theorem iH {UN : FuncId} {first captured : Array Value} {ds : List Value} {Q : Value -> World -> Prop} (hb : (∃ f, P.funcs[UN]? = some f /\ (f.name == "runtime.NumGoroutine") = false /\ f.body.isNone = false))
  (hc : KS P UN (first ++ captured) w Q) (h : ∀ v w', Q v w' -> ox P n fn R e ds w') : ox P n fn R e (.func (.func UN) first captured :: ds) w := fun a ha => by
 refine ⟨by simp, .inr ⟨(fun hd => by cases hd), .func UN, captured, UN, first ++ captured, rfl, ?_, fun _ _ => trivial, hc.1, fun c cs hm hr => ?_⟩⟩
 ·obtain ⟨f, h1, h2, h3⟩ := hb;simp only [YI, invoke, callFunc, Sem.run_bind, Sem.run_pure, Result.andThen_ok, program, Sem.run, h1, h2, h3];simp
 obtain ⟨en, u', w', fr, ⟨hu, v, hv, hQ⟩, hs, hk, hf, hg⟩ := hc.2 c cs hm (Ad none _);subst hv;exact ⟨_, u', w', fr, by subst hu; exact h v w' hQ a ha, hs, hk, hf, hg⟩
theorem Oh {D : Nat} {ds : List Value} (hD : w.heap[D]? = some (.deferred (some []))) (h : ox P n fn R e ds (w.putObj D (.deferred none))) : ox P n fn R e (pQ D :: ds) w := fun a ha =>
 ⟨by simp, .inl ⟨D, _, rfl, run_takeDeferred hD, h a ha⟩⟩
theorem kC (hr : fn.results = #[]) (hm : marks e = []) (h : R (.tuple #[]) w) : nz P n fn R e w := bB hm (BT hr h)
theorem aK {r : ResultVar} {v : Value} (hr : fn.results = #[r]) (hm : marks e = []) (hv : kK P e w r v) (h : R v w) : nz P n fn R e w := bB hm (p6 hr hv h)
theorem cz {r r' : ResultVar} {v v' : Value} (hr : fn.results = #[r, r']) (hm : marks e = []) (hv : kK P e w r v) (WL : kK P e w r' v') (h : R (.tuple #[v, v']) w) : nz P n fn R e w := bB hm (yX hr hv WL h)
theorem m9 {r r' Yg : ResultVar} {v v' v'' : Value} (hr : fn.results = #[r, r', Yg]) (hm : marks e = []) (hv : kK P e w r v) (WL : kK P e w r' v') (ZK : kK P e w Yg v'') (h : R (.tuple #[v, v', v'']) w) : nz P n fn R e w := bB hm (J6 hr hv WL ZK h)
theorem US {r1 r2 r3 r4 : ResultVar} {v1 v2 v3 v4 : Value} (hr : fn.results = #[r1, r2, r3, r4]) (hm : marks e = []) (h1 : kK P e w r1 v1) (h2 : kK P e w r2 v2) (h3 : kK P e w r3 v3) (h4 : kK P e w r4 v4) (h : R (.tuple #[v1, v2, v3, v4]) w) : nz P n fn R e w := bB hm (Zz hr h1 h2 h3 h4 h)
end
theorem sG {e' e : fm} (h : fk e' e := by repeat (first | exact fk.nil _ | refine fk.mark ?_ | refine fk.cons rfl ?_)) : fk e' e := h
theorem sB {e' e : fm} (h : fk e' e := by repeat (first | exact fk.nil _ | refine fk.mark ?_ | refine fk.cons rfl ?_)) (h' : marks e' = marks e := by exact rfl) : xl e' e := ⟨h, h'⟩
abbrev rH := Nat -> Option Obj
abbrev aw := rH -> Prop
structure Gh where
 os : Os
 tape : Nat -> Question -> Nat
 output : Array (Nat × ByteArray)
def aaj (w : World) : Gh := ⟨w.os, w.tape, w.output⟩
def pt (b : Nat) (o : Obj) : aw := fun h => h b = some o
def CD (h1 h2 : rH) : Prop := ∀ b, h1 b = none \/ h2 b = none
def pU (h1 h2 : rH) : rH := fun b => (h1 b).or (h2 b)
def all : List aw -> aw
 | [], _ => True
 | A :: r, h => ∃ h1 h2, CD h1 h2 /\ (∀ b o, (pU h1 h2) b = some o -> h b = some o) /\ A h1 /\ all r h2
def an (g : Gh) (L : List aw) (w : World) : Prop := aaj w = g /\ ∃ h : rH, (∀ b o, h b = some o -> w.heap[b]? = some o) /\ all L h
inductive cG (A : aw) : List aw -> List aw -> Prop where
 | here {R} : cG A (A :: R) R
 | there {B L R} (h : cG A L R) : cG A (B :: L) (B :: R)
theorem pK {A : aw} {L R : List aw} (h : cG A L R := by repeat (first | with_reducible exact cG.here | apply cG.there)) : cG A L R := h
theorem Nc {L : List aw} {h h' : rH} (hh : ∀ b o, h b = some o -> h' b = some o) (ha : all L h) : all L h' := by
 cases L with
 | nil => trivial
 | cons A r => obtain ⟨h1, h2, hd, hu, h3, h4⟩ := ha; exact ⟨h1, h2, hd, fun b o hb => hh b o (hu b o hb), h3, h4⟩
theorem dT {h1 h2 : rH} {b : Nat} {o : Obj} (h : h1 b = some o) : pU h1 h2 b = some o := by simp [pU, h]
theorem eB {h1 h2 : rH} (hd : CD h1 h2) {b : Nat} {o : Obj} (h : h2 b = some o) : pU h1 h2 b = some o := by
 have : h1 b = none := (hd b).resolve_right (by simp [h]);simp [pU, this, h]
theorem dW {h1 h2 : rH} {b : Nat} {o : Obj} (h : pU h1 h2 b = some o) : h1 b = some o \/ h2 b = some o := by
 unfold pU at h;cases e : h1 b with
 | none => rw [e] at h; simp at h; exact .inr h
 | some x => rw [e] at h; simp at h; exact .inl (by rw [h])
theorem Nb {A B : aw} {R : List aw} {h : rH} (ha : all (A :: B :: R) h) : all (B :: A :: R) h := by
 obtain ⟨h1, h2, hd, hu, hA, h3, h4, zK, PS, hB, hR⟩ := ha;have e : ∀ b o, h3 b = some o -> h2 b = some o := fun b o hb => PS b o (dT hb)
 have e' : ∀ b o, h4 b = some o -> h2 b = some o := fun b o hb => PS b o (eB zK hb)
 have w6 : ∀ {x y : rH}, (∀ b o, x b = some o -> y b = some o) -> ∀ b, y b = none -> x b = none := fun WI b hy => by
  cases hx : (_ : rH) b with
  | none => exact hx
  | some o => rw [WI b o hx] at hy; cases hy
 have d14 : CD h1 h4 := fun b => (hd b).imp id (w6 e' b)
 have d13 : CD h1 h3 := fun b => (hd b).imp id (w6 e b)
 refine ⟨h3, pU h1 h4, fun b => ?_, fun b o hb => ?_, hB, h1, h4, d14, fun b o hb => hb, hA, hR⟩
 ·cases x3 : h3 b with
  | none => exact .inl rfl
  | some o =>
   refine .inr ?_;have y1 : h1 b = none := (d13 b).resolve_right (by simp [x3]);have y4 : h4 b = none := (zK b).resolve_left (by simp [x3]);simp [pU, y1, y4]
 rcases dW hb with hb | hb
 ·exact hu b o (eB hd (e b o hb))
 rcases dW hb with hb | hb
 ·exact hu b o (dT hb)
 exact hu b o (eB hd (e' b o hb))
theorem G2 {A : aw} {h : rH} (ha : A h) : all [A] h := by
 refine ⟨h, fun _ => none, fun b => .inr rfl, fun b o hb => ?_, ha, trivial⟩;rcases dW hb with h | h
 ·exact h
 cases h
theorem gk {A : aw} {L L' : List aw} (hh : ∀ h, all L h -> all L' h) {h : rH} (ha : all (A :: L) h) : all (A :: L') h := by
 obtain ⟨h1, h2, hd, hu, hA, hL⟩ := ha; exact ⟨h1, h2, hd, hu, hA, hh _ hL⟩
theorem G3 {A : aw} {L R : List aw} (p : cG A L R) : ∀ h, all L h -> all (A :: R) h := by
 induction p with
 | here => exact fun _ h => h
 | there _ ih => exact fun h ha => Nb (gk ih ha)
theorem O4 {A : aw} {L R : List aw} (p : cG A L R) : ∀ h, all (A :: R) h -> all L h := by
 induction p with
 | here => exact fun _ h => h
 | there _ ih => exact fun h ha => gk ih (Nb ha)
section
variable {g : Gh} {L R L' : List aw} {A B : aw} {w : World} {b : Nat} {o : Obj}
theorem an.mono (hh : ∀ h, all L h -> all L' h) (h : an g L w) : an g L' w := ⟨h.1, let ⟨x, h1, h2⟩ := h.2; ⟨x, h1, hh _ h2⟩⟩
theorem an.pick (h : an g L w) (p : cG A L R) : an g (A :: R) w := h.mono (G3 p)
inductive mD : List aw -> List aw -> List aw -> Prop where
 | nil {L : List aw} : mD [] L L
 | cons {A : aw} {As L M R : List aw} (h : cG A L M) (h' : mD As M R) : mD (A :: As) L R
theorem an.of_eq (h : an g L w) (e : L = L') : an g L' w := e ▸ h
theorem an.Tb (h : an g (A :: R) w) (p : cG A L R) : an g L w := h.mono (O4 p)
theorem an.eV (hh : ∀ h, A h -> B h) (h : an g (A :: R) w) : an g (B :: R) w :=
 h.mono (L := A :: R) (L' := B :: R) fun _ ⟨h1, h2, hd, hu, hA, hR⟩ => ⟨h1, h2, hd, hu, hh _ hA, hR⟩
theorem an.tail (h : an g (A :: R) w) : an g R w := ⟨h.1, let ⟨x, hx, h1, h2, hd, hu, _, hR⟩ := h.2; ⟨h2, fun b o hb => hx b o (hu b o (eB hd hb)), hR⟩⟩
theorem an.drop (h : an g L w) (p : cG A L R) : an g R w := (h.pick p).tail
theorem an.head (h : an g (A :: R) w) : an g [A] w := ⟨h.1, let ⟨x, hx, h1, h2, hd, hu, hA, _⟩ := h.2
 ⟨h1, fun b o hb => hx b o (hu b o (dT hb)), G2 hA⟩⟩
theorem an.cW (h : an g (pt b o :: R) w) : w.heap[b]? = some o := by
 obtain ⟨_, x, hx, h1, h2, hd, hu, hA, _⟩ := h;exact hx b o (hu b o (dT hA))
theorem an.pt (h : an g L w) (p : cG (X.pt b o) L R) : w.heap[b]? = some o := (h.pick p).cW
theorem an.ne {c : Nat} {o' : Obj} (h : an g (X.pt b o :: X.pt c o' :: R) w) : b ≠ c := by
 obtain ⟨_, x, hx, h1, h2, hd, hu, hA, h3, h4, zK, PS, hB, _⟩ := h;rintro rfl;have h1b : h1 b = some o := hA;have h2b : h2 b = some o' := PS b o' (dT hB);rcases hd b with h | h
 ·rw [h1b] at h; cases h
 rw [h2b] at h; cases h
theorem an.size (h : an g (X.pt b o :: R) w) : b < w.heap.size := by
 have := h.cW;exact (sY.1 this).1
theorem an.drawn (h : an g L w) (n : Nat) : an g L { w with drawn := n } := h
theorem an.push (h : an g L w) (o : Obj) : an g (X.pt w.heap.size o :: L) { w with heap := w.heap.push o } := by
 obtain ⟨hg, x, hx, hL⟩ := h;refine ⟨hg, fun b => if b = w.heap.size then some o else x b, fun b o' hb => ?_, fun b => if b = w.heap.size then some o else none, x, fun b => ?_, fun b o' hb => ?_, ?_, hL⟩
 ·simp only at hb;split at hb
  ·rename_i e; subst e; cases hb; simp
  have h1 := hx b o' hb;have h2 := (sY.1 h1).1;simp only;rw [Array.getElem?_push_lt oM]; rw [<-h1, N8]
 ·by_cases e : b = w.heap.size
  ·refine .inr ?_;cases hb : x b with
   | none => rfl
   | some o' => have h1 := (sY.1 (hx b o' hb)).1; omega
  exact .inl (by simp [e])
 ·rcases dW hb with hb | hb
  ·simp only at hb ⊢; split at hb
   ·rename_i e; simp [e, hb]
   cases hb
  simp only; split
  ·rename_i e; have h1 := (sY.1 (hx b o' hb)).1; omega
  exact hb
 simp [X.pt]
theorem an.set (h : an g (X.pt b o :: R) w) (o' : Obj) : an g (X.pt b o' :: R) { w with heap := w.heap.setIfInBounds b o' } := by
 have iy := h.size;obtain ⟨hg, x, hx, h1, h2, hd, hu, hA, hR⟩ := h;have h2b : h2 b = none := (hd b).resolve_left (by have : h1 b = some o := hA; simp [this]);refine ⟨hg, fun k => if k = b then some o' else h2 k, fun k u hk => ?_, fun k => if k = b then some o' else none, h2, fun k => ?_, fun k u hk => ?_, by simp [X.pt], hR⟩
 ·simp only at hk;split at hk
  ·rename_i e; subst e; cases hk; simp [iy]
  rename_i e;simp only;rw [Wh (fun e' => e e'.symm)];exact hx k u (hu k u (eB hd hk))
 ·by_cases e : k = b
  ·exact .inr (by rw [e]; exact h2b)
  exact .inl (by simp [e])
 rcases dW hk with hk | hk
 ·simp only at hk ⊢; split at hk
  ·rename_i e; simp [e, hk]
  cases hk
 simp only; split
 ·rename_i e; rw [e, h2b] at hk; cases hk
 exact hk
def VG (w0 : World) : aw := fun h => ∀ b o, w0.heap[b]? = some o -> h b = some o
theorem an.start (w : World) : an (aaj w) [VG w] w :=
 ⟨rfl, fun b => w.heap[b]?, fun _ _ h => h, G2 fun _ _ h => h⟩
theorem an.E' {w0 : World} (h : an g (VG w0 :: R) w) {b : Nat} {o : Obj} (hb : w0.heap[b]? = some o) : w.heap[b]? = some o := by
 obtain ⟨_, x, hx, h1, h2, hd, hu, hA, _⟩ := h;exact hx b o (hu b o (dT (hA b o hb)))
def ex {α : Sort _} (F : α -> aw) : aw := fun h => ∃ x, F x h
def lZ (p : Prop) (A : aw) : aw := fun h => p /\ A h
def aV (M : List aw) : aw := all M
theorem an.fD {α : Sort _} {F : α -> aw} (h : an g (ex F :: R) w) : ∃ x, an g (F x :: R) w := by
 obtain ⟨hg, x, hx, h1, h2, hd, hu, ⟨y, hA⟩, hR⟩ := h;exact ⟨y, hg, x, hx, h1, h2, hd, hu, hA, hR⟩
theorem an.gh {α : Sort _} {F : α -> aw} (x : α) (h : an g (F x :: R) w) : an g (ex F :: R) w := h.eV fun _ h => ⟨x, h⟩
theorem an.eE {p : Prop} (h : an g (lZ p A :: R) w) : p /\ an g (A :: R) w := by
 obtain ⟨hg, x, hx, h1, h2, hd, hu, ⟨hp, hA⟩, hR⟩ := h;exact ⟨hp, hg, x, hx, h1, h2, hd, hu, hA, hR⟩
theorem an.fJ {p : Prop} (hp : p) (h : an g (A :: R) w) : an g (lZ p A :: R) w := h.eV fun _ h => ⟨hp, h⟩
theorem iM : ∀ (M : List aw) (R : List aw) (h : rH), all (aV M :: R) h ↔ all (M ++ R) h
 | [], R, h => ⟨fun ⟨h1, h2, hd, hu, _, hR⟩ => Nc (fun b o hb => hu b o (eB hd hb)) hR,
   fun hR => ⟨fun _ => none, h, fun b => .inl rfl, fun b o hb => by rcases dW hb with h | h <;> first | cases h | exact h, trivial, hR⟩⟩
 | A :: M, R, h => by
  constructor
  ·rintro ⟨h1, h2, hd, hu, ⟨h3, h4, zK, PS, hA, hM⟩, hR⟩;have e3 : ∀ b o, h3 b = some o -> h1 b = some o := fun b o hb => PS b o (dT hb)
   have e4 : ∀ b o, h4 b = some o -> h1 b = some o := fun b o hb => PS b o (eB zK hb)
   have w6 : ∀ {x y : rH}, (∀ b o, x b = some o -> y b = some o) -> ∀ b, y b = none -> x b = none := fun WI b hy => by
    cases hx : (_ : rH) b with
    | none => exact hx
    | some o => rw [WI b o hx] at hy; cases hy
   have d42 : CD h4 h2 := fun b => (hd b).imp (w6 e4 b) id
   refine ⟨h3, pU h4 h2, fun b => ?_, fun b o hb => ?_, hA, (iM M R _).1 ⟨h4, h2, d42, fun _ _ h => h, hM, hR⟩⟩
   ·cases x3 : h3 b with
    | none => exact .inl rfl
    | some o =>
     refine .inr ?_;have y4 : h4 b = none := (zK b).resolve_left (by simp [x3]);have y2 : h2 b = none := (hd b).resolve_left (by simp [e3 b o x3]);simp [pU, y2, y4]
   rcases dW hb with hb | hb
   ·exact hu b o (dT (e3 b o hb))
   rcases dW hb with hb | hb
   ·exact hu b o (dT (e4 b o hb))
   exact hu b o (eB hd hb)
  rintro ⟨h3, h5, hd, hu, hA, hMR⟩;obtain ⟨h4, h2, zK, PS, hM, hR⟩ := (iM M R h5).2 hMR;have e4 : ∀ b o, h4 b = some o -> h5 b = some o := fun b o hb => PS b o (dT hb)
  have e2 : ∀ b o, h2 b = some o -> h5 b = some o := fun b o hb => PS b o (eB zK hb)
  have w6 : ∀ {x y : rH}, (∀ b o, x b = some o -> y b = some o) -> ∀ b, y b = none -> x b = none := fun WI b hy => by
   cases hx : (_ : rH) b with
   | none => exact hx
   | some o => rw [WI b o hx] at hy; cases hy
  have d34 : CD h3 h4 := fun b => (hd b).imp id (w6 e4 b)
  refine ⟨pU h3 h4, h2, fun b => ?_, fun b o hb => ?_, ⟨h3, h4, d34, fun _ _ h => h, hA, hM⟩, hR⟩
  ·cases x2 : h2 b with
   | none => exact .inr rfl
   | some o =>
    refine .inl ?_;have y4 : h4 b = none := (zK b).resolve_right (by simp [x2]);have y3 : h3 b = none := (hd b).resolve_right (by simp [e2 b o x2]);simp [pU, y3, y4]
  rcases dW hb with hb | hb
  ·rcases dW hb with hb | hb
   ·exact hu b o (dT hb)
   exact hu b o (eB hd (e4 b o hb))
  exact hu b o (eB hd (e2 b o hb))
theorem an.cF {M : List aw} (h : an g (aV M :: R) w) : an g (M ++ R) w := h.mono fun _ => (iM M R _).1
theorem an.bz {M : List aw} (h : an g (M ++ R) w) : an g (aV M :: R) w := h.mono fun _ => (iM M R _).2
theorem q7 {A : aw} {M R : List aw} {w : World} {G : Gh} (h : an G (M ++ R) w) (f : ∀ h, all M h -> A h) : an G (A :: R) w := (an.bz h).eV f
theorem gC {A : aw} {R : List aw} {w : World} {G : Gh} (h : an G (A :: R) w) : ∃ hh, A hh /\ ∀ M, all M hh -> an G (M ++ R) w := by
 obtain ⟨hg, x, hx, h1, h2, hd, hu, hA, hR⟩ := h;exact ⟨h1, hA, fun M hM => an.cF ⟨hg, x, hx, h1, h2, hd, hu, hM, hR⟩⟩
theorem Sj {As L R : List aw} (p : mD As L R) : ∀ h, all L h -> all (As ++ R) h := by
 induction p with
 | nil => exact fun _ h => h
 | cons h _ ih => exact fun x ha => gk ih (G3 h x ha)
inductive uj : List aw -> List aw -> List aw -> Prop where
 | nil {L : List aw} : uj [] L L
 | cons {A : aw} {As L M O : List aw} (h : cG A L M) (h' : uj As M O) : uj (A :: As) L (A :: O)
theorem bR {As L M : List aw} (h : uj As L M := by repeat (first | exact uj.nil | (apply uj.cons; repeat (first | with_reducible exact cG.here | apply cG.there)))) : uj As L M := h
theorem JB {As L O : List aw} (p : uj As L O) : ∀ h, all L h -> all O h := by
 induction p with
 | nil => exact fun _ h => h
 | cons h _ ih => exact fun x ha => gk ih (G3 h x ha)
theorem an.GQ {As L O : List aw} (h : an g L w) (p : uj As L O) : an g O w := h.mono (JB p)
theorem an.E3 {As : List aw} (h : an g L w) (p : mD As L R) : an g (As ++ R) w := h.mono (Sj p)
def aG (L : List aw) (p : World -> Prop) : Prop := ∀ g w, an g L w -> p w
theorem aG.at {p : World -> Prop} (k : aG L p) (h : an g L w) : p w := k g w h
theorem aG.cons {p : World -> Prop} (k : aG L p) (A : aw) : aG (A :: L) p := fun g w h => k g w h.tail
theorem aG.head {p : World -> Prop} (k : aG [A] p) (R : List aw) : aG (A :: R) p := fun g w h => k g w h.head
theorem aG.pick {p : World -> Prop} (k : aG (A :: R) p) (q : cG A L R) : aG L p := fun g w h => k g w (h.pick q)
inductive Sn : List aw -> List aw -> Prop where
 | refl (L : List aw) : Sn L L
 | cons {L L' : List aw} {A : aw} (h : Sn L L') : Sn L (A :: L')
theorem sF {L L' : List aw} (h : Sn L L' := by repeat (first | exact Sn.refl _ | apply Sn.cons)) : Sn L L' := h
theorem aG.of {p : World -> Prop} (k : aG L p) (s : Sn L L') : aG L' p := by
 induction s with
 | refl => exact k
 | cons _ ih => exact aG.cons ih _
theorem aG.mono {p q : World -> Prop} (k : aG L p) (h : ∀ w, p w -> q w) : aG L q := fun g w hh => h _ (k g w hh)
end
theorem an.b {g : Gh} {L O : List aw} {w : World} (h : an g L w) (As : List aw) (p : uj As L O := by repeat (first | exact uj.nil | (apply uj.cons; repeat (first | with_reducible exact cG.here | apply cG.there)))) : an g O w := h.mono (JB p)
def rh (e : fm) : Operand -> Value := fun x => (ev e x).getD undef
theorem bj {e : fm} {x : Operand} {v : Value} (h : ev e x = some v) : rh e x = v := by simp [rh, h]
theorem JU {e : fm} {x : Operand} {v : Value} (h : ev e x = some v) : ev e x = some (rh e x) := by simp [rh, h]
theorem BP {e : fm} {x : Operand} {v : Value} (hx : ev e x = some v) {z : Operand} (hz : z = x) : ev e z = some (rh e z) := by subst hz; exact JU hx
theorem CX {e : fm} {x y : Operand} {v u : Value} (hx : ev e x = some v) (hy : ev e y = some u) {z : Operand} (hz : z = x \/ z = y) : ev e z = some (rh e z) := hz.elim (BP hx) (BP hy)
theorem oh3 {e : fm} {x y c : Operand} {v u s : Value} (hx : ev e x = some v) (hy : ev e y = some u) (hc : ev e c = some s) {z : Operand} (hz : z = x \/ z = y \/ z = c) : ev e z = some (rh e z) := hz.elim (BP hx) (CX hy hc)
def OP (e : fm) : List Operand -> Option (List Value)
 | [] => some []
 | x :: r => match ev e x, OP e r with
  | some v, some vs => some (v :: vs)
  | _, _ => none
theorem qU {e : fm} : ∀ {xs : List Operand} {vs : List Value}, OP e xs = some vs -> (∀ z ∈ xs, ev e z = some (rh e z)) /\ xs.map (rh e) = vs
 | [], _, h => by simp [OP] at h; subst h; simp
 | x :: r, vs, h => by
  simp only [OP] at h;split at h
  ·rename_i v vs' h1 h2;cases h;obtain ⟨h3, h4⟩ := qU h2;refine ⟨fun z hz => ?_, by simp [bj h1, h4]⟩;rcases bQ.1 hz with rfl | hz
   ·exact JU h1
   exact h3 z hz
  cases h
theorem jI {x : Int} (h : -9223372036854775808 <= x /\ x <= 9223372036854775807) : IntKind.i64.wrap x = x := by rw [IntKind.wrap_i64]; omega
section
variable {P : Program} {n : Nat} {ops : Array Oper} {dr : Bool} {done r : List Nat} {K : fm -> World -> Prop} {e : fm} {w : World} {i d : Nat} {t : TypeId} {p : String} {af : Array Edge} {g : Option (Nat × Bool)}
theorem VN {x : Operand} {v : Value} (ho : ops[i]? = some ⟨some d, .move x, t, p, af, g⟩) (hx : ev e x = some v)
  (h : XL P n ops dr (i :: done) r K ((d, v) :: e) w) (hd : Nat.blt d n = true := by exact rfl) (hg : Gd ops e g := by first | trivial | exact ⟨_, rfl, rfl⟩) : XL P n ops dr done (i :: r) K e w :=
 dA ho (by simpa [cy] using hd) hg (ρ := rh e) (by intro z hZ; simp [Op.operands] at hZ; exact BP hx hZ) rfl (v := v) (fun w' => by simp [execOp, bj hx]) h
theorem abT {x : Operand} {v : Value} (ho : ops[i]? = some ⟨some d, .assign x, t, p, af, g⟩) (hx : ev e x = some v)
  (h : XL P n ops dr (i :: done) r K ((d, v) :: e) w) (hd : Nat.blt d n = true := by exact rfl) (hg : Gd ops e g := by first | trivial | exact ⟨_, rfl, rfl⟩) : XL P n ops dr done (i :: r) K e w :=
 dA ho (by simpa [cy] using hd) hg (ρ := rh e) (by intro z hZ; simp [Op.operands] at hZ; exact BP hx hZ) rfl (v := v) (fun w' => by simp [execOp, bj hx]) h
theorem SX {c a b : Operand} {q : Bool} {va vb : Value} (ho : ops[i]? = some ⟨some d, .pick c a b, t, p, af, g⟩) (hc : ev e c = some (.bool q)) (ha : ev e a = some va) (hb : ev e b = some vb)
  (h : XL P n ops dr (i :: done) r K ((d, cond q va vb) :: e) w) (hd : Nat.blt d n = true := by exact rfl) (hg : Gd ops e g := by first | trivial | exact ⟨_, rfl, rfl⟩) : XL P n ops dr done (i :: r) K e w :=
 dA ho (by simpa [cy] using hd) hg (ρ := rh e) (by intro z hZ; simp [Op.operands] at hZ; exact oh3 hc ha hb hZ) rfl (v := cond q va vb)
  (fun w' => by cases q <;> simp [execOp, bj hc, bj ha, bj hb, asBool]) h
theorem sO {c a b : Operand} {va vb : Value} (ho : ops[i]? = some ⟨some d, .pick c a b, t, p, af, g⟩) (hc : ev e c = some (.bool true)) (ha : ev e a = some va) (hb : ev e b = some vb)
  (h : XL P n ops dr (i :: done) r K ((d, va) :: e) w) (hd : Nat.blt d n = true := by exact rfl) (hg : Gd ops e g := by first | trivial | exact ⟨_, rfl, rfl⟩) : XL P n ops dr done (i :: r) K e w := SX (hd := hd) (hg := hg) ho hc ha hb h
theorem qJ {c a b : Operand} {va vb : Value} (ho : ops[i]? = some ⟨some d, .pick c a b, t, p, af, g⟩) (hc : ev e c = some (.bool false)) (ha : ev e a = some va) (hb : ev e b = some vb)
  (h : XL P n ops dr (i :: done) r K ((d, vb) :: e) w) (hd : Nat.blt d n = true := by exact rfl) (hg : Gd ops e g := by first | trivial | exact ⟨_, rfl, rfl⟩) : XL P n ops dr done (i :: r) K e w := SX (hd := hd) (hg := hg) ho hc ha hb h
theorem iU {op : BinOp} {s u : TypeId} {x y : Operand} {vx vy v : Value} (ho : ops[i]? = some ⟨some d, .binOp op s x y u, t, p, af, g⟩) (hk : dk P (.binOp op s x y u) = 0)
  (hx : ev e x = some vx) (hy : ev e y = some vy) (hr : ∀ w', (do eqGuard op s x y vx vy; binOp op s vx vy : Sem Value).run P w' = .ok v w')
  (h : XL P n ops dr (i :: done) r K ((d, v) :: e) w) (hd : Nat.blt d n = true := by exact rfl) (hg : Gd ops e g := by first | trivial | exact ⟨_, rfl, rfl⟩) : XL P n ops dr done (i :: r) K e w :=
 dA ho (by simpa [cy] using hd) hg (ρ := rh e) (by intro z hZ; simp [Op.operands] at hZ; exact CX hx hy hZ) hk (v := v)
  (fun w' => by
   have := hr w';simp only [execOp, bj hx, bj hy];rw [Sem.run_bind, this]; rfl) h
theorem ct {op : BinOp} {s : TypeId} {x y : Operand} {k k' : IntKind} {a b : Int} {w : World} : (eqGuard op s x y (.int k a) (.int k' b)).run P w = .ok () w := by
 unfold eqGuard; cases op <;> simp
theorem bk {op : BinOp} {s u : TypeId} {x y : Operand} (h : (op matches .eql | .neq) = false) : dk P (.binOp op s x y u) = 0 := by
 unfold dk; cases op <;> first | rfl | (simp at h)
variable {s u : TypeId} {x y : Operand} {k : IntKind} {a b : Int}
theorem Iu (ho : ops[i]? = some ⟨some d, .binOp .add s x y u, t, p, af, g⟩) (hx : ev e x = some (.int k a)) (hy : ev e y = some (.int k b))
  (h : XL P n ops dr (i :: done) r K ((d, .int k (k.wrap (a + b))) :: e) w) (hd : Nat.blt d n = true := by exact rfl) (hg : Gd ops e g := by first | trivial | exact ⟨_, rfl, rfl⟩) : XL P n ops dr done (i :: r) K e w :=
 iU (hd := hd) (hg := hg) ho (bk rfl) hx hy (fun w' => by simp [ct, binOp, Op.intArith]) h
theorem SU (ho : ops[i]? = some ⟨some d, .binOp .sub s x y u, t, p, af, g⟩) (hx : ev e x = some (.int k a)) (hy : ev e y = some (.int k b))
  (h : XL P n ops dr (i :: done) r K ((d, .int k (k.wrap (a - b))) :: e) w) (hd : Nat.blt d n = true := by exact rfl) (hg : Gd ops e g := by first | trivial | exact ⟨_, rfl, rfl⟩) : XL P n ops dr done (i :: r) K e w :=
 iU (hd := hd) (hg := hg) ho (bk rfl) hx hy (fun w' => by simp [ct, binOp, Op.intArith]) h
theorem aaM (ho : ops[i]? = some ⟨some d, .binOp .mul s x y u, t, p, af, g⟩) (hx : ev e x = some (.int k a)) (hy : ev e y = some (.int k b))
  (h : XL P n ops dr (i :: done) r K ((d, .int k (k.wrap (a * b))) :: e) w) (hd : Nat.blt d n = true := by exact rfl) (hg : Gd ops e g := by first | trivial | exact ⟨_, rfl, rfl⟩) : XL P n ops dr done (i :: r) K e w :=
 iU (hd := hd) (hg := hg) ho (bk rfl) hx hy (fun w' => by simp [ct, binOp, Op.intArith]) h
theorem aaI (ho : ops[i]? = some ⟨some d, .binOp .quo s x y u, t, p, af, g⟩) (hx : ev e x = some (.int k a)) (hy : ev e y = some (.int k b)) (hb : b ≠ 0)
  (h : XL P n ops dr (i :: done) r K ((d, .int k (k.wrap (a.tdiv b))) :: e) w) (hd : Nat.blt d n = true := by exact rfl) (hg : Gd ops e g := by first | trivial | exact ⟨_, rfl, rfl⟩) : XL P n ops dr done (i :: r) K e w :=
 iU (hd := hd) (hg := hg) ho (bk rfl) hx hy (fun w' => by simp [ct, binOp, Op.intDiv, hb]) h
theorem X3 (ho : ops[i]? = some ⟨some d, .binOp .rem s x y u, t, p, af, g⟩) (hx : ev e x = some (.int k a)) (hy : ev e y = some (.int k b)) (hb : b ≠ 0)
  (h : XL P n ops dr (i :: done) r K ((d, .int k (a.tmod b)) :: e) w) (hd : Nat.blt d n = true := by exact rfl) (hg : Gd ops e g := by first | trivial | exact ⟨_, rfl, rfl⟩) : XL P n ops dr done (i :: r) K e w :=
 iU (hd := hd) (hg := hg) ho (bk rfl) hx hy (fun w' => by simp [ct, binOp, Op.intDiv, hb]) h
theorem BA (ho : ops[i]? = some ⟨some d, .binOp .add s x y u, t, p, af, g⟩) (hx : ev e x = some (iQ a)) (hy : ev e y = some (iQ b)) (hb : -9223372036854775808 <= a + b /\ a + b <= 9223372036854775807)
  (h : XL P n ops dr (i :: done) r K ((d, iQ (a + b)) :: e) w) (hd : Nat.blt d n = true := by exact rfl) (hg : Gd ops e g := by first | trivial | exact ⟨_, rfl, rfl⟩) : XL P n ops dr done (i :: r) K e w := Iu (hd := hd) (hg := hg) ho hx hy (by rw [jI hb]; exact h)
theorem Bv (ho : ops[i]? = some ⟨some d, .binOp .sub s x y u, t, p, af, g⟩) (hx : ev e x = some (iQ a)) (hy : ev e y = some (iQ b)) (hb : -9223372036854775808 <= a - b /\ a - b <= 9223372036854775807)
  (h : XL P n ops dr (i :: done) r K ((d, iQ (a - b)) :: e) w) (hd : Nat.blt d n = true := by exact rfl) (hg : Gd ops e g := by first | trivial | exact ⟨_, rfl, rfl⟩) : XL P n ops dr done (i :: r) K e w := SU (hd := hd) (hg := hg) ho hx hy (by rw [jI hb]; exact h)
theorem jH (ho : ops[i]? = some ⟨some d, .binOp .mul s x y u, t, p, af, g⟩) (hx : ev e x = some (iQ a)) (hy : ev e y = some (iQ b)) (hb : -9223372036854775808 <= a * b /\ a * b <= 9223372036854775807)
  (h : XL P n ops dr (i :: done) r K ((d, iQ (a * b)) :: e) w) (hd : Nat.blt d n = true := by exact rfl) (hg : Gd ops e g := by first | trivial | exact ⟨_, rfl, rfl⟩) : XL P n ops dr done (i :: r) K e w := aaM (hd := hd) (hg := hg) ho hx hy (by rw [jI hb]; exact h)
theorem re (ho : ops[i]? = some ⟨some d, .binOp .quo s x y u, t, p, af, g⟩) (hx : ev e x = some (iQ a)) (hy : ev e y = some (iQ b)) (ha : 0 <= a /\ a <= 9223372036854775807) (hb : 1 <= b)
  (h : XL P n ops dr (i :: done) r K ((d, iQ (a / b)) :: e) w) (hd : Nat.blt d n = true := by exact rfl) (hg : Gd ops e g := by first | trivial | exact ⟨_, rfl, rfl⟩) : XL P n ops dr done (i :: r) K e w := aaI (hd := hd) (hg := hg) ho hx hy oM (by
   have h1 : a.tdiv b = a / b := Int.tdiv_eq_ediv_of_nonneg ha.1;have h2 : 0 <= a / b := Int.ediv_nonneg ha.1 oM;have h3 : a / b <= a := Int.ediv_le_self b ha.1;rw [h1, jI ⟨oM, oM⟩]; exact h)
theorem SV (ho : ops[i]? = some ⟨some d, .binOp .rem s x y u, t, p, af, g⟩) (hx : ev e x = some (iQ a)) (hy : ev e y = some (iQ b)) (ha : 0 <= a) (hb : 1 <= b)
  (h : XL P n ops dr (i :: done) r K ((d, iQ (a % b)) :: e) w) (hd : Nat.blt d n = true := by exact rfl) (hg : Gd ops e g := by first | trivial | exact ⟨_, rfl, rfl⟩) : XL P n ops dr done (i :: r) K e w := X3 (hd := hd) (hg := hg) ho hx hy oM (by
   have h1 : a.tmod b = a % b := Int.tmod_eq_emod_of_nonneg ha;rw [h1]; exact h)
theorem aaY (ho : ops[i]? = some ⟨some d, .binOp .and s x y u, t, p, af, g⟩) (hx : ev e x = some (.int k a)) (hy : ev e y = some (.int k b))
  (h : XL P n ops dr (i :: done) r K ((d, .int k (k.wrap (BitVec.ofInt k.bits a &&& BitVec.ofInt k.bits b).toNat)) :: e) w) (hd : Nat.blt d n = true := by exact rfl) (hg : Gd ops e g := by first | trivial | exact ⟨_, rfl, rfl⟩) : XL P n ops dr done (i :: r) K e w :=
 iU (hd := hd) (hg := hg) ho (bk rfl) hx hy (fun w' => by simp [ct, binOp, Op.intBits]) h
theorem abS (ho : ops[i]? = some ⟨some d, .binOp .or s x y u, t, p, af, g⟩) (hx : ev e x = some (.int k a)) (hy : ev e y = some (.int k b))
  (h : XL P n ops dr (i :: done) r K ((d, .int k (k.wrap (BitVec.ofInt k.bits a ||| BitVec.ofInt k.bits b).toNat)) :: e) w) (hd : Nat.blt d n = true := by exact rfl) (hg : Gd ops e g := by first | trivial | exact ⟨_, rfl, rfl⟩) : XL P n ops dr done (i :: r) K e w :=
 iU (hd := hd) (hg := hg) ho (bk rfl) hx hy (fun w' => by simp [ct, binOp, Op.intBits]) h
theorem aaG (ho : ops[i]? = some ⟨some d, .binOp .xor s x y u, t, p, af, g⟩) (hx : ev e x = some (.int k a)) (hy : ev e y = some (.int k b))
  (h : XL P n ops dr (i :: done) r K ((d, .int k (k.wrap (BitVec.ofInt k.bits a ^^^ BitVec.ofInt k.bits b).toNat)) :: e) w) (hd : Nat.blt d n = true := by exact rfl) (hg : Gd ops e g := by first | trivial | exact ⟨_, rfl, rfl⟩) : XL P n ops dr done (i :: r) K e w :=
 iU (hd := hd) (hg := hg) ho (bk rfl) hx hy (fun w' => by simp [ct, binOp, Op.intBits]) h
theorem aaN (ho : ops[i]? = some ⟨some d, .binOp .lss s x y u, t, p, af, g⟩) (hx : ev e x = some (.int k a)) (hy : ev e y = some (.int k b))
  (h : XL P n ops dr (i :: done) r K ((d, .bool (decide (a < b))) :: e) w) (hd : Nat.blt d n = true := by exact rfl) (hg : Gd ops e g := by first | trivial | exact ⟨_, rfl, rfl⟩) : XL P n ops dr done (i :: r) K e w :=
 iU (hd := hd) (hg := hg) ho (bk rfl) hx hy (fun w' => by simp [ct, binOp, Op.intCmp]) h
theorem aaO (ho : ops[i]? = some ⟨some d, .binOp .leq s x y u, t, p, af, g⟩) (hx : ev e x = some (.int k a)) (hy : ev e y = some (.int k b))
  (h : XL P n ops dr (i :: done) r K ((d, .bool (decide (a <= b))) :: e) w) (hd : Nat.blt d n = true := by exact rfl) (hg : Gd ops e g := by first | trivial | exact ⟨_, rfl, rfl⟩) : XL P n ops dr done (i :: r) K e w :=
 iU (hd := hd) (hg := hg) ho (bk rfl) hx hy (fun w' => by simp [ct, binOp, Op.intCmp]) h
theorem aaP (ho : ops[i]? = some ⟨some d, .binOp .gtr s x y u, t, p, af, g⟩) (hx : ev e x = some (.int k a)) (hy : ev e y = some (.int k b))
  (h : XL P n ops dr (i :: done) r K ((d, .bool (decide (b < a))) :: e) w) (hd : Nat.blt d n = true := by exact rfl) (hg : Gd ops e g := by first | trivial | exact ⟨_, rfl, rfl⟩) : XL P n ops dr done (i :: r) K e w :=
 iU (hd := hd) (hg := hg) ho (bk rfl) hx hy (fun w' => by simp [ct, binOp, Op.intCmp]) h
theorem aaQ (ho : ops[i]? = some ⟨some d, .binOp .geq s x y u, t, p, af, g⟩) (hx : ev e x = some (.int k a)) (hy : ev e y = some (.int k b))
  (h : XL P n ops dr (i :: done) r K ((d, .bool (decide (b <= a))) :: e) w) (hd : Nat.blt d n = true := by exact rfl) (hg : Gd ops e g := by first | trivial | exact ⟨_, rfl, rfl⟩) : XL P n ops dr done (i :: r) K e w :=
 iU (hd := hd) (hg := hg) ho (bk rfl) hx hy (fun w' => by simp [ct, binOp, Op.intCmp]) h
theorem aaU (ho : ops[i]? = some ⟨some d, .binOp .eql s x y u, t, p, af, g⟩) (hk : dk P (.binOp .eql s x y u) = 0) (hx : ev e x = some (.int k a)) (hy : ev e y = some (.int k b))
  (h : XL P n ops dr (i :: done) r K ((d, .bool (decide (a = b))) :: e) w) (hd : Nat.blt d n = true := by exact rfl) (hg : Gd ops e g := by first | trivial | exact ⟨_, rfl, rfl⟩) : XL P n ops dr done (i :: r) K e w :=
 iU (hd := hd) (hg := hg) ho hk hx hy (fun w' => by simp [ct, binOp, Op.intCmp]; by_cases h : a = b <;> simp [h]) h
theorem aaL (ho : ops[i]? = some ⟨some d, .binOp .neq s x y u, t, p, af, g⟩) (hk : dk P (.binOp .neq s x y u) = 0) (hx : ev e x = some (.int k a)) (hy : ev e y = some (.int k b))
  (h : XL P n ops dr (i :: done) r K ((d, .bool (decide (a ≠ b))) :: e) w) (hd : Nat.blt d n = true := by exact rfl) (hg : Gd ops e g := by first | trivial | exact ⟨_, rfl, rfl⟩) : XL P n ops dr done (i :: r) K e w :=
 iU (hd := hd) (hg := hg) ho hk hx hy (fun w' => by simp [ct, binOp, Op.intCmp]; by_cases h : a = b <;> simp [h, bne]) h
theorem rO {c : TypeId} {q : Option Addr} (hs : P.underlying s = some (.pointer c)) (w : World) : (Op.equal s (.pointer q) (.pointer none)).run P w = .ok q.isNone w := by
 have : ∀ m, (Op.equalIn (m + 1) s (.pointer q) (.pointer none)).run P w = .ok q.isNone w := fun m => by
  cases q <;> simp [Op.equalIn, run_underlying hs]
 exact this 9999
theorem wW {c : TypeId} {q : Option Addr} (ho : ops[i]? = some ⟨some d, .binOp .eql s x (.const (.pointer none)) u, t, p, af, g⟩) (hk : dk P (.binOp .eql s x (.const (.pointer none)) u) = 0)
  (hs : P.underlying s = some (.pointer c)) (hx : ev e x = some (.pointer q))
  (h : XL P n ops dr (i :: done) r K ((d, .bool q.isNone) :: e) w) (hd : Nat.blt d n = true := by exact rfl) (hg : Gd ops e g := by first | trivial | exact ⟨_, rfl, rfl⟩) : XL P n ops dr done (i :: r) K e w :=
 iU (hd := hd) (hg := hg) ho hk hx (show ev e (.const (.pointer none)) = some (.pointer none) from rfl) (fun w' => by
  have h0 : (eqGuard .eql s x (.const (.pointer none)) (.pointer q) (.pointer none)).run P w' = .ok () w' := by simp [eqGuard]
  have h1 : (binOp .eql s (.pointer q) (.pointer none)).run P w' = .ok (.bool q.isNone) w' := by
   simp only [binOp, Sem.run_bind, rO hs, Result.andThen_ok]; rfl
  simp only [Sem.run_bind, h0, h1, Result.andThen_ok]) h
theorem VM {c : TypeId} {q : Option Addr} (ho : ops[i]? = some ⟨some d, .binOp .neq s x (.const (.pointer none)) u, t, p, af, g⟩) (hk : dk P (.binOp .neq s x (.const (.pointer none)) u) = 0)
  (hs : P.underlying s = some (.pointer c)) (hx : ev e x = some (.pointer q))
  (h : XL P n ops dr (i :: done) r K ((d, .bool q.isSome) :: e) w) (hd : Nat.blt d n = true := by exact rfl) (hg : Gd ops e g := by first | trivial | exact ⟨_, rfl, rfl⟩) : XL P n ops dr done (i :: r) K e w :=
 iU (hd := hd) (hg := hg) ho hk hx (show ev e (.const (.pointer none)) = some (.pointer none) from rfl) (fun w' => by
  have h0 : (eqGuard .neq s x (.const (.pointer none)) (.pointer q) (.pointer none)).run P w' = .ok () w' := by simp [eqGuard]
  have h1 : (binOp .neq s (.pointer q) (.pointer none)).run P w' = .ok (.bool q.isSome) w' := by
   simp only [binOp, Sem.run_bind, rO hs, Result.andThen_ok]; cases q <;> rfl
  simp only [Sem.run_bind, h0, h1, Result.andThen_ok]) h
theorem EN {q q' : Bool} (hs : P.underlying s = some .bool) (w : World) : (Op.equal s (.bool q) (.bool q')).run P w = .ok (decide (q = q')) w := by
 have : ∀ m, (Op.equalIn (m + 1) s (.bool q) (.bool q')).run P w = .ok (decide (q = q')) w := fun m => by
  simp [Op.equalIn, run_underlying hs]; cases q <;> cases q' <;> rfl
 exact this 9999
theorem SY {q q' : Bool} (ho : ops[i]? = some ⟨some d, .binOp .neq s x y u, t, p, af, g⟩) (hk : dk P (.binOp .neq s x y u) = 0) (hs : P.underlying s = some .bool) (hx : ev e x = some (.bool q)) (hy : ev e y = some (.bool q'))
  (h : XL P n ops dr (i :: done) r K ((d, .bool (decide (q ≠ q'))) :: e) w) (hd : Nat.blt d n = true := by exact rfl) (hg : Gd ops e g := by first | trivial | exact ⟨_, rfl, rfl⟩) : XL P n ops dr done (i :: r) K e w :=
 iU (hd := hd) (hg := hg) ho hk hx hy (fun w' => by
  have h0 : (eqGuard .neq s x y (.bool q) (.bool q')).run P w' = .ok () w' := by simp [eqGuard]
  have h1 : (binOp .neq s (.bool q) (.bool q')).run P w' = .ok (.bool (decide (q ≠ q'))) w' := by simp only [binOp, Sem.run_bind, EN hs, Result.andThen_ok]; cases q <;> cases q' <;> rfl
  simp only [Sem.run_bind, h0, h1, Result.andThen_ok]) h
theorem jG {q : Bool} (ho : ops[i]? = some ⟨some d, .unOp .not s x, t, p, af, g⟩) (hx : ev e x = some (.bool q))
  (h : XL P n ops dr (i :: done) r K ((d, .bool (!q)) :: e) w) (hd : Nat.blt d n = true := by exact rfl) (hg : Gd ops e g := by first | trivial | exact ⟨_, rfl, rfl⟩) : XL P n ops dr done (i :: r) K e w :=
 dA ho (by simpa [cy] using hd) hg (ρ := rh e) (by intro z hZ; simp [Op.operands] at hZ; exact BP hx hZ) rfl (v := .bool (!q)) (fun w' => by simp [execOp, bj hx, Op.unary]) h
theorem fo {q : Prop} [Decidable q] (ho : ops[i]? = some ⟨some d, .unOp .not s x, t, p, af, g⟩) (hx : ev e x = some (.bool (decide q)))
  (h : XL P n ops dr (i :: done) r K ((d, .bool (decide (¬ q))) :: e) w) (hd : Nat.blt d n = true := by exact rfl) (hg : Gd ops e g := by first | trivial | exact ⟨_, rfl, rfl⟩) : XL P n ops dr done (i :: r) K e w :=
 jG (hd := hd) (hg := hg) ho hx (by rw [show (!decide q) = decide (¬ q) by simp]; exact h)
theorem aaK (ho : ops[i]? = some ⟨some d, .unOp .neg s x, t, p, af, g⟩) (hx : ev e x = some (.int k a))
  (h : XL P n ops dr (i :: done) r K ((d, .int k (k.wrap (0 - a))) :: e) w) (hd : Nat.blt d n = true := by exact rfl) (hg : Gd ops e g := by first | trivial | exact ⟨_, rfl, rfl⟩) : XL P n ops dr done (i :: r) K e w :=
 dA ho (by simpa [cy] using hd) hg (ρ := rh e) (by intro z hZ; simp [Op.operands] at hZ; exact BP hx hZ) rfl (v := .int k (k.wrap (0 - a))) (fun w' => by simp [execOp, bj hx, Op.unary, Op.intArith]) h
theorem By {k' : IntKind} {D : TypeDesc} (ho : ops[i]? = some ⟨some d, .convert s u x, t, p, af, g⟩) (hk : dk P (.convert s u x) = 0) (hs : P.underlying s = some D) (hu : P.underlying u = some (.int k')) (hx : ev e x = some (.int k a))
  (h : XL P n ops dr (i :: done) r K ((d, .int k' (k'.wrap a)) :: e) w) (hd : Nat.blt d n = true := by exact rfl) (hg : Gd ops e g := by first | trivial | exact ⟨_, rfl, rfl⟩) : XL P n ops dr done (i :: r) K e w :=
 dA ho (by simpa [cy] using hd) hg (ρ := rh e) (by intro z hZ; simp [Op.operands] at hZ; exact BP hx hZ) hk (v := .int k' (k'.wrap a))
  (fun w' => by simp [execOp, bj hx, convert, run_underlying hs, run_underlying hu, Conv.intToInt]) h
theorem Bx {q : Addr} (ho : ops[i]? = some ⟨some d, .nilCheck x, t, p, af, g⟩) (hx : ev e x = some (.pointer (some q)))
  (h : XL P n ops dr (i :: done) r K ((d, .pointer (some q)) :: e) w) (hd : Nat.blt d n = true := by exact rfl) (hg : Gd ops e g := by first | trivial | exact ⟨_, rfl, rfl⟩) : XL P n ops dr done (i :: r) K e w :=
 dA ho (by simpa [cy] using hd) hg (ρ := rh e) (by intro z hZ; simp [Op.operands] at hZ; exact BP hx hZ) rfl (v := .pointer (some q)) (fun w' => by simp [execOp, bj hx]) h
theorem aaT {j : Nat} {vs : Array Value} {v : Value} (ho : ops[i]? = some ⟨some d, .extract x j, t, p, af, g⟩) (hx : ev e x = some (.tuple vs)) (hv : vs.toList[j]? = some v)
  (h : XL P n ops dr (i :: done) r K ((d, v) :: e) w) (hd : Nat.blt d n = true := by exact rfl) (hg : Gd ops e g := by first | trivial | exact ⟨_, rfl, rfl⟩) : XL P n ops dr done (i :: r) K e w :=
 dA ho (by simpa [cy] using hd) hg (ρ := rh e) (by intro z hZ; simp [Op.operands] at hZ; exact BP hx hZ) rfl (v := v) (fun w' => by
  have WL : vs[j]? = some v := by simpa using hv
  simp [execOp, bj hx, Instr.extract, WL]) h
theorem gP {f : Fn} {c1 c2 : Array Operand} {v1 v2 : Array Value} (ho : ops[i]? = some ⟨some d, .makeFunc f c1 c2, t, p, af, g⟩) (hx : ∀ z ∈ c1 ++ c2, ∃ v, ev e z = some v)
  (h1 : c1.map (rh e) = v1) (h2 : c2.map (rh e) = v2) (h : XL P n ops dr (i :: done) r K ((d, .func f v1 v2) :: e) w) (hd : Nat.blt d n = true := by exact rfl) (hg : Gd ops e g := by first | trivial | exact ⟨_, rfl, rfl⟩) : XL P n ops dr done (i :: r) K e w :=
 dA ho (by simpa [cy] using hd) hg (ρ := rh e) (by intro z hz; obtain ⟨v, hv⟩ := hx z hz; exact JU hv) rfl (v := .func f v1 v2) (fun w' => by simp [execOp, Instr.makeFunc, h1, h2]) h
theorem qK {D : TypeDesc} {v : Value} (ho : ops[i]? = some ⟨some d, .makeInterface s x, t, p, af, g⟩) (hs : P.underlying s = some D) (hD : ∀ ms, D ≠ .interface ms) (hx : ev e x = some v)
  (h : XL P n ops dr (i :: done) r K ((d, .iface s v) :: e) w) (hd : Nat.blt d n = true := by exact rfl) (hg : Gd ops e g := by first | trivial | exact ⟨_, rfl, rfl⟩) : XL P n ops dr done (i :: r) K e w :=
 dA ho (by simpa [cy] using hd) hg (ρ := rh e) (by intro z hZ; simp [Op.operands] at hZ; exact BP hx hZ) rfl (v := .iface s v) (fun w' => by
  simp only [execOp, bj hx, Instr.makeInterface, Sem.run_bind, run_underlying hs, Result.andThen_ok];cases D <;> first | rfl | exact absurd rfl (hD _)) h
theorem fX {b o k : Nat} : (⟨b, o, none⟩ : Addr).add k = ⟨b, o + k, none⟩ := by unfold Addr.add; split <;> simp_all
def aH (P : Program) (s : TypeId) (f : Nat) : Option Nat :=
 match P.underlying s with
 | some (.struct fs) => match fs[f]? with
  | some fl => match P.info? fl.type with
   | some inf => if inf.size = 0 then none else some fl.offset
   | none => none
  | none => none
 | _ => none
theorem Lr {f b o k : Nat} (hf : aH P s f = some k) (w : World) : (Instr.fieldAt s (.pointer (some ⟨b, o, none⟩)) f).run P w = .ok (.pointer (some ⟨b, o + k, none⟩)) w := by
 unfold aH at hf;split at hf
 ·rename_i fs hs;split at hf
  ·rename_i fl Ej;split at hf
   ·rename_i inf acH;split at hf
    ·cases hf
    rename_i h0;cases hf;simp [Instr.fieldAt, run_underlying hs, Ej, Instr.sureAddr, fieldPlace, sizeOf, typeInfo, acH, h0, fX]
   cases hf
  cases hf
 cases hf
theorem cS {f b o k : Nat} (ho : ops[i]? = some ⟨some d, .fieldAddr s x f, t, p, af, g⟩) (hf : aH P s f = some k) (hx : ev e x = some (.pointer (some ⟨b, o, none⟩)))
  (h : XL P n ops dr (i :: done) r K ((d, .pointer (some ⟨b, o + k, none⟩)) :: e) w) (hd : Nat.blt d n = true := by exact rfl) (hg : Gd ops e g := by first | trivial | exact ⟨_, rfl, rfl⟩) : XL P n ops dr done (i :: r) K e w :=
 dA ho (by simpa [cy] using hd) hg (ρ := rh e) (by intro z hZ; simp [Op.operands] at hZ; exact BP hx hZ) rfl (v := .pointer (some ⟨b, o + k, none⟩)) (fun w' => by simp only [execOp, bj hx, Sem.run_bind, Lr hf]; rfl) h
theorem aaR {f b k : Nat} (ho : ops[i]? = some ⟨some d, .fieldAddr s x f, t, p, af, g⟩) (hf : aH P s f = some k) (hx : ev e x = some (pQ b))
  (h : XL P n ops dr (i :: done) r K ((d, .pointer (some ⟨b, k, none⟩)) :: e) w) (hd : Nat.blt d n = true := by exact rfl) (hg : Gd ops e g := by first | trivial | exact ⟨_, rfl, rfl⟩) : XL P n ops dr done (i :: r) K e w := cS (hd := hd) (hg := hg) ho hf hx (by rw [pY]; exact h)
theorem eY {c : TypeId} {b o len cap z : Nat} (ho : ops[i]? = some ⟨some d, .indexAddr s x y, t, p, af, g⟩) (hs : P.underlying s = some (.slice c)) (hz : (P.info? c).map (·.size) = some z)
  (hx : ev e x = some (.slice (some ⟨b, o, none⟩) len cap)) (hy : ev e y = some (.int k a)) (ha : 0 <= a /\ a < len)
  (h : XL P n ops dr (i :: done) r K ((d, .pointer (some ⟨b, o + a.toNat * z, none⟩)) :: e) w) (hd : Nat.blt d n = true := by exact rfl) (hg : Gd ops e g := by first | trivial | exact ⟨_, rfl, rfl⟩) : XL P n ops dr done (i :: r) K e w :=
 dA ho (by simpa [cy] using hd) hg (ρ := rh e) (by intro z hZ; simp [Op.operands] at hZ; exact CX hx hy hZ) rfl (v := .pointer (some ⟨b, o + a.toNat * z, none⟩)) (fun w' => by
  cases hi : P.info? c with
  | none => simp [hi] at hz
  | some inf =>
   have ed : inf.size = z := by simpa [hi] using hz
   simp [execOp, bj hx, bj hy, Instr.indexAt, asIntOf, run_underlying hs, ha.1, ha.2, sizeOf, typeInfo, hi, ed, fX]) h
theorem cR {c : TypeId} {b o len cap : Nat} (ho : ops[i]? = some ⟨some d, .indexAddr s x y, t, p, af, g⟩) (hs : P.underlying s = some (.slice c)) (hz : (P.info? c).map (·.size) = some 1)
  (hx : ev e x = some (.slice (some ⟨b, o, none⟩) len cap)) (hy : ev e y = some (.int k a)) (ha : 0 <= a /\ a < len)
  (h : XL P n ops dr (i :: done) r K ((d, .pointer (some ⟨b, o + a.toNat, none⟩)) :: e) w) (hd : Nat.blt d n = true := by exact rfl) (hg : Gd ops e g := by first | trivial | exact ⟨_, rfl, rfl⟩) : XL P n ops dr done (i :: r) K e w := eY (hd := hd) (hg := hg) ho hs hz hx hy ha (by rw [EV]; exact h)
theorem eJ {c : TypeId} {q : Option Addr} {len cap : Nat} (ho : ops[i]? = some ⟨some d, .call ⟨.builtin .len, #[x], #[s]⟩, t, p, af, g⟩) (hk : dk P (.call ⟨.builtin .len, #[x], #[s]⟩) = 0) (hs : P.underlying s = some (.slice c))
  (hx : ev e x = some (.slice q len cap)) (h : XL P n ops dr (i :: done) r K ((d, iQ len) :: e) w) (hd : Nat.blt d n = true := by exact rfl) (hg : Gd ops e g := by first | trivial | exact ⟨_, rfl, rfl⟩) : XL P n ops dr done (i :: r) K e w :=
 dA ho (by simpa [cy] using hd) hg (ρ := rh e) (by intro z hZ; simp [Op.operands, Call.operands] at hZ; exact BP hx hZ) hk (v := iQ len)
  (fun w' => by simp [execOp, resolve, invoke, builtin, bj hx, Builtin.len_, run_underlying hs, goInt]) h
theorem uZ {Hq : Array TypeId} (ho : ops[i]? = some ⟨some d, .call ⟨.builtin .min, #[x, y], Hq⟩, t, p, af, g⟩) (hx : ev e x = some (.int k a)) (hy : ev e y = some (.int k b))
  (h : XL P n ops dr (i :: done) r K ((d, .int k (min a b)) :: e) w) (hd : Nat.blt d n = true := by exact rfl) (hg : Gd ops e g := by first | trivial | exact ⟨_, rfl, rfl⟩) : XL P n ops dr done (i :: r) K e w :=
 dA ho (by simpa [cy] using hd) hg (ρ := rh e) (by intro z hZ; simp [Op.operands, Call.operands] at hZ; exact CX hx hy hZ) rfl (v := .int k (min a b))
  (fun w' => by simp [execOp, resolve, invoke, builtin, bj hx, bj hy, Builtin.min_, Builtin.min2]; split <;> omega) h
theorem JJ {Hq : Array TypeId} (ho : ops[i]? = some ⟨some d, .call ⟨.builtin .max, #[x, y], Hq⟩, t, p, af, g⟩) (hx : ev e x = some (.int k a)) (hy : ev e y = some (.int k b))
  (h : XL P n ops dr (i :: done) r K ((d, .int k (max a b)) :: e) w) (hd : Nat.blt d n = true := by exact rfl) (hg : Gd ops e g := by first | trivial | exact ⟨_, rfl, rfl⟩) : XL P n ops dr done (i :: r) K e w :=
 dA ho (by simpa [cy] using hd) hg (ρ := rh e) (by intro z hZ; simp [Op.operands, Call.operands] at hZ; exact CX hx hy hZ) rfl (v := .int k (max a b))
  (fun w' => by simp [execOp, resolve, invoke, builtin, bj hx, bj hy, Builtin.max_, Builtin.max2]; split <;> omega) h
theorem jk {k : IntKind} {v : Int} {y : Nat} {c : BoundsCode} (h0 : 0 <= v /\ v <= y) (w : World) : (Instr.sliceBound (.int k v) y c).run P w = .ok v.toNat w := by
 simp [Instr.sliceBound, asIntOf, h0.1, h0.2]
theorem aaV {c : TypeId} {b o len cap z : Nat} {lo hi : Int} {kl kh : IntKind} {l h' : Operand} (ho : ops[i]? = some ⟨some d, .slice s x (some l) (some h') none, t, p, af, g⟩) (hs : P.underlying s = some (.slice c)) (hz : (P.info? c).map (·.size) = some z)
  (hx : ev e x = some (.slice (some ⟨b, o, none⟩) len cap)) (hl : ev e l = some (.int kl lo)) (hh : ev e h' = some (.int kh hi)) (hb : 0 <= lo /\ lo <= hi /\ hi <= cap) (WX : lo < cap)
  (h : XL P n ops dr (i :: done) r K ((d, .slice (some ⟨b, o + lo.toNat * z, none⟩) (hi.toNat - lo.toNat) (cap - lo.toNat)) :: e) w) (hd : Nat.blt d n = true := by exact rfl) (hg : Gd ops e g := by first | trivial | exact ⟨_, rfl, rfl⟩) : XL P n ops dr done (i :: r) K e w :=
 dA ho (by simpa [cy] using hd) hg (ρ := rh e) (by intro z hZ; simp [Op.operands] at hZ; exact oh3 hx hl hh hZ) rfl
  (v := .slice (some ⟨b, o + lo.toNat * z, none⟩) (hi.toNat - lo.toNat) (cap - lo.toNat)) (fun w' => by
   cases tX : P.info? c with
   | none => simp [tX] at hz
   | some inf =>
    have ed : inf.size = z := by simpa [tX] using hz
    have h1 := jk (P := P) (k := kh) (v := hi) (y := cap) (c := .sliceAcap) ⟨oM, hb.2.2⟩ w';have h2 := jk (P := P) (k := kl) (v := lo) (y := hi.toNat) (c := .sliceB) ⟨hb.1, oM⟩ w';have qF : ¬ cap = lo.toNat := oM;simp [execOp, bj hx, bj hl, bj hh, Instr.sliceAt, Instr.slice, Instr.sliceBounds, run_underlying hs, h1, h2, sizeOf, typeInfo, tX, ed, qF, fX]) h
theorem u1 {c : TypeId} {q : Option Addr} {len cap : Nat} {hi : Int} {kh : IntKind} {h' : Operand} (ho : ops[i]? = some ⟨some d, .slice s x none (some h') none, t, p, af, g⟩) (hs : P.underlying s = some (.slice c)) (hz : ((P.info? c).map (·.size)).isSome = true)
  (hx : ev e x = some (.slice q len cap)) (hq : ∀ a, q = some a -> a.spot = none) (hh : ev e h' = some (.int kh hi)) (hb : 0 <= hi /\ hi <= cap)
  (h : XL P n ops dr (i :: done) r K ((d, .slice q hi.toNat cap) :: e) w) (hd : Nat.blt d n = true := by exact rfl) (hg : Gd ops e g := by first | trivial | exact ⟨_, rfl, rfl⟩) : XL P n ops dr done (i :: r) K e w :=
 dA ho (by simpa [cy] using hd) hg (ρ := rh e) (by intro z hZ; simp [Op.operands] at hZ; exact CX hx hh hZ) rfl
  (v := .slice q hi.toNat cap) (fun w' => by
   cases tX : P.info? c with
   | none => simp [tX] at hz
   | some inf =>
    have h1 := jk (P := P) (k := kh) (v := hi) (y := cap) (c := .sliceAcap) hb w';cases q with
    | none => simp [execOp, bj hx, bj hh, Instr.sliceAt, Instr.slice, Instr.sliceBounds, run_underlying hs, h1, sizeOf, typeInfo, tX]
    | some a => simp [execOp, bj hx, bj hh, Instr.sliceAt, Instr.slice, Instr.sliceBounds, run_underlying hs, h1, sizeOf, typeInfo, tX, Addr.add]) h
theorem S2 {c : TypeId} {b o len cap z : Nat} {lo : Int} {kl : IntKind} {l : Operand} (ho : ops[i]? = some ⟨some d, .slice s x (some l) none none, t, p, af, g⟩) (hs : P.underlying s = some (.slice c)) (hz : (P.info? c).map (·.size) = some z)
  (hx : ev e x = some (.slice (some ⟨b, o, none⟩) len cap)) (hl : ev e l = some (.int kl lo)) (hb : 0 <= lo /\ lo <= len) (WX : lo < cap)
  (h : XL P n ops dr (i :: done) r K ((d, .slice (some ⟨b, o + lo.toNat * z, none⟩) (len - lo.toNat) (cap - lo.toNat)) :: e) w) (hd : Nat.blt d n = true := by exact rfl) (hg : Gd ops e g := by first | trivial | exact ⟨_, rfl, rfl⟩) : XL P n ops dr done (i :: r) K e w :=
 dA ho (by simpa [cy] using hd) hg (ρ := rh e) (by intro z hZ; simp [Op.operands] at hZ; exact CX hx hl hZ) rfl
  (v := .slice (some ⟨b, o + lo.toNat * z, none⟩) (len - lo.toNat) (cap - lo.toNat)) (fun w' => by
   cases tX : P.info? c with
   | none => simp [tX] at hz
   | some inf =>
    have ed : inf.size = z := by simpa [tX] using hz
    have h2 := jk (P := P) (k := kl) (v := lo) (y := len) (c := .sliceB) hb w';have qF : ¬ cap = lo.toNat := oM;simp [execOp, bj hx, bj hl, Instr.sliceAt, Instr.slice, Instr.sliceBounds, run_underlying hs, h2, sizeOf, typeInfo, tX, ed, qF, fX]) h
theorem NF {c : TypeId} {q : Addr} {m : Nat} (ho : ops[i]? = some ⟨some d, .slice s x none none none, t, p, af, g⟩) (hs : P.underlying s = some (.array m c)) (hz : ((P.info? c).map (·.size)).isSome = true) (hm : m ≠ 0)
  (hx : ev e x = some (.pointer (some q))) (hq : q.spot = none)
  (h : XL P n ops dr (i :: done) r K ((d, .slice (some q) m m) :: e) w) (hd : Nat.blt d n = true := by exact rfl) (hg : Gd ops e g := by first | trivial | exact ⟨_, rfl, rfl⟩) : XL P n ops dr done (i :: r) K e w :=
 dA ho (by simpa [cy] using hd) hg (ρ := rh e) (by intro z hZ; simp [Op.operands] at hZ; exact BP hx hZ) rfl (v := .slice (some q) m m) (fun w' => by
   cases tX : P.info? c with
   | none => simp [tX] at hz
   | some inf => simp [execOp, bj hx, Instr.sliceAt, Instr.sliceBounds, Instr.sureAddr, run_underlying hs, sizeOf, typeInfo, tX, hm, Addr.add]) h
theorem aO {ps : Array (Nat × Operand)} {vs : List Value} {v : Value} (ho : ops[i]? = some ⟨some d, .build s ps, t, p, af, g⟩) (hx : OP e (ps.toList.map (·.2)) = some vs)
  (hr : ∀ w', (Instr.build s ((ps.toList.map (·.1)).zip vs).toArray).run P w' = .ok v w')
  (h : XL P n ops dr (i :: done) r K ((d, v) :: e) w) (hd : Nat.blt d n = true := by exact rfl) (hg : Gd ops e g := by first | trivial | exact ⟨_, rfl, rfl⟩) : XL P n ops dr done (i :: r) K e w := by
 obtain ⟨hk, hm⟩ := qU hx;refine dA ho (by simpa [cy] using hd) hg (ρ := rh e) (by intro z hz; exact hk z (by simpa [Op.operands] using hz)) rfl (v := v) (fun w' => ?_) h;have e1 : (ps.map fun (j, z) => (j, rh e z)) = ((ps.toList.map (·.1)).zip vs).toArray := by
  apply Array.ext';rw [<-hm];simp only [Array.toList_map]
  generalize ps.toList = q
  induction q with
  | nil => rfl
  | cons x q ih => obtain ⟨a, b⟩ := x; simp only [cH, List.zip_cons_cons, ih]
 simp only [execOp, e1, Sem.run_bind, hr]; rfl
end
def ah (b : Nat) (l : List Value) (T : TypeId) : aw := pt b (.cells l.toArray T (0, 0))
def Rd (w : World) (a : Addr) (cs : List Value) : Prop := ∀ j u, cs[j]? = some u -> w.cell? (a.add j) = some u
def KN (P : Program) (t : TypeId) : Bool := match P.underlying t with | some (.struct _) | some (.array _ _) => true | _ => false
def iG (P : Program) (t : TypeId) : Bool := (P.underlying t).isSome && !KN P t && (P.info? t).any (·.size == 1)
def g6 (P : Program) (t : TypeId) (z : Nat) : Bool := KN P t && (P.info? t).any (·.size == z)
def bD (P : Program) (t : TypeId) : Option (Array Value) := (P.info? t).bind fun i => i.zero.map Value.cells
def rep (n : Nat) (v : Value) : List Value := List.replicate n v
@[simp] theorem iA (n : Nat) (v : Value) : (rep n v).length = n := JZ ..
section
variable {P : Program} {w : World} {t : TypeId} {a : Addr} {v : Value} {g : Gh} {L R : List aw} {b o : Nat} {l : List Value} {T : TypeId}
theorem BF {x : Bool} (h : KN P t = x) (hs : (P.underlying t).isSome = true) (w : World) : (isAgg t).run P w = .ok x w := by
 cases hu : P.underlying t with
 | none => rw [hu] at hs; cases hs
 | some d =>
  unfold KN at h; rw [hu] at h
  unfold isAgg;rw [Sem.run_bind, run_underlying hu w];cases d <;> simp_all
theorem IV (h : iG P t = true) : (P.underlying t).isSome = true /\ KN P t = false /\ ∃ i, P.info? t = some i /\ i.size = 1 := by
 simp only [iG, rR, Bool.not_eq_true', Option.any_eq_true] at h;obtain ⟨⟨h1, h2⟩, i, hi, h3⟩ := h;exact ⟨h1, h2, i, hi, by simpa using h3⟩
theorem Fg {z : Nat} (h : g6 P t z = true) : (P.underlying t).isSome = true /\ KN P t = true /\ ∃ i, P.info? t = some i /\ i.size = z := by
 simp only [g6, rR, Option.any_eq_true] at h;obtain ⟨h1, i, hi, h3⟩ := h;refine ⟨?_, h1, i, hi, by simpa using h3⟩;unfold KN at h1
 cases hu : P.underlying t with
 | none => rw [hu] at h1; cases h1
 | some d => rfl
theorem wv (h : an g L w) (p : cG (ah b l T) L R) : w.cell? ⟨b, o, none⟩ = l[o]? := by
 rw [cell_of_row w b o _ _ _ (h.pt p)]; simp
theorem Rd.vw (h : an g L w) (p : cG (ah b l T) L R) : Rd w ⟨b, o, none⟩ (l.drop o) := fun j u hu => by
 rw [fX, wv h p]; simpa [N3] using hu
theorem Rd.take {cs : List Value} (h : Rd w a cs) (m : Nat) : Rd w a (cs.take m) := fun j u hu => by
 rw [Tt] at hu;split at hu
 ·exact h j u hu
 cases hu
theorem Rd.drop {cs : List Value} {b o : Nat} (h : Rd w ⟨b, o, none⟩ cs) (m : Nat) : Rd w ⟨b, o + m, none⟩ (cs.drop m) := fun j u hu => by
 rw [fX, Nat.add_assoc, <-fX]; exact h (m + j) u (by simpa [N3] using hu)
theorem Rd.nil {a : Addr} : Rd w a [] := fun j u hu => by simp at hu
theorem ar.one (h : iG P t = true) (hc : w.cell? a = some v) : ar P w t a v := by
 obtain ⟨h1, h2, _⟩ := IV h;unfold ar loadVar;rw [Sem.run_bind, BF h2 h1];simp [load, Sem.run, hc]
theorem ar.many {z : Nat} {cs : List Value} (h : g6 P t z = true) (hz : cs.length = z) (hr : Rd w a cs) : ar P w t a (gQ cs) := by
 obtain ⟨h1, h2, i, hi, hs⟩ := Fg h;unfold ar loadVar;rw [Sem.run_bind, BF h2 h1];have hl := run_loadCells_list (P := P) w a cs hr;simp [sizeOf, typeInfo, hi, hs, <-hz, hl]
theorem ar.bL (h : iG P t = true) (hw : an g L w) (p : cG (ah b l T) L R) (hv : l[o]? = some v) : ar P w t ⟨b, o, none⟩ v := ar.one h (by rw [wv hw p]; exact hv)
theorem ar.tL {z : Nat} {cs : List Value} (h : g6 P t z = true) (hw : an g L w) (p : cG (ah b l T) L R) (hv : (l.drop o).take z = cs) (hz : cs.length = z) : ar P w t ⟨b, o, none⟩ (gQ cs) :=
 ar.many h hz (by rw [<-hv]; exact (Rd.vw hw p).take z)
theorem ar.cU {z : Nat} (h : g6 P t z = true) (hw : an g L w) (p : cG (ah b l T) L R) (hz : l.length = z) : ar P w t ⟨b, 0, none⟩ (gQ l) :=
 ar.many h hz (by have := Rd.vw (o := 0) hw p; simpa using this)
def iR (cs : List Value) : Prop := ∀ u ∈ cs, u.oneCell' = true
theorem Q5 (h : w.heap[b]? = some (.cells l.toArray T (0, 0))) (c : Array Value) : w.setRow b c = { w with heap := w.heap.setIfInBounds b (.cells c T (0, 0)) } := by
 have iy := (sY.1 h).1;have rZ : w.heap[b] = .cells l.toArray T (0, 0) := by simpa [N8 iy] using h
 unfold World.setRow
 congr 1
 apply Array.ext
 ·simp
 intro i h1 h2
 by_cases e : b = i
 ·subst e; simp [Array.getElem_modify, rZ]
 rw [Array.getElem_modify, aj e, Array.getElem_setIfInBounds, aj e]
theorem an.EK (h : an g L w) (p : cG (ah b l T) L R) (l' : List Value) : an g (ah b l' T :: R) (w.setRow b l'.toArray) := by
 have h1 := h.pick p;rw [Q5 h1.cW];exact h1.set _
theorem Ab (h : an g L w) (p : cG (ah b l T) L R) {cs : List Value} (h1 : iR cs) (hl : o + cs.length <= l.length) :
  (storeCells ⟨b, o, none⟩ cs).run P w = .ok () (w.setRow b (l.take o ++ cs ++ l.drop (o + cs.length)).toArray) := by
 have := run_storeCells_at P b o T cs 0 l.toArray w (h.pt p) (by simpa using hl) h1
 simpa using this
end
section
variable {P : Program} {n : Nat} {ops : Array Oper} {dr : Bool} {done r : List Nat} {K : fm -> World -> Prop} {e : fm} {w : World} {i d : Nat} {t : TypeId} {p : String} {af : Array Edge} {g : Option (Nat × Bool)}
variable {G : Gh} {L R : List aw} {s T : TypeId} {x y : Operand} {b o : Nat} {l : List Value} {v : Value}
theorem fb {dst : Option Tmp} {v : Value} {w' : World} (hp : gU P ops dr done i = []) : ∀ q ∈ gU P ops dr done i, uR P n ops q (qB e dst v) w' := fun q hq => by rw [hp] at hq; cases hq
theorem bm {q : Nat} {l : List Nat} (h : gU P ops dr done i = l) (hq : q ∈ gU P ops dr done i) : q ∈ l := h ▸ hq
theorem bx {q d : Nat} {a : Addr} {gq : Option (Nat × Bool)} {pq : String} {aq : Array Edge} {tq : TypeId} (ho : ops[q]? = some ⟨some d, .load s x, tq, pq, aq, gq⟩) (hx : ev e x = some (.pointer (some a))) (hv : get e d = some v) (hl : ar P w s a v) :
  uR P n ops q e w := by
 intro o' RS a' ha PQ;have : o' = ⟨some d, .load s x, tq, pq, aq, gq⟩ := Option.some.inj (RS.symm.trans ho);subst this;refine ⟨v, ?_, fun d' zK => ?_⟩
 ·have PN := ha.ev hx;unfold ar at hl;simp only [execOp, PN, Instr.loadAt, Instr.sureAddr, Sem.run_bind, Sem.run_pure, Result.andThen_ok, hl]
 cases zK; exact ha.get d v hv
theorem Xn {q j dj : Nat} {want b : Bool} {oq : Oper} (ho : ops[q]? = some oq) (hg : oq.guard = some (j, want)) (hj : (ops[j]?).bind (·.dst) = some dj) (hv : get e dj = some (.bool b)) (hb : b = !want) : uR P n ops q e w := by
 intro o' RS a' ha PQ;have : o' = oq := Option.some.inj (RS.symm.trans ho);subst this;simp [Region.wanted, hg, yL ha hj hv, hb] at PQ
theorem bt {a : Addr} (ho : ops[i]? = some ⟨some d, .load s x, t, p, af, g⟩) (hx : ev e x = some (.pointer (some a))) (hl : ar P w s a v)
  (h : XL P n ops dr (i :: done) r K ((d, v) :: e) w) (hd : Nat.blt d n = true := by exact rfl) (hg : Gd ops e g := by first | trivial | exact ⟨_, rfl, rfl⟩) : XL P n ops dr done (i :: r) K e w :=
 wV ho (by simpa [cy] using hd) hg (ρ := rh e) (by intro z hZ; simp [Op.operands] at hZ; exact BP hx hZ) rfl (v := v)
  (by unfold ar at hl; simp only [execOp, bj hx, Instr.loadAt, Instr.sureAddr, Sem.run_bind, Sem.run_pure, Result.andThen_ok, hl]) h
theorem sN {l' : List Value} (ho : ops[i]? = some ⟨none, .store s x y, t, p, af, g⟩) (hg : Gd ops e g) (hx : ev e x = some (.pointer (some ⟨b, o, none⟩))) (hy : ev e y = some v) (h1 : iG P s = true) (hv : v.oneCell' = true)
  (hw : an G L w) (hp : cG (ah b l T) L R) (mF : Nat.blt o l.length = true) (Ke : l.set o v = l')
  (i' : ∀ w', an G (ah b l' T :: R) w' -> ∀ q ∈ gU P ops dr done i, uR P n ops q e w')
  (h : ∀ w', an G (ah b l' T :: R) w' -> XL P n ops dr (i :: done) r K e w') : XL P n ops dr done (i :: r) K e w := by
 subst Ke;have acv : o < l.length := by simpa using mF
 have hs : an G (ah b (l.set o v) T :: R) (w.setRow b (l.set o v).toArray) := hw.EK hp _;refine zT ho rfl hg (ρ := rh e) (by intro z hZ; simp [Op.operands] at hZ; exact CX hx hy hZ) rfl (w' := w.setRow b (l.set o v).toArray) ?_ (i' _ hs) (h _ hs);obtain ⟨_, _, inf, hi, ed⟩ := IV h1;have iT : v.cells = #[v] := by cases v <;> first | rfl | (simp [Value.oneCell'] at hv)
 have jB := Ab (P := P) (o := o) (cs := [v]) hw hp (fun u hu => by simp at hu; subst hu; exact hv) (by simp; omega);have Ow : l.take o ++ [v] ++ l.drop (o + [v].length) = l.set o v := by
  rw [List.set_eq_take_append_cons_drop, ao acv]; simp
 rw [Ow] at jB;simp only [execOp, bj hx, bj hy, Instr.storeAt, Instr.sureAddr, storeVar, Sem.run_bind, Sem.run_pure, Result.andThen_ok, sizeOf, typeInfo, program, hi, Sem.run, iT, ed];simp [jB]
theorem bu {l' : List Value} (ho : ops[i]? = some ⟨none, .store s x y, t, p, af, g⟩) (hg : Gd ops e g) (hx : ev e x = some (.pointer (some ⟨b, o, none⟩))) (hy : ev e y = some v) (h1 : iG P s = true) (hv : v.oneCell' = true)
  (hw : an G L w) (hp : cG (ah b l T) L R) (mF : Nat.blt o l.length = true) (Ke : l.set o v = l') (i' : gU P ops dr done i = [])
  (h : ∀ w', an G (ah b l' T :: R) w' -> XL P n ops dr (i :: done) r K e w') : XL P n ops dr done (i :: r) K e w :=
 sN ho hg hx hy h1 hv hw hp mF Ke (fun w' _ => fb (dst := none) (v := undef) i') h
theorem yM {z : Nat} {cs l' : List Value} (ho : ops[i]? = some ⟨none, .store s x y, t, p, af, g⟩) (hg : Gd ops e g) (hx : ev e x = some (.pointer (some ⟨b, o, none⟩))) (hy : ev e y = some (gQ cs)) (h1 : g6 P s z = true) (hz : cs.length = z) (hv : iR cs)
  (hw : an G L w) (hp : cG (ah b l T) L R) (mF : o + z <= l.length) (Ke : l.take o ++ cs ++ l.drop (o + z) = l') (i' : ∀ w', an G (ah b l' T :: R) w' -> ∀ q ∈ gU P ops dr done i, uR P n ops q e w')
  (h : ∀ w', an G (ah b l' T :: R) w' -> XL P n ops dr (i :: done) r K e w') : XL P n ops dr done (i :: r) K e w := by
 subst Ke;refine zT ho rfl hg (ρ := rh e) (by intro z hZ; simp [Op.operands] at hZ; exact CX hx hy hZ) rfl (w' := w.setRow b (l.take o ++ cs ++ l.drop (o + z)).toArray) ?_ (i' _ (hw.EK hp _)) (h _ (hw.EK hp _));obtain ⟨_, _, inf, hi, ed⟩ := Fg h1;have jB := Ab (P := P) (o := o) (cs := cs) hw hp hv oM;rw [hz] at jB;simp only [execOp, bj hx, bj hy, Instr.storeAt, Instr.sureAddr, storeVar, Sem.run_bind, Sem.run_pure, Result.andThen_ok, sizeOf, typeInfo, program, hi, Sem.run, Value.cells, ed];simp [hz, jB]
theorem aT {z : Nat} {cs l' : List Value} (ho : ops[i]? = some ⟨none, .store s x y, t, p, af, g⟩) (hg : Gd ops e g) (hx : ev e x = some (.pointer (some ⟨b, o, none⟩))) (hy : ev e y = some (gQ cs)) (h1 : g6 P s z = true) (hz : cs.length = z) (hv : iR cs)
  (hw : an G L w) (hp : cG (ah b l T) L R) (mF : o + z <= l.length) (Ke : l.take o ++ cs ++ l.drop (o + z) = l') (i' : gU P ops dr done i = [])
  (h : ∀ w', an G (ah b l' T :: R) w' -> XL P n ops dr (i :: done) r K e w') : XL P n ops dr done (i :: r) K e w :=
 yM ho hg hx hy h1 hz hv hw hp mF Ke (fun w' _ => fb (dst := none) (v := undef) i') h
theorem pT {c : List Value} (ho : ops[i]? = some ⟨some d, .alloc s, t, p, af, g⟩) (hz : bD P s = some c.toArray) (hw : an G L w) (i' : ∀ w' b, an G (ah b c s :: L) w' -> ∀ q ∈ gU P ops dr done i, uR P n ops q ((d, pQ b) :: e) w')
  (h : ∀ w' b, an G (ah b c s :: L) w' -> XL P n ops dr (i :: done) r K ((d, pQ b) :: e) w') (hd : Nat.blt d n = true := by exact rfl) (hg : Gd ops e g := by first | trivial | exact ⟨_, rfl, rfl⟩) : XL P n ops dr done (i :: r) K e w := by
 refine fU ho (by simpa [cy] using hd) hg (ρ := rh e) (by intro z hZ; simp [Op.operands] at hZ) rfl (v := .pointer (some ⟨w.heap.size, 0, none⟩)) (w' := { w with heap := w.heap.push (.cells c.toArray s (0, 0)) }) ?_ (i' _ _ (hw.push _)) (h _ _ (hw.push _));unfold bD at hz;cases hi : P.info? s with
 | none => simp [hi] at hz
 | some inf =>
  cases qw : inf.zero with
  | none => simp [hi, qw] at hz
  | some z =>
   have hc : z.cells = c.toArray := by simpa [hi, qw] using hz
   simp [execOp, Instr.alloc, zeroValue, typeInfo, hi, qw, newVar, newRow, hc]
theorem aF {c : List Value} (ho : ops[i]? = some ⟨some d, .alloc s, t, p, af, g⟩) (hz : bD P s = some c.toArray) (hw : an G L w) (i' : gU P ops dr done i = [])
  (h : ∀ w' b, an G (ah b c s :: L) w' -> XL P n ops dr (i :: done) r K ((d, pQ b) :: e) w') (hd : Nat.blt d n = true := by exact rfl) (hg : Gd ops e g := by first | trivial | exact ⟨_, rfl, rfl⟩) : XL P n ops dr done (i :: r) K e w :=
 pT (hd := hd) (hg := hg) ho hz hw (fun w' b _ => fb (dst := some d) i') h
theorem a9 {c : List Value} (ho : ops[i]? = some ⟨some d, .box s x, t, p, af, g⟩) (hx : ev e x = some v) (hc : v.cells = c.toArray) (hw : an G L w) (i' : gU P ops dr done i = [])
  (h : ∀ w' b, an G (ah b c s :: L) w' -> XL P n ops dr (i :: done) r K ((d, pQ b) :: e) w') (hd : Nat.blt d n = true := by exact rfl) (hg : Gd ops e g := by first | trivial | exact ⟨_, rfl, rfl⟩) : XL P n ops dr done (i :: r) K e w := by
 refine fU ho (by simpa [cy] using hd) hg (ρ := rh e) (by intro z hZ; simp [Op.operands] at hZ; exact BP hx hZ) rfl (v := .pointer (some ⟨w.heap.size, 0, none⟩)) (w' := { w with heap := w.heap.push (.cells c.toArray s (0, 0)) }) ?_ (fb i') (h _ _ (hw.push _));simp [execOp, bj hx, Instr.box, newVar, newRow, hc]
theorem UQ {z : Nat} {cs c : Array Value} {v : Value} (hv : v.cells = cs) (h1 : cs.size = z) (h2 : c.size = z) : Instr.fill (fun i => some (i * z, z)) c [(0, v)] = some cs := by
 simp only [Instr.fill, Nat.zero_mul, hv, h1, h2, pY];simp;apply Array.ext';have key : ∀ (l : List Value) (k : Nat) (c : Array Value), k + l.length = c.size →
   ((l.zipIdx k).foldl (fun (cs : Array Value) (x : Value × Nat) => cs.setIfInBounds x.2 x.1) c).toList = c.toList.take k ++ l := by
  intro l
  induction l with
  | nil => intro k c hk; simp at hk ⊢; rw [oF (by simp [hk])]
  | cons u l ih =>
   intro k c hk;simp only [List.zipIdx_cons, Rc];rw [ih (k + 1) _ (by simp at hk ⊢; omega)];simp at hk;rw [List.take_succ_eq_append_getElem (by simp; omega)];simp [List.take_set_of_le (g8 k)]
 have := key cs.toList 0 c (by simp [h1, h2]);have e : Array.foldl (fun (cs : Array Value) (x : Value × Nat) => cs.setIfInBounds x.2 x.1) c cs.zipIdx 0 cs.size = List.foldl (fun (cs : Array Value) (x : Value × Nat) => cs.setIfInBounds x.2 x.1) c cs.toList.zipIdx := by
  rw [<-Array.toList_zipIdx, Array.foldl_toList]; simp
 rw [e]; simpa using this
theorem yN {c : TypeId} {z : Nat} {cs : List Value} (ho : ops[i]? = some ⟨some d, .buildSlice s 1 #[(0, x)], t, p, af, g⟩) (hs : P.underlying s = some (.slice c)) (uS : (P.info? c).map (·.size) = some z) (yj : (bD P c).map (·.size) = some z) (hz : 0 < z /\ z <= 16777216)
  (hx : ev e x = some v) (hc : v.cells = cs.toArray) (hl : cs.length = z) (hw : an G L w)
  (i' : ∀ w' b, an G (ah b cs c :: L) w' -> ∀ q ∈ gU P ops dr done i, uR P n ops q ((d, sQ b 1 1) :: e) w')
  (h : ∀ w' b, an G (ah b cs c :: L) w' -> XL P n ops dr (i :: done) r K ((d, sQ b 1 1) :: e) w') (hd : Nat.blt d n = true := by exact rfl) (hg : Gd ops e g := by first | trivial | exact ⟨_, rfl, rfl⟩) : XL P n ops dr done (i :: r) K e w := by
 refine fU ho (by simpa [cy] using hd) hg (ρ := rh e) (by intro z hZ; simp [Op.operands] at hZ; exact BP hx hZ) rfl (v := .slice (some ⟨w.heap.size, 0, none⟩) 1 1) (w' := { w with heap := w.heap.push (.cells cs.toArray c (0, 0)) }) ?_ (i' _ _ (hw.push _)) (h _ _ (hw.push _));cases hi : P.info? c with
 | none => simp [hi] at uS
 | some inf =>
  have ed : inf.size = z := by simpa [hi] using uS
  cases qw : inf.zero with
  | none => simp [bD, hi, qw] at yj
  | some zv =>
   have Ou : zv.cells.size = z := by simpa [bD, hi, qw] using yj
   have hf := UQ (z := z) (cs := cs.toArray) (c := (Array.range z).map (zv.cells[· % z]!)) hc (by simpa using hl) sM;have hnz : z ≠ 0 := oM;have hle : ¬ 16777216 < z := oM;simp [execOp, Instr.buildSlice, run_underlying hs, sizeOf, typeInfo, hi, ed, zeroValue, qw, hnz, hle, Ou, bj hx, hf, newRow]
theorem fG {c : TypeId} {z : Nat} {cs : List Value} (ho : ops[i]? = some ⟨some d, .buildSlice s 1 #[(0, x)], t, p, af, g⟩) (hs : P.underlying s = some (.slice c)) (uS : (P.info? c).map (·.size) = some z) (yj : (bD P c).map (·.size) = some z) (hz : 0 < z /\ z <= 16777216)
  (hx : ev e x = some v) (hc : v.cells = cs.toArray) (hl : cs.length = z) (hw : an G L w) (i' : gU P ops dr done i = [])
  (h : ∀ w' b, an G (ah b cs c :: L) w' -> XL P n ops dr (i :: done) r K ((d, sQ b 1 1) :: e) w') (hd : Nat.blt d n = true := by exact rfl) (hg : Gd ops e g := by first | trivial | exact ⟨_, rfl, rfl⟩) : XL P n ops dr done (i :: r) K e w :=
 yN (hd := hd) (hg := hg) ho hs uS yj hz hx hc hl hw (fun w' b _ => fb (dst := some d) i') h
theorem CN {c : TypeId} {z : Value} {a m : Int} {k k' : IntKind} {bytes : Nat} (ho : ops[i]? = some ⟨some d, .makeSlice s x y, t, p, af, g⟩) (hs : P.underlying s = some (.slice c)) (uS : (P.info? c).map (·.size) = some 1) (P3 : (P.info? c).map (·.bytes) = some bytes)
  (yj : bD P c = some #[z]) (hx : ev e x = some (.int k a)) (hy : ev e y = some (.int k' m)) (hb : 0 <= a /\ a <= m) (hm : (bytes : Int) * m <= 281474976710656) (P5 : m <= 9223372036854775807) (hw : an G L w) (i' : gU P ops dr done i = [])
  (h : ∀ w' b, an G (ah b (rep m.toNat z) c :: L) w' -> XL P n ops dr (i :: done) r K ((d, sQ b a.toNat m.toNat) :: e) w') (hd : Nat.blt d n = true := by exact rfl) (hg : Gd ops e g := by first | trivial | exact ⟨_, rfl, rfl⟩) : XL P n ops dr done (i :: r) K e w := by
 refine fU ho (by simpa [cy] using hd) hg (ρ := rh e) (by intro z hZ; simp [Op.operands] at hZ; exact CX hx hy hZ) rfl (v := .slice (some ⟨w.heap.size, 0, none⟩) a.toNat m.toNat) (w' := { w with heap := w.heap.push (.cells (rep m.toNat z).toArray c (0, 0)) }) ?_ (fb i') (h _ _ (hw.push _));cases hi : P.info? c with
 | none => simp [hi] at uS
 | some inf =>
  have ed : inf.size = 1 := by simpa [hi] using uS
  have R0 : inf.bytes = bytes := by simpa [hi] using P3
  cases qw : inf.zero with
  | none => simp [bD, hi, qw] at yj
  | some zv =>
   have Ou : zv.cells = #[z] := by simpa [bD, hi, qw] using yj
   have hr := run_make (P := P) w s c inf zv hs hi qw k k' a m hb.1 hb.2 (by rw [R0]; exact hm) P5;have hmc : madeCells zv.cells (m.toNat * inf.size) = (rep m.toNat z).toArray := by
    rw [Ou, ed, EV]; unfold madeCells;apply Array.ext';simp [Nat.mod_one, List.map_const', rep]
   rw [hmc] at hr;simp only [execOp, bj hx, bj hy, Sem.run_bind, hr];rfl
def row (T : TypeId) (z : Nat) (v : Value) (m : Nat) (xs : List Value) : aw := fun h => xs.length = m * z ∧
 ((v = nQ /\ m = 0) \/ ∃ b cap cur, v = sQ b m cap /\ h b = some (.cells (xs ++ cur).toArray T (0, 0)) /\ m <= cap /\ cap <= maxLen /\ (xs ++ cur).length = cap * z)
theorem bI (hw : an G L w) (T : TypeId) (z : Nat) : an G (row T z (nQ) 0 [] :: L) w := by
 obtain ⟨hg, h, hh, hL⟩ := hw;refine ⟨hg, h, hh, fun _ => none, h, fun b => .inl rfl, fun b o hb => ?_, ⟨by simp, .inl ⟨rfl, rfl⟩⟩, hL⟩;rcases dW hb with h | h
 ·cases h
 exact h
theorem oE {xs cur : List Value} {z m cap : Nat} (hw : an G (ah b (xs ++ cur) T :: L) w) (h1 : xs.length = m * z) (h2 : m <= cap) (h3 : cap <= maxLen) (h4 : (xs ++ cur).length = cap * z) : an G (row T z (sQ b m cap) m xs :: L) w :=
 hw.eV fun h hh => ⟨h1, .inr ⟨b, cap, cur, rfl, hh, h2, h3, h4⟩⟩
theorem gS {xs : List Value} {z m : Nat} (hw : an G (ah b xs T :: L) w) (h1 : xs.length = m * z) (h3 : m <= maxLen) : an G (row T z (sQ b m m) m xs :: L) w :=
 oE (cur := []) (by rw [pz]; exact hw) h1 (g8 _) h3 (by rw [pz]; exact h1)
theorem lX {z m : Nat} {xs : List Value} (hw : an G (row T z v m xs :: L) w) : xs.length = m * z ∧
  ((v = nQ /\ m = 0 /\ xs = [] /\ an G L w) \/ ∃ b cap cur, v = sQ b m cap /\ m <= cap /\ cap <= maxLen /\ (xs ++ cur).length = cap * z /\ an G (ah b (xs ++ cur) T :: L) w) := by
 have nL := hw;obtain ⟨hg, h, hh, h1, h2, hd, hu, ⟨hx, hA⟩, hL⟩ := hw;refine ⟨hx, ?_⟩;rcases hA with ⟨rfl, rfl⟩ | ⟨b, cap, cur, rfl, hb, h3, h4, h5⟩
 ·exact .inl ⟨rfl, rfl, Ae (by simpa using hx), nL.tail⟩
 exact .inr ⟨b, cap, cur, rfl, h3, h4, h5, hg, h, hh, h1, h2, hd, hu, hb, hL⟩
theorem aP {z m : Nat} {xs : List Value} (hw : an G (row T z v m xs :: L) w) : ∃ a cap, v = .slice a m cap := by
 obtain ⟨_, h | ⟨b, cap, cur, h, _⟩⟩ := lX hw
 ·obtain ⟨rfl, rfl, _⟩ := h; exact ⟨none, 0, rfl⟩
 exact ⟨_, cap, h⟩
theorem Pw {c : TypeId} {z bytes m k : Nat} {xs news : List Value} {zv : Value} {inf : TypeInfo} {ty : TypeId} {ax : Addr} {cx : Nat} (hs : P.underlying s = some (.slice c)) (hi : P.info? c = some inf) (qw : inf.zero = some zv) (ed : inf.size = z) (R0 : inf.bytes = bytes) (Ou : zv.cells.size = z)
  (hw : an G (row c z v m xs :: R) w) (hr : Rd w ax news) (hl : news.length = k * z) (h1 : iR news) (P5 : m + k <= maxLen) (P3 : (m + k) * bytes <= 140737488355328) :
  ∃ v' w', (Builtin.append_ #[s, s] ty #[v, .slice (some ax) k cx]).run P w = .ok v' w' /\ an G (row c z v' (m + k) (xs ++ news) :: R) w' := by
 subst ed;have ZV : m + k <= 9223372036854775807 := by simp only [maxLen] at P5; omega
 obtain ⟨xx, FA⟩ := lX hw;have hlen : (xs ++ news).length = (m + k) * inf.size := by rw [de, xx, hl, BK]
 have grown : ∀ (pI : Nat), an G R w -> an G (row c inf.size (.slice (some ⟨w.heap.size, 0, none⟩) (m + k) (grownCap w (m + k) pI c)) (m + k) (xs ++ news) :: R)
   (w.drew.alloc (.cells (xs.toArray ++ news.toArray ++ Builtin.zeroCells zv.cells (grownCap w (m + k) pI c - (m + k))) c)) := fun pI hR => by
  have hge := grownCap_ge w (m + k) pI c;have Nx : grownCap w (m + k) pI c <= maxLen := grownCap_le_maxLen w (m + k) pI c P5;have h2 := (hR.drawn (w.drawn + 1)).push (.cells (xs.toArray ++ news.toArray ++ Builtin.zeroCells zv.cells (grownCap w (m + k) pI c - (m + k))) c (0, 0));have e : xs.toArray ++ news.toArray ++ Builtin.zeroCells zv.cells (grownCap w (m + k) pI c - (m + k)) = ((xs ++ news) ++ (Builtin.zeroCells zv.cells (grownCap w (m + k) pI c - (m + k))).toList).toArray := by
   apply Array.ext'; simp
  rw [e] at h2 ⊢;refine oE h2 hlen hge Nx ?_;rw [de, hlen, Array.length_toList, size_zeroCells, Ou, <-BK]
  congr 1; omega
 rcases FA with ⟨rfl, rfl, rfl, hR⟩ | ⟨b, cap, cur, rfl, hmc, Nx, gN, hB⟩
 ·by_cases hk : k = 0
  ·subst hk;have hn : news = [] := Ae (by simpa using hl);subst hn;refine ⟨nQ, w, ?_, by simpa using bI hR c inf.size⟩;simp [Builtin.append_, run_underlying hs, sizeOf, typeInfo, hi, Builtin.lenOf, Builtin.firstCells, loadCells, loadCellsFrom]
  have PV := run_append_nil (P := P) w s ty c inf zv hs hi qw ax k cx news hl hr oM oM (by rw [R0]; have hb := P3; simp only [pY] at hb; omega);have hgr := grown 0 hR;simp only [pY, ie, V7] at hgr ⊢;exact ⟨_, _, PV, hgr⟩
 by_cases Uq : m + k <= cap
 ·have rq : m * inf.size + news.length <= (xs ++ cur).toArray.size := by rw [List.size_toArray, gN, hl, <-BK]; exact Nat.mul_le_mul_right _ Uq
  have PV := run_append_room (P := P) w s ty c inf hs hi b m cap (xs ++ cur).toArray (hB.pt .here) ax k cx news hl hr h1 Uq rq;have hB' := hB.EK .here ((xs ++ news) ++ cur.drop news.length);have e : (List.take (m * inf.size) (xs ++ cur).toArray.toList ++ news ++ List.drop (m * inf.size + news.length) (xs ++ cur).toArray.toList).toArray = ((xs ++ news) ++ cur.drop news.length).toArray := by
   simp only [<-xx];simp [List.drop_append, vm]
  rw [e] at PV;refine ⟨_, _, PV, oE hB' hlen Uq Nx ?_⟩;rw [de, hlen, gT, <-gN];simp only [List.size_toArray, de] at rq ⊢
  rw [xx, hl, BK] at *;omega
 have holds : Rd w ⟨b, 0, none⟩ xs := by
  have := (Rd.vw (o := 0) hB .here).take xs.length
  simpa using this
 have PV := run_append_grow (P := P) w s ty c inf zv hs hi qw ⟨b, 0, none⟩ m cap xs xx holds ax k cx news hl hr oM oM (by rw [R0]; exact growslice_fits oM P3);exact ⟨_, _, PV, grown cap hB.tail⟩
theorem fH {c : TypeId} {z bytes m k : Nat} {xs news : List Value} {ax : Addr} {cx : Nat} (ho : ops[i]? = some ⟨some d, .call ⟨.builtin .append, #[x, y], #[s, s]⟩, t, p, af, g⟩) (hs : P.underlying s = some (.slice c)) (uS : (P.info? c).map (·.size) = some z)
  (W4 : (P.info? c).map (·.bytes) = some bytes) (yj : (bD P c).map (·.size) = some z) (hx : ev e x = some v) (hy : ev e y = some (.slice (some ax) k cx)) (hw : an G L w) (hp : cG (row c z v m xs) L R) (hr : Rd w ax news) (hl : news.length = k * z) (h1 : iR news)
  (P5 : m + k <= maxLen) (P3 : (m + k) * bytes <= 140737488355328) (i' : gU P ops dr done i = [])
  (h : ∀ w' v', an G (row c z v' (m + k) (xs ++ news) :: R) w' -> XL P n ops dr (i :: done) r K ((d, v') :: e) w') (hd : Nat.blt d n = true := by exact rfl) (hg : Gd ops e g := by first | trivial | exact ⟨_, rfl, rfl⟩) : XL P n ops dr done (i :: r) K e w := by
 cases hi : P.info? c with
 | none => simp [hi] at uS
 | some inf =>
  have ed : inf.size = z := by simpa [hi] using uS
  have R0 : inf.bytes = bytes := by simpa [hi] using W4
  cases qw : inf.zero with
  | none => simp [bD, hi, qw] at yj
  | some zv =>
   have Ou : zv.cells.size = z := by simpa [bD, hi, qw] using yj
   obtain ⟨v', w', uq, uo⟩ := Pw (P := P) (ty := t) (cx := cx) hs hi qw ed R0 Ou (hw.pick hp) hr hl h1 P5 P3;refine fU ho (by simpa [cy] using hd) hg (ρ := rh e) (by intro z hZ; simp [Op.operands, Call.operands] at hZ; exact CX hx hy hZ) rfl (v := v') (w' := w') ?_ (fb i') (h _ _ uo);simp only [execOp, resolve, invoke, builtin, Sem.run_bind, Sem.run_pure, Result.andThen_ok, jM, cH, gE, bj hx, bj hy, uq]
theorem VR {c : TypeId} {s' : TypeId} {dl dc sl sc : Nat} {ax : Addr} {cs l' : List Value} (ho : ops[i]? = some ⟨some d, .call ⟨.builtin .copy, #[x, y], #[s, s']⟩, t, p, af, g⟩) (hs : P.underlying s = some (.slice c)) (uS : (P.info? c).map (·.size) = some 1)
  (hx : ev e x = some (.slice (some ⟨b, o, none⟩) dl dc)) (hy : ev e y = some (.slice (some ax) sl sc)) (hw : an G L w) (hp : cG (ah b l T) L R) (hr : Rd w ax cs) (hl : cs.length = Nat.min sl dl) (h1 : iR cs) (rq : o + cs.length <= l.length)
  (Ke : l.take o ++ cs ++ l.drop (o + cs.length) = l') (i' : gU P ops dr done i = [])
  (h : ∀ w', an G (ah b l' T :: R) w' -> XL P n ops dr (i :: done) r K ((d, iQ cs.length) :: e) w') (hd : Nat.blt d n = true := by exact rfl) (hg : Gd ops e g := by first | trivial | exact ⟨_, rfl, rfl⟩) : XL P n ops dr done (i :: r) K e w := by
 subst Ke;have PV := run_copy_row (P := P) w s s' t c b o dl dc ax sl sc l.toArray T cs hs uS (hw.pt hp) hl hr (by simpa using rq) h1;refine fU ho (by simpa [cy] using hd) hg (ρ := rh e) (by intro z hZ; simp [Op.operands, Call.operands] at hZ; exact CX hx hy hZ) rfl (v := iQ cs.length) (w' := w.setRow b (l.take o ++ cs ++ l.drop (o + cs.length)).toArray) ?_ (fb i') (h _ (hw.EK hp _));simp only [execOp, resolve, invoke, builtin, Sem.run_bind, Sem.run_pure, Result.andThen_ok, jM, cH, gE, bj hx, bj hy, PV];rfl
def ai (P : Program) (f : FuncId) : Prop := ∃ fn, P.funcs[f]? = some fn /\ (fn.name == "runtime.NumGoroutine") = false /\ fn.body.isNone = false
theorem dJ {f : FuncId} {xs : Array Operand} {ts : Array TypeId} {args : List Value} {Q : Value -> World -> Prop} (ho : ops[i]? = some ⟨some d, .call ⟨.value (.func f), xs, ts⟩, t, p, af, g⟩)
  (hf : ai P f) (ha : OP e xs.toList = some args) (hc : Calls P f args.toArray w (bU Q)) (i' : ∀ w' v, Q v w' -> ∀ q ∈ gU P ops dr done i, uR P n ops q ((d, v) :: e) w')
  (h : ∀ w' v, Q v w' -> XL P n ops dr (i :: done) r K ((d, v) :: e) w') (hd : Nat.blt d n = true := by exact rfl) (hg : Gd ops e g := by first | trivial | exact ⟨_, rfl, rfl⟩) : XL P n ops dr done (i :: r) K e w := by
 obtain ⟨fn, hf, r9, zL⟩ := hf;obtain ⟨hk, hm⟩ := qU ha;refine Pe ho (by simpa [cy] using hd) hg (ρ := rh e) (by
  intro z hZ; simp [Op.operands, Call.operands] at hZ;rcases hZ with rfl | hZ
  ·rfl
  ·exact hk z (by simpa using hZ)) rfl (f := f) (args := args.toArray) ?_ hc fun v w' hQ => ⟨i' w' v hQ, h w' v hQ⟩
 have hrf : rh e (.func f) = .func (.func f) #[] #[] := rfl;have hm' : xs.map (rh e) = args.toArray := by apply Array.ext'; simp [hm]
 simp only [execOp, resolve, hrf, Deferred.ofValue, invoke, callFunc, hm', Sem.run_bind, Sem.run_pure, Result.andThen_ok, program, Sem.run, hf, r9, zL];simp
theorem al {f : FuncId} {xs : Array Operand} {ts : Array TypeId} {args : List Value} {Q : Value -> World -> Prop} (ho : ops[i]? = some ⟨some d, .call ⟨.value (.func f), xs, ts⟩, t, p, af, g⟩)
  (hf : ai P f) (ha : OP e xs.toList = some args) (hc : Calls P f args.toArray w (bU Q)) (i' : gU P ops dr done i = [])
  (h : ∀ w' v, Q v w' -> XL P n ops dr (i :: done) r K ((d, v) :: e) w') (hd : Nat.blt d n = true := by exact rfl) (hg : Gd ops e g := by first | trivial | exact ⟨_, rfl, rfl⟩) : XL P n ops dr done (i :: r) K e w :=
 dJ (hd := hd) (hg := hg) ho hf ha hc (fun w' v _ => fb (dst := some d) i') h
theorem fc {z : Operand} {f : FuncId} {xs : Array Operand} {ts : Array TypeId} {c1 c2 : Array Value} {args args' : List Value} {Q : Value -> World -> Prop} (ho : ops[i]? = some ⟨some d, .call ⟨.value z, xs, ts⟩, t, p, af, g⟩)
  (hz : ev e z = some (.func (.func f) c1 c2)) (hf : ai P f) (ha : OP e xs.toList = some args) (El : c1.toList ++ args ++ c2.toList = args') (hc : Calls P f args'.toArray w (bU Q)) (i' : gU P ops dr done i = [])
  (h : ∀ w' v, Q v w' -> XL P n ops dr (i :: done) r K ((d, v) :: e) w') (hd : Nat.blt d n = true := by exact rfl) (hg : Gd ops e g := by first | trivial | exact ⟨_, rfl, rfl⟩) : XL P n ops dr done (i :: r) K e w := by
 obtain ⟨fn, hf, r9, zL⟩ := hf;obtain ⟨hk, hm⟩ := qU ha;refine Pe ho (by simpa [cy] using hd) hg (ρ := rh e) (by
  intro q hZ; simp [Op.operands, Call.operands] at hZ;rcases hZ with rfl | hZ
  ·exact JU hz
  ·exact hk q (by simpa using hZ)) rfl (f := f) (args := args'.toArray) ?_ hc fun v w' hQ => ⟨fb i', h w' v hQ⟩
 have hm' : c1 ++ xs.map (rh e) ++ c2 = args'.toArray := by apply Array.ext'; simp [hm, <-El]
 simp only [execOp, resolve, bj hz, Deferred.ofValue, invoke, callFunc, hm', Sem.run_bind, Sem.run_pure, Result.andThen_ok, program, Sem.run, hf, r9, zL];simp
end
def KP (P : Program) (l : Nat) (args : List Value) (w : World) (R : Value -> World -> Prop) : Prop :=
 ∃ fn tmps assign body, (Instr.yield l args.toArray).run P w = .ok (.round l fn tmps assign body) w /\ zH P l fn tmps assign body w (bU R)
def JD (P : Program) (G : Gh) (l n : Nat) (JG : Nat -> List Value -> List aw -> Prop) (J : Nat -> aw) (Jx : aw) : Prop :=
 ∀ k args M w, k < n -> JG k args M -> an G (J k :: M) w -> KP P l args w fun v w' => (v = .bool true /\ an G (J (k + 1) :: M) w') \/ (v = .bool false /\ an G (Jx :: M) w')
def Bq (P : Program) (gf : FuncId) (lb : List Value) (G : Gh) (L : List aw) (w : World) (n : Nat) (JG : Nat -> List Value -> List aw -> Prop) (Lx : List aw) : Prop :=
 ∀ (l : Nat) (J : Nat -> aw) (Jx : aw) (w' : World), JD P G l n JG J Jx -> an G (J 0 :: L) w' -> Calls P gf (.func (.yield l) #[] #[] :: lb).toArray w' (bU fun _ CP => an G (J n :: Lx) CP \/ an G (Jx :: Lx) CP)
def psE : List Nat -> List Value -> fm -> fm
 | p :: ps, v :: vs, e => psE ps vs ((p, v) :: e)
 | _, _, e => e
theorem G5 {n : Nat} : ∀ (ps : List Nat) (vs : List Value) (e : fm) (a : Act), dh n e a -> ps.all (Nat.blt · n) = true -> ps.length = vs.length →
  dh n (psE ps vs e) { tmps := (ps.zip vs).foldl (fun t (p, v) => t.setIfInBounds p v) a.tmps, defers := a.defers }
 | [], [], e, a, h, _, _ => h
 | p :: ps, v :: vs, e, a, h, hb, hl => by
  simp only [List.all_cons, rR] at hb;exact G5 ps vs ((p, v) :: e) (a.put (some p) v) (h.put (by simpa using hb.1) v) hb.2 (by simpa using hl)
 | [], _ :: _, _, _, _, _, hl => by simp at hl
 | _ :: _, [], _, _, _, _, hl => by simp at hl
section
variable {P : Program} {n : Nat} {ops : Array Oper} {dr : Bool} {done r : List Nat} {K : fm -> World -> Prop} {e : fm} {w : World} {i d : Nat} {t : TypeId} {p : String} {af : Array Edge} {g : Option (Nat × Bool)}
variable {G : Gh} {L R : List aw}
theorem SR {l : Nat} {z : Operand} {xs : Array Operand} {ts : Array TypeId} {args : List Value} {Q : Value -> World -> Prop} (ho : ops[i]? = some ⟨some d, .call ⟨.value z, xs, ts⟩, t, p, af, g⟩)
  (hz : ev e z = some (.func (.yield l) #[] #[])) (ha : OP e xs.toList = some args) (hy : KP P l args w Q) (i' : ∀ w' v, Q v w' -> ∀ q ∈ gU P ops dr done i, uR P n ops q ((d, v) :: e) w')
  (h : ∀ w' v, Q v w' -> XL P n ops dr (i :: done) r K ((d, v) :: e) w') (hd : Nat.blt d n = true := by exact rfl) (hg : Gd ops e g := by first | trivial | exact ⟨_, rfl, rfl⟩) : XL P n ops dr done (i :: r) K e w := by
 obtain ⟨hk, hm⟩ := qU ha;obtain ⟨fn, tmps, assign, body, uq, hR⟩ := hy;refine wU ho (by simpa [cy] using hd) hg (ρ := rh e) (by
  intro q hZ; simp [Op.operands, Call.operands] at hZ;rcases hZ with rfl | hZ
  ·exact JU hz
  ·exact hk q (by simpa using hZ)) ?_
 have hm' : xs.map (rh e) = args.toArray := by apply Array.ext'; simp [hm]
 show xp P _ 2 w _
 unfold xp;simp only [execOp, resolve, bj hz, Deferred.ofValue, invoke, hm', Sem.run_bind, Sem.run_pure, Result.andThen_ok, V7, Array.append_empty, uq];exact RoundIn.mono hR fun en w' ⟨v, he, hQ⟩ => ⟨v, he, i' w' v hQ, h w' v hQ⟩
theorem pk {l : Nat} {z : Operand} {xs : Array Operand} {ts : Array TypeId} {args : List Value} {Q : Value -> World -> Prop} (ho : ops[i]? = some ⟨some d, .call ⟨.value z, xs, ts⟩, t, p, af, g⟩)
  (hz : ev e z = some (.func (.yield l) #[] #[])) (ha : OP e xs.toList = some args) (hy : KP P l args w Q) (i' : gU P ops dr done i = [])
  (h : ∀ w' v, Q v w' -> XL P n ops dr (i :: done) r K ((d, v) :: e) w') (hd : Nat.blt d n = true := by exact rfl) (hg : Gd ops e g := by first | trivial | exact ⟨_, rfl, rfl⟩) : XL P n ops dr done (i :: r) K e w :=
 SR (hd := hd) (hg := hg) ho hz ha hy (fun w' v _ => fb (dst := some d) i') h
end
def aa0 (fn : FuncId) (tmps : Array Value) (ps : Array Tmp) (assign body : Code) (D : Nat) (st : LoopState) (pe : Option Code) : Obj := .loop { state := st, pending := pe, fn, tmps, params := ps, assign, body, defers := D }
abbrev dG (D : Nat) : aw := pt D (.deferred (some []))
section
variable {P : Program} {n : Nat} {K F : hC} {E : List (Nat × hC)} {e e₀ : fm} {w : World} {G : Gh} {L Lx : List aw}
theorem ll {g : Gh} {b : Nat} {o : Obj} {R : List aw} {w : World} (h : an g (pt b o :: R) w) (o' : Obj) : an g (pt b o' :: R) (w.putObj b o') := h.set o'
def P6 (G : Gh) (Je : List (Nat × aw)) (M : List aw) : List (Nat × hC) := Je.map fun x => (x.1, fun _ w => an G (x.2 :: M) w)
theorem Jm {Je : List (Nat × aw)} {M : List aw} {id : Nat} {K' : hC} (h : oU (P6 G Je M) id = some K') : ∃ A, (id, A) ∈ Je /\ K' = fun _ w => an G (A :: M) w := by
 induction Je with
 | nil => cases h
 | cons x r ih =>
  obtain ⟨k, A⟩ := x;simp only [P6, cH, oU] at h
  by_cases hk : k = id
  ·subst hk; simp at h; exact ⟨A, iD .., h.symm⟩
  rw [wP hk] at h;obtain ⟨B, h1, h2⟩ := ih h;exact ⟨B, jN _ h1, h2⟩
theorem qI {gop : Operand} {ps : Array Tmp} {assign body : Code} {gf : FuncId} {lb : List Value} {m : Nat} {JG : Nat -> List Value -> List aw -> Prop}
  (J : Nat -> aw) (Jr : aw) (Je : List (Nat × aw))
  (hg : ev e gop = some (.func (.func gf) #[] lb.toArray)) (hf : ai P gf) (gG : ps.toList.all (Nat.blt · n) = true)
  (hs : fk e₀ e) (Uw : marks e₀ = []) (hw : an G (J 0 :: L) w) (hlen : ∀ k args M, JG k args M -> ps.toList.length = args.length) (OC : Bq P gf lb G L w m JG Lx)
  (r8 : ∀ (l D : Nat) (o : Obj) (k : Nat) (args : List Value) (M : List aw) (w : World), k < m -> JG k args M -> an G (J k :: pt l o :: dG D :: M) w →
   X P n (some l) assign (fun ze xn => ∃ L1, an G (pt l o :: L1) xn /\ ∀ (o' : Obj) (BB : World), an G (pt l o' :: L1) BB →
    X P n (some l) body (fun _ w => an G (J (k + 1) :: pt l o' :: dG D :: M) w) (P6 G Je (pt l o' :: dG D :: M)) (fun _ w => an G (Jr :: pt l o' :: dG D :: M) w) ze BB) [] (fun _ _ => False) (psE ps.toList args e₀) w)
  (UE : ∀ (D : Nat) (w : World), an G (J m :: dG D :: Lx) w -> K ((1000000000, pQ D) :: e) w)
  (Us : ∀ (D : Nat) (w : World), an G (Jr :: dG D :: Lx) w -> F ((1000000000, pQ D) :: e) w)
  (hex : ∀ (id : Nat) (A : aw), (id, A) ∈ Je -> ∃ K', oU E id = some K' /\ ∀ (D : Nat) (w : World), an G (A :: dG D :: Lx) w -> K' ((1000000000, pQ D) :: e) w) :
  X P n none (.rangeFunc gop ps assign body) K E F e w := fun a ha => by
 refine wpIn_rangeFunc (F := Fw none) ?_;intro fn _;obtain ⟨D, hD⟩ : ∃ D, D = w.heap.size := ⟨_, rfl⟩;obtain ⟨rec, xy⟩ : ∃ rec : LoopState -> Option Code -> Obj, rec = fun st pe => aa0 fn a.tmps ps assign body D st pe := ⟨_, rfl⟩
 have uo : an G (pt (D + 1) (rec .ready none) :: dG D :: J 0 :: L) ((w.alloc (.deferred (some []))).alloc (rec .ready none)) := by
  have h1 := hw.push (.deferred (some []));have h2 := h1.push (rec .ready none);simp only [Array.size_push] at h2;rw [hD];exact h2
 obtain ⟨W1, hW1⟩ : ∃ W1, (w.alloc (.deferred (some []))).alloc (rec .ready none) = W1 := ⟨_, rfl⟩;rw [hW1] at uo;have PZ := ha.ev hg;obtain ⟨ff, RW, RV, hf3⟩ := hf;refine ⟨D + 1, [{ target := .collected D, args := #[] }], W1, { target := .fn (.func gf) lb.toArray, args := #[.func (.yield (D + 1)) #[] #[]] }, W1, gf,
  (.func (.yield (D + 1)) #[] #[] :: lb).toArray, W1, ?_, ?_, fun _ _ => trivial, ?_, (fun hd => by cases hd), ?_⟩
 ·rw [<-hW1, xy, hD]; exact run_enterLoop_outer _ _ _ _ _
 ·simp only [resolve, PZ];simp [Deferred.ofValue, Act.eval]
 ·simp only [invoke, callFunc, Sem.run_bind, Sem.run_pure, Result.andThen_ok, program, Sem.run, RW, RV, hf3];simp
 have Fy : ∀ (st : LoopState) (pe : Option Code) (A : aw) (kM : World), st ≠ .busy -> an G (pt (D + 1) (rec st pe) :: dG D :: A :: Lx) kM -> ∃ oA, (Instr.endLoop (D + 1)).run P kM = .ok pe oA /\ an G (A :: dG D :: Lx) oA := fun st pe A kM jB h => by
  have h1 := h.cW;rw [xy] at h1;have h2 := run_endLoop (P := P) (r := { state := st, pending := pe, fn, tmps := a.tmps, params := ps, assign, body, defers := D }) h1 jB;exact ⟨_, h2, ((ll h _).tail).pick (.there .here)⟩
 have hag : dh n ((1000000000, pQ D) :: e) { a with defers := [{ target := .collected D, args := #[] }] ++ a.defers } := by
  refine ⟨?_, ha.size, ha.small, fun t v hv => ?_⟩
  ·simp [marks, YI, ha.defers]
  rcases kX hv with ⟨h1, _⟩ | ⟨_, h2⟩
  ·exact absurd h1.symm (vL hv)
  exact ha.get t v h2
 have aah : dh n e₀ { tmps := a.tmps, defers := [] } := ⟨by rw [Uw]; rfl, ha.size, ha.small, fun t v hv => ha.get t v (hs t v hv)⟩;obtain ⟨Jk, W9⟩ : ∃ Jk : Nat -> aw, Jk = fun k h => all [pt (D + 1) (rec .ready none), dG D, J k] h := ⟨_, rfl⟩
 obtain ⟨Jx, hJx⟩ : ∃ Jx : aw, Jx = fun h => all [pt (D + 1) (rec .done (some .ret)), dG D, Jr] h \/ ∃ id A, (id, A) ∈ Je /\ all [pt (D + 1) (rec .done (some (.exit id))), dG D, A] h := ⟨_, rfl⟩
 have hy : JD P G (D + 1) m JG Jk Jx := fun k args M w' hk oJ hS => by
  rw [W9] at hS;obtain ⟨hh, h1, h2⟩ := gC hS;have hS' : an G (pt (D + 1) (rec .ready none) :: dG D :: J k :: M) w' := h2 _ h1;have hl := hlen k args M oJ;have s7 := hS'.cW;rw [xy] at s7
  refine ⟨fn, _, assign, body, run_yield (r := { state := .ready, pending := none, fn, tmps := a.tmps, params := ps, assign, body, defers := D }) s7 (by simpa using hl.symm), ?_⟩;refine roundIn_of_wpIn (F := Fw none) trivial ?_;have Mt : ((ps.zip args.toArray).foldl (fun tmps x => tmps.setIfInBounds x.1 x.2) a.tmps) = (ps.toList.zip args).foldl (fun t x => t.setIfInBounds x.1 x.2) a.tmps := by
   rw [<-Array.foldl_toList, Array.toList_zip]
  have hX := r8 (D + 1) D (rec .ready none) k args M w' hk oJ (hS'.GQ (As := [J k]) (.cons (.there (.there .here)) .nil)) _ (G5 ps.toList args e₀ _ aah gG hl)
  show assign.wpIn (Fw (some (D + 1))) 0 P _ { tmps := ((ps.zip args.toArray).foldl (fun tmps x => tmps.setIfInBounds x.1 x.2) a.tmps), defers := [] } w'
  rw [Mt];refine wpIn_mono hX fun ex Bl xn hq => ?_
  cases ex <;> simp only [oR, oU] at hq <;> simp only [Exit.then]
  case exit => obtain ⟨K', h, _⟩ := hq; cases h
  case ret => obtain ⟨_, _, h⟩ := hq; exact h
  case normal =>
   obtain ⟨ze, UI, L1, hS1, UF⟩ := hq;have Mi := hS1.cW;rw [xy] at Mi;refine ⟨_, run_beginRound (r := { state := .ready, pending := none, fn, tmps := a.tmps, params := ps, assign, body, defers := D }) Mi rfl, ?_⟩;refine wpIn_mono (UF (rec .busy none) _ (by rw [xy]; exact ll hS1 _) Bl UI) fun ex aas BB hq => ?_
   have OG : ∀ (jump : Option Code) (A : aw), an G (A :: pt (D + 1) (rec .busy none) :: dG D :: M) BB -> ∃ kM, (Instr.endRound (D + 1) jump).run P BB = .ok (.bool jump.isNone) kM /\ an G (pt (D + 1) (rec (if jump.isNone then .ready else .done) jump) :: dG D :: A :: M) kM := fun jump A h => by
    have h := h.GQ (As := [pt (D + 1) _, dG D]) (.cons (.there .here) (.cons (.there .here) .nil));have h1 := h.cW;rw [xy] at h1;refine ⟨_, run_endRound (r := { state := .busy, pending := none, fn, tmps := a.tmps, params := ps, assign, body, defers := D }) jump h1, ?_⟩;rw [xy]; exact ll h _
   cases ex <;> simp only [oR] at hq <;> simp only [roundPost]
   case normal =>
    obtain ⟨_, _, h⟩ := hq;obtain ⟨kM, h3, h4⟩ := OG none _ h;exact ⟨_, kM, h3, _, rfl, .inl ⟨rfl, by rw [W9]; exact q7 (M := [_, _, _]) h4 fun _ h => h⟩⟩
   case ret =>
    obtain ⟨_, _, h⟩ := hq;obtain ⟨kM, h3, h4⟩ := OG (some .ret) _ h;exact ⟨_, kM, h3, _, rfl, .inr ⟨rfl, by rw [hJx]; exact q7 (M := [_, _, _]) h4 fun _ h => .inl h⟩⟩
   case exit id =>
    obtain ⟨K', gK, _, _, h⟩ := hq;obtain ⟨A, hA, rfl⟩ := Jm gK;obtain ⟨kM, h3, h4⟩ := OG (some (.exit id)) _ h;exact ⟨_, kM, h3, _, rfl, .inr ⟨rfl, by rw [hJx]; exact q7 (M := [_, _, _]) h4 fun _ h => .inr ⟨id, A, hA, h⟩⟩⟩
 have h0 : an G (Jk 0 :: L) W1 := by rw [W9]; exact q7 (M := [_, _, _]) uo fun _ h => h
 refine Calls.fw (Calls.mono (OC (D + 1) Jk Jx W1 hy h0) fun en kM ⟨v, hv, hR⟩ => ?_) none _;subst hv
 show ∃ jump oA, _
 rcases hR with hR | hR
 ·rw [W9] at hR;obtain ⟨hh, h1, h2⟩ := gC hR;obtain ⟨oA, h3, h4⟩ := Fy _ _ _ kM sM (h2 _ h1);exact ⟨none, oA, h3, _, hag, UE D oA h4⟩
 rw [hJx] at hR;obtain ⟨hh, h1 | ⟨id, A, hA, h1⟩, h2⟩ := gC hR
 ·obtain ⟨oA, h3, h4⟩ := Fy _ _ _ kM sM (h2 _ h1);exact ⟨some .ret, oA, h3, wpIn_ret ⟨_, hag, Us D oA h4⟩⟩
 obtain ⟨oA, h3, h4⟩ := Fy _ _ _ kM sM (h2 _ h1);obtain ⟨K', gK, hK⟩ := hex id A hA;exact ⟨some (.exit id), oA, h3, wpIn_exit ⟨K', gK, _, hag, hK D oA h4⟩⟩
end
section
variable {P : Program} {n : Nat} {ops : Array Oper} {dr : Bool} {done r : List Nat} {K : fm -> World -> Prop} {e : fm} {w : World} {i d : Nat} {t : TypeId} {p : String} {af : Array Edge} {g : Option (Nat × Bool)}
variable {G : Gh} {L R : List aw} {s u T : TypeId} {x y : Operand} {v : Value} {k : IntKind} {a : Int}
theorem Is {c : TypeId} {z m : Nat} {zc : Array Value} {xs : Array (Nat × Operand)} {vs cs : List Value} (ho : ops[i]? = some ⟨some d, .buildSlice s m xs, t, p, af, g⟩) (hs : P.underlying s = some (.slice c)) (uS : (P.info? c).map (·.size) = some z) (yj : bD P c = some zc) (hz : 0 < m * z /\ m * z <= 16777216)
  (hx : OP e (xs.toList.map (·.2)) = some vs) (hf : Instr.fill (fun i => some (i * z, z)) ((Array.range (m * z)).map (zc[· % zc.size]!)) ((xs.toList.map (·.1)).zip vs) = some cs.toArray) (hw : an G L w) (i' : gU P ops dr done i = [])
  (h : ∀ w' b, an G (ah b cs c :: L) w' -> XL P n ops dr (i :: done) r K ((d, sQ b m m) :: e) w') (hd : Nat.blt d n = true := by exact rfl) (hg : Gd ops e g := by first | trivial | exact ⟨_, rfl, rfl⟩) : XL P n ops dr done (i :: r) K e w := by
 obtain ⟨hk, hm⟩ := qU hx;refine fU ho (by simpa [cy] using hd) hg (ρ := rh e) (by intro z hz; exact hk z (by simpa [Op.operands] using hz)) rfl (v := .slice (some ⟨w.heap.size, 0, none⟩) m m) (w' := { w with heap := w.heap.push (.cells cs.toArray c (0, 0)) }) ?_ (fb i') (h _ _ (hw.push _));have e1 : (xs.map fun (j, z) => (j, rh e z)) = ((xs.toList.map (·.1)).zip vs).toArray := by
  apply Array.ext';rw [<-hm];simp only [Array.toList_map]
  generalize xs.toList = q
  induction q with
  | nil => rfl
  | cons x q ih => obtain ⟨a, b⟩ := x; simp only [cH, List.zip_cons_cons, ih]
 cases hi : P.info? c with
 | none => simp [hi] at uS
 | some inf =>
  have ed : inf.size = z := by simpa [hi] using uS
  cases qw : inf.zero with
  | none => simp [bD, hi, qw] at yj
  | some zv =>
   have Ou : zv.cells = zc := by simpa [bD, hi, qw] using yj
   have hnz : ¬ m * z = 0 := oM;have hle : ¬ 16777216 < m * z := oM;simp only [execOp, e1];simp [Instr.buildSlice, run_underlying hs, sizeOf, typeInfo, hi, ed, zeroValue, qw, hnz, hle, Ou, hf, newRow]
theorem Pj {c : TypeId} {z : Nat} (ho : ops[i]? = some ⟨some d, .buildSlice s 0 #[], t, p, af, g⟩) (hs : P.underlying s = some (.slice c)) (uS : (P.info? c).map (·.size) = some z) (hw : an G L w) (i' : gU P ops dr done i = [])
  (h : ∀ w' b, an G (ah b [] c :: L) w' -> XL P n ops dr (i :: done) r K ((d, sQ b 0 0) :: e) w') (hd : Nat.blt d n = true := by exact rfl) (hg : Gd ops e g := by first | trivial | exact ⟨_, rfl, rfl⟩) : XL P n ops dr done (i :: r) K e w := by
 refine fU ho (by simpa [cy] using hd) hg (ρ := rh e) (by intro z hz; simp [Op.operands] at hz) rfl (v := .slice (some ⟨w.heap.size, 0, none⟩) 0 0) (w' := { w with heap := w.heap.push (.cells #[] c (0, 0)) }) ?_ (fb i') (h _ _ (hw.push _));cases hi : P.info? c with
 | none => simp [hi] at uS
 | some inf => simp [execOp, Instr.buildSlice, run_underlying hs, sizeOf, typeInfo, hi, Instr.fill, newRow]; rw [show Array.map (fun _ => default) (Array.range 0) = (#[] : Array Value) by simp]
theorem Dl {c : TypeId} {q : Option Addr} {l m : Nat} (hs : P.underlying s = some (.slice c)) (w : World) : (Op.equal s (.slice q l m) (nQ)).run P w = .ok q.isNone w := by
 have : ∀ m', (Op.equalIn (m' + 1) s (.slice q l m) (nQ)).run P w = .ok q.isNone w := fun m' => by
  cases q <;> simp [Op.equalIn, run_underlying hs]
 exact this 9999
theorem zV {c : TypeId} {q : Option Addr} {l m : Nat} (ho : ops[i]? = some ⟨some d, .binOp .eql s x (.const (nQ)) u, t, p, af, g⟩)
  (hs : P.underlying s = some (.slice c)) (hx : ev e x = some (.slice q l m))
  (h : XL P n ops dr (i :: done) r K ((d, .bool q.isNone) :: e) w) (hd : Nat.blt d n = true := by exact rfl) (hg : Gd ops e g := by first | trivial | exact ⟨_, rfl, rfl⟩) : XL P n ops dr done (i :: r) K e w :=
 iU (hd := hd) (hg := hg) ho (by simp [dk, hs]) hx (show ev e (.const (nQ)) = some (nQ) from rfl) (fun w' => by
  have h0 : (eqGuard .eql s x (.const (nQ)) (.slice q l m) (nQ)).run P w' = .ok () w' := by simp [eqGuard]
  have h1 : (binOp .eql s (.slice q l m) (nQ)).run P w' = .ok (.bool q.isNone) w' := by
   simp only [binOp, Sem.run_bind, Dl hs, Result.andThen_ok]; rfl
  simp only [Sem.run_bind, h0, h1, Result.andThen_ok]) h
theorem Ph {c : TypeId} {q : Option Addr} {len cap : Nat} {hi mx : Int} {kh km : IntKind} {h' m' : Operand} (ho : ops[i]? = some ⟨some d, .slice s x none (some h') (some m'), t, p, af, g⟩) (hs : P.underlying s = some (.slice c)) (hz : ((P.info? c).map (·.size)).isSome = true)
  (hx : ev e x = some (.slice q len cap)) (hq : ∀ a, q = some a -> a.spot = none) (hh : ev e h' = some (.int kh hi)) (hm : ev e m' = some (.int km mx)) (hb : 0 <= hi /\ hi <= mx /\ mx <= cap)
  (h : XL P n ops dr (i :: done) r K ((d, .slice q hi.toNat mx.toNat) :: e) w) (hd : Nat.blt d n = true := by exact rfl) (hg : Gd ops e g := by first | trivial | exact ⟨_, rfl, rfl⟩) : XL P n ops dr done (i :: r) K e w :=
 dA ho (by simpa [cy] using hd) hg (ρ := rh e) (by intro z hZ; simp [Op.operands] at hZ; exact oh3 hx hh hm hZ) rfl
  (v := .slice q hi.toNat mx.toNat) (fun w' => by
   cases tX : P.info? c with
   | none => simp [tX] at hz
   | some inf =>
    have h1 := jk (P := P) (k := km) (v := mx) (y := cap) (c := .slice3Acap) ⟨oM, hb.2.2⟩ w';have h2 := jk (P := P) (k := kh) (v := hi) (y := mx.toNat) (c := .slice3B) ⟨hb.1, oM⟩ w';cases q with
    | none => simp [execOp, bj hx, bj hh, bj hm, Instr.sliceAt, Instr.slice, Instr.sliceBounds, run_underlying hs, h1, h2, sizeOf, typeInfo, tX]
    | some a => simp [execOp, bj hx, bj hh, bj hm, Instr.sliceAt, Instr.slice, Instr.sliceBounds, run_underlying hs, h1, h2, sizeOf, typeInfo, tX, Addr.add]) h
theorem VQ {c : TypeId} {q : Option Addr} {len : Nat} {lo : Int} {kl : IntKind} {l : Operand} (ho : ops[i]? = some ⟨some d, .slice s x (some l) none none, t, p, af, g⟩) (hs : P.underlying s = some (.slice c)) (hz : ((P.info? c).map (·.size)).isSome = true)
  (hx : ev e x = some (.slice q len len)) (hl : ev e l = some (.int kl lo)) (hb : lo = len)
  (h : XL P n ops dr (i :: done) r K ((d, .slice q 0 0) :: e) w) (hd : Nat.blt d n = true := by exact rfl) (hg : Gd ops e g := by first | trivial | exact ⟨_, rfl, rfl⟩) : XL P n ops dr done (i :: r) K e w :=
 dA ho (by simpa [cy] using hd) hg (ρ := rh e) (by intro z hZ; simp [Op.operands] at hZ; exact CX hx hl hZ) rfl
  (v := .slice q 0 0) (fun w' => by
   cases tX : P.info? c with
   | none => simp [tX] at hz
   | some inf =>
    have h1 := jk (P := P) (k := kl) (v := lo) (y := len) (c := .sliceB) ⟨oM, oM⟩ w';have nM : lo.toNat = len := oM;simp [execOp, bj hx, bj hl, Instr.sliceAt, Instr.slice, Instr.sliceBounds, run_underlying hs, h1, sizeOf, typeInfo, tX, nM]) h
theorem sP {c : TypeId} {b o m z : Nat} (ho : ops[i]? = some ⟨some d, .indexAddr s x y, t, p, af, g⟩) (hs : P.underlying s = some (.array m c)) (hz : (P.info? c).map (·.size) = some z)
  (hx : ev e x = some (.pointer (some ⟨b, o, none⟩))) (hy : ev e y = some (.int k a)) (ha : 0 <= a /\ a < m)
  (h : XL P n ops dr (i :: done) r K ((d, .pointer (some ⟨b, o + a.toNat * z, none⟩)) :: e) w) (hd : Nat.blt d n = true := by exact rfl) (hg : Gd ops e g := by first | trivial | exact ⟨_, rfl, rfl⟩) : XL P n ops dr done (i :: r) K e w :=
 dA ho (by simpa [cy] using hd) hg (ρ := rh e) (by intro z hZ; simp [Op.operands] at hZ; exact CX hx hy hZ) rfl (v := .pointer (some ⟨b, o + a.toNat * z, none⟩)) (fun w' => by
  cases hi : P.info? c with
  | none => simp [hi] at hz
  | some inf =>
   have ed : inf.size = z := by simpa [hi] using hz
   simp [execOp, bj hx, bj hy, Instr.indexAt, Instr.sureAddr, asIntOf, run_underlying hs, ha.1, ha.2, sizeOf, typeInfo, hi, ed, fX]) h
theorem X5 {c : TypeId} {q : Option Addr} {len cap : Nat} (ho : ops[i]? = some ⟨some d, .call ⟨.builtin .cap, #[x], #[s]⟩, t, p, af, g⟩) (hs : P.underlying s = some (.slice c))
  (hx : ev e x = some (.slice q len cap)) (h : XL P n ops dr (i :: done) r K ((d, iQ cap) :: e) w) (hd : Nat.blt d n = true := by exact rfl) (hg : Gd ops e g := by first | trivial | exact ⟨_, rfl, rfl⟩) : XL P n ops dr done (i :: r) K e w :=
 dA ho (by simpa [cy] using hd) hg (ρ := rh e) (by intro z hZ; simp [Op.operands, Call.operands] at hZ; exact BP hx hZ) (by simp [dk, hs]) (v := iQ cap)
  (fun w' => by simp [execOp, resolve, invoke, builtin, bj hx, Builtin.cap_, run_underlying hs, goInt]) h
theorem Y5 {c : TypeId} {z bytes m k : Nat} {xs news : List Value} {ax : Addr} {cx : Nat} (ho : ops[i]? = some ⟨some d, .call ⟨.builtin .append, #[x, y], #[s, s]⟩, t, p, af, g⟩) (hs : P.underlying s = some (.slice c)) (uS : (P.info? c).map (·.size) = some z)
  (W4 : (P.info? c).map (·.bytes) = some bytes) (yj : (bD P c).map (·.size) = some z) (hx : ev e x = some v) (hy : ev e y = some (.slice (some ax) k cx)) (hw : an G L w) (hp : cG (row c z v m xs) L R) (hr : Rd w ax news) (hl : news.length = k * z) (h1 : iR news)
  (P5 : m + k <= maxLen) (P3 : (m + k) * bytes <= 140737488355328)
  (i' : ∀ w' v', an G (row c z v' (m + k) (xs ++ news) :: R) w' -> ∀ q ∈ gU P ops dr done i, uR P n ops q ((d, v') :: e) w')
  (h : ∀ w' v', an G (row c z v' (m + k) (xs ++ news) :: R) w' -> XL P n ops dr (i :: done) r K ((d, v') :: e) w') (hd : Nat.blt d n = true := by exact rfl) (hg : Gd ops e g := by first | trivial | exact ⟨_, rfl, rfl⟩) : XL P n ops dr done (i :: r) K e w := by
 cases hi : P.info? c with
 | none => simp [hi] at uS
 | some inf =>
  have ed : inf.size = z := by simpa [hi] using uS
  have R0 : inf.bytes = bytes := by simpa [hi] using W4
  cases qw : inf.zero with
  | none => simp [bD, hi, qw] at yj
  | some zv =>
   have Ou : zv.cells.size = z := by simpa [bD, hi, qw] using yj
   obtain ⟨v', w', uq, uo⟩ := Pw (P := P) (ty := t) (cx := cx) hs hi qw ed R0 Ou (hw.pick hp) hr hl h1 P5 P3;refine fU ho (by simpa [cy] using hd) hg (ρ := rh e) (by intro z hZ; simp [Op.operands, Call.operands] at hZ; exact CX hx hy hZ) rfl (v := v') (w' := w') ?_ (i' _ _ uo) (h _ _ uo);simp only [execOp, resolve, invoke, builtin, Sem.run_bind, Sem.run_pure, Result.andThen_ok, jM, cH, gE, bj hx, bj hy, uq]
end
abbrev KV := List (Int × Value)
def cO : KV -> Int -> Option Value
 | [], _ => none
 | (k, v) :: r, i => if i = k then some v else cO r i
def lr : KV -> Int -> Value -> KV
 | [], i, v => [(i, v)]
 | (k, u) :: r, i, v => if i = k then (k, v) :: r else (k, u) :: lr r i v
def rm : KV -> Int -> KV
 | [], _ => []
 | (k, u) :: r, i => if i = k then r else (k, u) :: rm r i
theorem I7 (kv : KV) (i : Int) (v : Value) (j : Int) : cO (lr kv i v) j = if j = i then some v else cO kv j := by
 induction kv with
 | nil => simp [lr, cO]
 | cons p r ih =>
  obtain ⟨k, u⟩ := p
  by_cases h : i = k
  ·subst h; simp only [lr, if_true, cO]; split <;> rfl
  simp only [lr, aj h, cO, ih]
  by_cases h1 : j = k
  ·subst h1; simp [Ne.symm h]
  simp [h1]
theorem Fl {kv : KV} {i : Int} : cO kv i = none ↔ i ∉ kv.map (·.1) := by
 induction kv with
 | nil => simp [cO]
 | cons p r ih =>
  obtain ⟨k, u⟩ := p
  by_cases h : i = k
  ·subst h; simp [cO]
  simp [cO, h, ih]
theorem RE {kv : KV} {i : Int} {v : Value} (h : cO kv i = some v) : (i, v) ∈ kv := by
 induction kv with
 | nil => simp [cO] at h
 | cons p r ih =>
  obtain ⟨k, u⟩ := p
  by_cases hk : i = k
  ·subst hk; simp [cO] at h; subst h; simp
  simp [cO, hk] at h; exact jN _ (ih h)
theorem IY {kv : KV} (hn : (kv.map (·.1)).Nodup) {i : Int} {v : Value} (h : (i, v) ∈ kv) : cO kv i = some v := by
 induction kv with
 | nil => cases h
 | cons p r ih =>
  obtain ⟨k, u⟩ := p;simp only [cH, xr] at hn;rcases bQ.1 h with h | h
  ·cases h; simp [cO]
  have : i ≠ k := fun e => hn.1 (dE.2 ⟨(i, v), h, e⟩)
  simp [cO, this, ih hn.2 h]
theorem RD (kv : KV) (i : Int) (v : Value) : (lr kv i v).map (·.1) = if i ∈ kv.map (·.1) then kv.map (·.1) else kv.map (·.1) ++ [i] := by
 induction kv with
 | nil => simp [lr]
 | cons p r ih =>
  obtain ⟨k, u⟩ := p
  by_cases h : i = k
  ·subst h; simp [lr]
  by_cases hm : i ∈ r.map (·.1)
  ·rw [ao hm] at ih; rw [ao (by rw [cH]; exact jN _ hm)];simp only [lr, aj h, cH, ih]
  rw [aj hm] at ih; rw [aj (by rw [cH]; exact fun hc => (bQ.1 hc).elim h hm)];simp only [lr, aj h, cH, ih, iC]
theorem yY {kv : KV} (hn : (kv.map (·.1)).Nodup) (i : Int) (v : Value) : ((lr kv i v).map (·.1)).Nodup := by
 rw [RD]; split
 ·exact hn
 rename_i h; exact N2.2 ⟨hn, by simp, fun a ha b hb => by simp at hb; subst hb; exact fun e => h (e ▸ ha)⟩
theorem Ua (kv : KV) (i : Int) : (rm kv i).Sublist kv := by
 induction kv with
 | nil => exact .slnil
 | cons p r ih =>
  obtain ⟨k, u⟩ := p
  by_cases h : i = k
  ·subst h; simp [rm]
  simp only [rm, aj h]; exact ih.cons_cons _
theorem Fs {kv : KV} (hn : (kv.map (·.1)).Nodup) (i : Int) : ((rm kv i).map (·.1)).Nodup := hn.sublist ((Ua kv i).map _)
theorem RF {kv : KV} (hn : (kv.map (·.1)).Nodup) (i j : Int) : cO (rm kv i) j = if j = i then none else cO kv j := by
 induction kv with
 | nil => simp [rm, cO]
 | cons p r ih =>
  obtain ⟨k, u⟩ := p;simp only [cH, xr] at hn
  by_cases h : i = k
  ·subst h;simp only [rm, if_true, cO]
   by_cases hj : j = i
   ·subst hj; rw [ao rfl]; exact Fl.2 hn.1
   simp [hj]
  simp only [rm, aj h, cO, ih hn.2]
  by_cases hj : j = k
  ·subst hj; simp [Ne.symm h]
  simp [hj]
structure wS (es : List MapEntry) (ck : Nat) (kv : KV) : Prop where
 nH : es.map (fun e => (e.key, e.val)) = kv.map fun p => (iQ p.1, p.2)
 keys : (kv.map (·.1)).Nodup
 pI : ∀ e ∈ es, e.born < ck
 Bh : (es.map (·.born)).Nodup
def bH (m : Nat) (kv : KV) : aw := fun h => ∃ es ck, h m = some (.map es ck) /\ wS es.toList ck kv
def l8 : KV -> Int -> Nat -> Option (Nat × Value)
 | [], _, _ => none
 | (k, v) :: r, i, j => if i = k then some (j, v) else l8 r i (j + 1)
theorem F8 (K : IntKind) (i : Int) : ∀ (es : List MapEntry) (kv : KV) (j : Nat), es.map (fun e => (e.key, e.val)) = kv.map (fun p => (iQ p.1, p.2)) →
  Instr.findNow (.int K) (iQ i) es j = some (l8 kv i j)
 | [], [], _, _ => rfl
 | [], _ :: _, _, h => by simp at h
 | _ :: _, [], _, h => by simp at h
 | e :: es, (k, v) :: kv, j, h => by
  simp only [cH, List.cons.injEq, Prod.mk.injEq] at h;obtain ⟨⟨h1, h2⟩, h3⟩ := h;have ih := F8 K i es kv (j + 1) h3
  by_cases hk : i = k
  ·subst hk; simp [Instr.findNow, h1, h2, Instr.sameNow, l8]
  have hb : (i == k) = false := by simpa using hk
  simp [Instr.findNow, h1, Instr.sameNow, l8, hk, ih, hb]
theorem s4 (i : Int) : ∀ (kv : KV) (j : Nat), (l8 kv i j).map (·.2) = cO kv i
 | [], _ => rfl
 | (k, v) :: r, j => by by_cases h : i = k <;> simp [l8, cO, h, s4 i r]
theorem BV (i : Int) (v : Value) : ∀ (es : List MapEntry) (kv : KV) (j : Nat), es.map (fun e => (e.key, e.val)) = kv.map (fun p => (iQ p.1, p.2)) →
  ∀ q u, l8 kv i j = some (q, u) -> j <= q /\ ∃ e, es[q - j]? = some e /\ e.key = iQ i ∧
   (es.modify (q - j) fun e => { e with key := iQ i, val := v }).map (fun e => (e.key, e.val)) = (lr kv i v).map (fun p => (iQ p.1, p.2)) ∧
   (es.modify (q - j) fun e => { e with key := iQ i, val := v }).map (·.born) = es.map (·.born) ∧
   (es.eraseIdx (q - j)).map (fun e => (e.key, e.val)) = (rm kv i).map (fun p => (iQ p.1, p.2))
 | [], [], _, _, _, _, h => by simp [l8] at h
 | [], _ :: _, _, h, _, _, _ => by simp at h
 | _ :: _, [], _, h, _, _, _ => by simp at h
 | e :: es, (k, u) :: kv, j, h, q, u', hf => by
  simp only [cH, List.cons.injEq, Prod.mk.injEq] at h;obtain ⟨⟨h1, h2⟩, h3⟩ := h
  by_cases hk : i = k
  ·subst hk;simp [l8] at hf;obtain ⟨rfl, rfl⟩ := hf;refine ⟨g8 _, e, ?_⟩;simp [lr, rm, h1, h3]
  simp [l8, hk] at hf;obtain ⟨hle, e', h4, h5, h6, h7, h8⟩ := BV i v es kv (j + 1) h3 q u' hf;have hq : q - j = (q - (j + 1)) + 1 := oM;refine ⟨oM, e', ?_⟩;rw [hq];refine ⟨by simpa using h4, h5, ?_, ?_, ?_⟩
  ·simp only [Tw, cH, lr, aj hk, h6, h1, h2]
  ·simp only [Tw, cH, h7]
  simp only [List.eraseIdx_cons_succ, cH, rm, aj hk, h8, h1, h2]
section
variable {P : Program} {n : Nat} {ops : Array Oper} {dr : Bool} {done r : List Nat} {K : fm -> World -> Prop} {e : fm} {w : World} {i d : Nat} {t : TypeId} {p : String} {af : Array Edge} {g : Option (Nat × Bool)}
variable {G : Gh} {L R : List aw} {s T : TypeId} {x y c : Operand} {m : Nat} {kv : KV} {v : Value} {kt et : TypeId} {a : Int}
theorem ey {o : Obj} (h : w.heap[m]? = some o) (hn : ∀ c e f, o ≠ .cells c e f) : (getObj m).run P w = .ok o w := by
 unfold getObj;cases o <;> simp [Sem.run, h]
 exact absurd rfl (hn _ _ _)
theorem mX {o : Obj} (o' : Obj) (h : w.heap[m]? = some o) (hn : ∀ c e f, o ≠ .cells c e f) : (setObj m o').run P w = .ok () { w with heap := w.heap.setIfInBounds m o' } := by
 unfold setObj;cases o <;> simp [Sem.run, h]
 exact absurd rfl (hn _ _ _)
theorem lL (hw : an G (bH m kv :: R) w) : ∃ es ck, wS es.toList ck kv /\ an G (pt m (.map es ck) :: R) w := by
 obtain ⟨hg, h, hh, h1, h2, hd, hu, ⟨es, ck, hm, hf⟩, hL⟩ := hw;exact ⟨es, ck, hf, hg, h, hh, h1, h2, hd, hu, hm, hL⟩
theorem pL {es : Array MapEntry} {ck : Nat} (hf : wS es.toList ck kv) (hw : an G (pt m (.map es ck) :: R) w) : an G (bH m kv :: R) w := hw.eV fun h hm => ⟨es, ck, hm, hf⟩
theorem fZ (hk : P.underlying kt = some (.int .i64)) {es : List MapEntry} {ck : Nat} (hf : wS es ck kv) (w : World) : (Instr.findKey kt (iQ a) es).run P w = .ok (l8 kv a 0) w := by
 simp [Instr.findKey, run_underlying hk, F8 .i64 a es kv 0 hf.nH]
theorem fu (hk : P.underlying kt = some (.int .i64)) {b : Bool} (w : World) : (Instr.checkKey b 10000 kt (iQ a)).run P w = .ok () w := by
 have : ∀ q, (Instr.checkKey b (q + 1) kt (iQ a)).run P w = .ok () w := fun q => by simp [Instr.checkKey, run_underlying hk]
 exact this 9999
theorem Ew (ho : ops[i]? = some ⟨some d, .makeMap s none, t, p, af, g⟩) (hw : an G L w) (i' : gU P ops dr done i = [])
  (h : ∀ w' m, an G (bH m [] :: L) w' -> XL P n ops dr (i :: done) r K ((d, .map (some m)) :: e) w') (hd : Nat.blt d n = true := by exact rfl) (hg : Gd ops e g := by first | trivial | exact ⟨_, rfl, rfl⟩) : XL P n ops dr done (i :: r) K e w := by
 refine fU ho (by simpa [cy] using hd) hg (ρ := rh e) (by intro z hZ; simp [Op.operands] at hZ) rfl (v := .map (some w.heap.size)) (w' := { w with heap := w.heap.push (.map #[] 0) }) ?_ (fb i') (h _ _ (pL ⟨rfl, by simp, by simp, by simp⟩ (hw.push _)));simp [execOp, Instr.makeMap, newObj, Sem.run]
theorem SZ {z : Value} (ho : ops[i]? = some ⟨some d, .lookup s x y true, t, p, af, g⟩) (hs : P.underlying s = some (.map kt et)) (hk : P.underlying kt = some (.int .i64)) (hz : (P.info? et).bind (·.zero) = some z) (hx : ev e x = some (.map (some m))) (hy : ev e y = some (iQ a))
  (hw : an G L w) (hp : cG (bH m kv) L R) {v0 : Value} {b0 : Bool} (RO : (cO kv a).getD z = v0) (VA : (cO kv a).isSome = b0) (h : XL P n ops dr (i :: done) r K ((d, .tuple #[v0, .bool b0]) :: e) w) (hd : Nat.blt d n = true := by exact rfl) (hg : Gd ops e g := by first | trivial | exact ⟨_, rfl, rfl⟩) : XL P n ops dr done (i :: r) K e w := by
 subst RO VA;obtain ⟨es, ck, hf, nL⟩ := lL (hw.pick hp);refine wV ho (by simpa [cy] using hd) hg (ρ := rh e) (by intro z hZ; simp [Op.operands] at hZ; exact CX hx hy hZ) rfl (v := .tuple #[(cO kv a).getD z, .bool (cO kv a).isSome]) ?_ h;have h1 := ey (P := P) nL.cW sM;have h2 := s4 a kv 0;cases hi : P.info? et with
 | none => simp [hi] at hz
 | some inf =>
  have qw : inf.zero = some z := by simpa [hi] using hz
  cases uU : l8 kv a 0 with
  | none => rw [uU] at h2; simp at h2; simp [execOp, bj hx, bj hy, Instr.lookup, run_underlying hs, h1, fu hk, fZ hk hf, uU, zeroValue, typeInfo, hi, qw, <-h2]
  | some q => obtain ⟨q, u⟩ := q; rw [uU] at h2; simp at h2; simp [execOp, bj hx, bj hy, Instr.lookup, run_underlying hs, h1, fu hk, fZ hk hf, uU, <-h2]
theorem u0 {z : Value} (ho : ops[i]? = some ⟨some d, .lookup s x y false, t, p, af, g⟩) (hs : P.underlying s = some (.map kt et)) (hk : P.underlying kt = some (.int .i64)) (hz : (P.info? et).bind (·.zero) = some z) (hx : ev e x = some (.map (some m))) (hy : ev e y = some (iQ a))
  (hw : an G L w) (hp : cG (bH m kv) L R) {v0 : Value} (RO : (cO kv a).getD z = v0) (h : XL P n ops dr (i :: done) r K ((d, v0) :: e) w) (hd : Nat.blt d n = true := by exact rfl) (hg : Gd ops e g := by first | trivial | exact ⟨_, rfl, rfl⟩) : XL P n ops dr done (i :: r) K e w := by
 subst RO;obtain ⟨es, ck, hf, nL⟩ := lL (hw.pick hp);refine wV ho (by simpa [cy] using hd) hg (ρ := rh e) (by intro z hZ; simp [Op.operands] at hZ; exact CX hx hy hZ) rfl (v := (cO kv a).getD z) ?_ h;have h1 := ey (P := P) nL.cW sM;have h2 := s4 a kv 0;cases hi : P.info? et with
 | none => simp [hi] at hz
 | some inf =>
  have qw : inf.zero = some z := by simpa [hi] using hz
  cases uU : l8 kv a 0 with
  | none => rw [uU] at h2; simp at h2; simp [execOp, bj hx, bj hy, Instr.lookup, run_underlying hs, h1, fu hk, fZ hk hf, uU, zeroValue, typeInfo, hi, qw, <-h2]
  | some q => obtain ⟨q, u⟩ := q; rw [uU] at h2; simp at h2; simp [execOp, bj hx, bj hy, Instr.lookup, run_underlying hs, h1, fu hk, fZ hk hf, uU, <-h2]
theorem yZ {i : Int} : ∀ {kv : KV} {j : Nat}, l8 kv i j = none -> i ∉ kv.map (·.1)
 | [], _, _ => by simp
 | (k, v) :: r, j, h => by
  by_cases hk : i = k
  ·subst hk; simp [l8] at h
  simp [l8, hk] at h; simpa [hk] using yZ h
theorem Fk {i : Int} {v : Value} : ∀ {kv : KV}, i ∉ kv.map (·.1) -> lr kv i v = kv ++ [(i, v)]
 | [], _ => rfl
 | (k, u) :: r, h => by simp at h; simp [lr, h.1, Fk (kv := r) (i := i) (v := v) (by simpa using h.2)]
theorem Ld (ho : ops[i]? = some ⟨none, .mapUpdate s x y c, t, p, af, g⟩) (hg : Gd ops e g) (hs : P.underlying s = some (.map kt et)) (hk : P.underlying kt = some (.int .i64)) (hx : ev e x = some (.map (some m))) (hy : ev e y = some (iQ a)) (hc : ev e c = some v)
  (hw : an G L w) (hp : cG (bH m kv) L R) (i' : gU P ops dr done i = []) (h : ∀ w', an G (bH m (lr kv a v) :: R) w' -> XL P n ops dr (i :: done) r K e w') : XL P n ops dr done (i :: r) K e w := by
 obtain ⟨es, ck, hf, nL⟩ := lL (hw.pick hp);have h1 := ey (P := P) nL.cW sM;have BZ := fun o' => mX (P := P) o' nL.cW sM
 cases uU : l8 kv a 0 with
 | none =>
  have hnk := yZ uU;have rq : wS (es.push { key := iQ a, val := v, born := ck }).toList (ck + 1) (lr kv a v) := by
   refine ⟨by rw [Fk hnk]; simp [hf.nH], yY hf.keys _ _, fun e he => ?_, ?_⟩
   ·simp at he; rcases he with he | rfl
    ·have := hf.pI e (by simpa using he); omega
    simp
   simp only [Array.toList_push, kz, cH, gE];refine N2.2 ⟨hf.Bh, by simp, fun b hb c hc => ?_⟩;simp at hc; subst hc;obtain ⟨e, he, rfl⟩ := dE.1 hb;have := hf.pI e he; omega
  refine zT ho rfl hg (ρ := rh e) (by intro z hZ; simp [Op.operands] at hZ; exact oh3 hx hy hc hZ) rfl (w' := _) ?_ (fb (dst := none) i') (h _ (pL rq (nL.set _)));simp [execOp, bj hx, bj hy, bj hc, Instr.mapUpdate, run_underlying hs, h1, fu hk, fZ hk hf, uU, BZ]
 | some q =>
  obtain ⟨q, u⟩ := q;obtain ⟨_, e', h4, h5, h6, h7, _⟩ := BV a v es.toList kv 0 hf.nH q u uU;simp only [Ra] at h4 h6 h7;have rq : wS (es.modify q fun e => { e with key := iQ a, val := v }).toList ck (lr kv a v) := by
   have em : (es.modify q fun e => { e with key := iQ a, val := v }).toList = es.toList.modify q fun e => { e with key := iQ a, val := v } := by simp
   rw [em];refine ⟨h6, yY hf.keys _ _, fun x hx => ?_, by rw [h7]; exact hf.Bh⟩;have hb : x.born ∈ (es.toList.modify q fun e => { e with key := iQ a, val := v }).map (·.born) := dE.2 ⟨x, hx, rfl⟩;rw [h7] at hb;obtain ⟨z, hz, hzb⟩ := dE.1 hb;have := hf.pI z hz; omega
  refine zT ho rfl hg (ρ := rh e) (by intro z hZ; simp [Op.operands] at hZ; exact oh3 hx hy hc hZ) rfl (w' := _) ?_ (fb (dst := none) i') (h _ (pL rq (nL.set _)));have Z4 : ((es[q]?).map (·.key)).getD (iQ a) = iQ a := by
   have : es[q]? = some e' := by simpa using h4
   simp [this, h5]
  simp [execOp, bj hx, bj hy, bj hc, Instr.mapUpdate, run_underlying hs, h1, fu hk, fZ hk hf, uU, BZ, Z4, Instr.keyThatStays, Instr.sameBits]
theorem S1 {ts : Array TypeId} (ho : ops[i]? = some ⟨none, .call ⟨.builtin .delete, #[x, y], ts⟩, t, p, af, g⟩) (hg : Gd ops e g) (ht : ts[0]? = some s) (hs : P.underlying s = some (.map kt et)) (hk : P.underlying kt = some (.int .i64)) (hx : ev e x = some (.map (some m))) (hy : ev e y = some (iQ a))
  (hw : an G L w) (hp : cG (bH m kv) L R) (i' : gU P ops dr done i = []) (h : ∀ w', an G (bH m (rm kv a) :: R) w' -> XL P n ops dr (i :: done) r K e w') : XL P n ops dr done (i :: r) K e w := by
 obtain ⟨es, ck, hf, nL⟩ := lL (hw.pick hp);have h1 := ey (P := P) nL.cW sM;have BZ := fun o' => mX (P := P) o' nL.cW sM
 cases uU : l8 kv a 0 with
 | none =>
  have hnk := yZ uU;have acN : ∀ {kv : KV}, a ∉ kv.map (·.1) -> rm kv a = kv := by
   intro kv
   induction kv with
   | nil => intro _; rfl
   | cons p r ih => intro hn; obtain ⟨k, u⟩ := p; simp at hn; simp [rm, hn.1, ih (by simpa using hn.2)]
  have rq : wS es.toList ck (rm kv a) := by rw [acN hnk]; exact hf
  refine fU ho rfl hg (ρ := rh e) (by intro z hZ; simp [Op.operands, Call.operands] at hZ; exact CX hx hy hZ) rfl (v := .tuple #[]) (w' := _) ?_ (fb (dst := none) i') (h _ (pL rq (nL.set _)));simp [execOp, resolve, invoke, builtin, bj hx, bj hy, Builtin.delete_, ht, run_underlying hs, h1, fu hk, fZ hk hf, uU, BZ]
 | some q =>
  obtain ⟨q, u⟩ := q;obtain ⟨_, e', h4, h5, _, _, h8⟩ := BV a (iQ 0) es.toList kv 0 hf.nH q u uU;simp only [Ra] at h4 h8;have hql : q < es.size := by have := (xu.1 h4).1; simpa using this
  have em : (es.eraseIdxIfInBounds q).toList = es.toList.eraseIdx q := by simp [Array.eraseIdxIfInBounds, hql]
  have rq : wS (es.eraseIdxIfInBounds q).toList ck (rm kv a) := by
   rw [em];exact ⟨h8, Fs hf.keys _, fun x hx => hf.pI x ((List.eraseIdx_sublist ..).subset hx), hf.Bh.sublist ((List.eraseIdx_sublist ..).map _)⟩
  refine fU ho rfl hg (ρ := rh e) (by intro z hZ; simp [Op.operands, Call.operands] at hZ; exact CX hx hy hZ) rfl (v := .tuple #[]) (w' := _) ?_ (fb (dst := none) i') (h _ (pL rq (nL.set _)));simp [execOp, resolve, invoke, builtin, bj hx, bj hy, Builtin.delete_, ht, run_underlying hs, h1, fu hk, fZ hk hf, uU, BZ]
def y0 (it m : Nat) (kv : KV) (vis : List Int) : aw := fun h => ∃ (es : Array MapEntry) (ck : Nat) (sq : Array Nat) (vs : List MapEntry), h m = some (.map es ck) /\ h it = some (.mapIter (some m) ck sq ck) /\ m ≠ it /\ wS es.toList ck kv ∧
 (∀ e ∈ vs, e ∈ es.toList) /\ (vs.map fun (e : MapEntry) => e.born) = sq.toList.reverse /\ (vs.map fun (e : MapEntry) => e.key) = vis.map (iQ ·)
theorem BW {it : Nat} {vis : List Int} (hw : an G (y0 it m kv vis :: R) w) : ∃ (es : Array MapEntry) (ck : Nat) (sq : Array Nat) (vs : List MapEntry), wS es.toList ck kv /\ (∀ e ∈ vs, e ∈ es.toList) /\ (vs.map fun (e : MapEntry) => e.born) = sq.toList.reverse /\ (vs.map fun (e : MapEntry) => e.key) = vis.map (iQ ·) ∧
  an G (pt it (.mapIter (some m) ck sq ck) :: pt m (.map es ck) :: R) w := by
 obtain ⟨hg, h, hh, h1, h2, hd, hu, ⟨es, ck, sq, vs, hm, hi, qF, hf, h3, h4, h5⟩, hL⟩ := hw;refine ⟨es, ck, sq, vs, hf, h3, h4, h5, hg, h, hh, fun b => if b = it then h1 b else none, fun b => if b = it then none else pU h1 h2 b, fun b => ?_, fun b o hb => ?_, by simp [pt, hi], fun b => if b = it then none else h1 b, h2, fun b => ?_, fun b o hb => ?_, by simp [pt, qF, hm], hL⟩
 ·by_cases e : b = it <;> simp [e]
 ·refine hu b o ?_;rcases dW hb with hb | hb
  ·have P4 : (if b = it then h1 b else none) = some o := hb;split at P4
   ·exact dT P4
   cases P4
  have P4 : (if b = it then none else pU h1 h2 b) = some o := hb;split at P4
  ·cases P4
  exact P4
 ·by_cases e : b = it
  ·exact .inl (by simp [e])
  rcases hd b with h | h
  ·exact .inl (by simp [h])
  exact .inr h
 have OC : h2 it = none := (hd it).resolve_left (by simp [hi])
 by_cases e : b = it
 ·subst e; rcases dW hb with hb | hb
  ·simp at hb
  rw [OC] at hb; cases hb
 simp only [aj e];rcases dW hb with hb | hb
 ·simp [e] at hb; exact dT hb
 exact eB hd hb
theorem I' {it : Nat} {vis : List Int} {es : Array MapEntry} {ck : Nat} {sq : Array Nat} {vs : List MapEntry} (hf : wS es.toList ck kv) (h3 : ∀ e ∈ vs, e ∈ es.toList) (h4 : (vs.map fun (e : MapEntry) => e.born) = sq.toList.reverse) (h5 : (vs.map fun (e : MapEntry) => e.key) = vis.map (iQ ·))
  (hw : an G (pt it (.mapIter (some m) ck sq ck) :: pt m (.map es ck) :: R) w) : an G (y0 it m kv vis :: R) w := by
 have qF := hw.ne;have h : an G (aV [pt it (.mapIter (some m) ck sq ck), pt m (.map es ck)] :: R) w := an.bz (M := [_, _]) hw;refine h.eV fun h ⟨h1, h2, hd, hu, hi, h6, h7, zK, PS, hm, _⟩ => ⟨es, ck, sq, vs, hu m _ (eB hd (PS m _ (dT hm))), hu it _ (dT hi), fun e => qF e.symm, hf, h3, h4, h5⟩
theorem X2 (ho : ops[i]? = some ⟨some d, .range s x, t, p, af, g⟩) (hs : P.underlying s = some (.map kt et)) (hx : ev e x = some (.map (some m))) (hw : an G L w) (hp : cG (bH m kv) L R) (i' : gU P ops dr done i = [])
  (h : ∀ w' it, an G (y0 it m kv [] :: R) w' -> XL P n ops dr (i :: done) r K ((d, pQ it) :: e) w') (hd : Nat.blt d n = true := by exact rfl) (hg : Gd ops e g := by first | trivial | exact ⟨_, rfl, rfl⟩) : XL P n ops dr done (i :: r) K e w := by
 obtain ⟨es, ck, hf, nL⟩ := lL (hw.pick hp);have h1 := ey (P := P) nL.cW sM;refine fU ho (by simpa [cy] using hd) hg (ρ := rh e) (by intro z hZ; simp [Op.operands] at hZ; exact BP hx hZ) rfl (v := .pointer (some ⟨w.heap.size, 0, none⟩)) (w' := { w with heap := w.heap.push (.mapIter (some m) ck #[] ck) }) ?_ (fb i')
  (h _ _ (I' (vs := []) hf sM sM sM (nL.push _)))
 simp [execOp, bj hx, Instr.range, run_underlying hs, h1, newObj, Sem.run]
theorem M8 {es : List MapEntry} (h : (es.map (·.born)).Nodup) {a b : MapEntry} (ha : a ∈ es) (hb : b ∈ es) (e : a.born = b.born) : a = b := by
 induction es with
 | nil => cases ha
 | cons x es ih =>
  simp only [cH, xr] at h;rcases bQ.1 ha with Mv | Mv <;> rcases bQ.1 hb with r9 | r9
  ·rw [Mv, r9]
  ·exact absurd (dE.2 ⟨b, r9, by rw [<-e, Mv]⟩) h.1
  ·exact absurd (dE.2 ⟨a, Mv, by rw [e, r9]⟩) h.1
  exact ih h.2 Mv r9
theorem wS.entry {es : List MapEntry} {ck : Nat} (hf : wS es ck kv) {x : MapEntry} (hx : x ∈ es) : ∃ k, x.key = iQ k /\ cO kv k = some x.val := by
 have : (x.key, x.val) ∈ kv.map fun p => (iQ p.1, p.2) := by rw [<-hf.nH]; exact dE.2 ⟨x, hx, rfl⟩
 obtain ⟨p, hp, he⟩ := dE.1 this;simp only [Prod.mk.injEq] at he;exact ⟨p.1, he.1.symm, by rw [<-he.2]; exact IY hf.keys hp⟩
theorem wS.key_inj {es : List MapEntry} {ck : Nat} (hf : wS es ck kv) {a b : MapEntry} (ha : a ∈ es) (hb : b ∈ es) (e : a.key = b.key) : a = b := by
 have hn : (es.map (·.key)).Nodup := by
  have : es.map (·.key) = (kv.map (·.1)).map (iQ ·) := by
   have := congrArg (List.map (·.1)) hf.nH; simpa [Hx, Function.comp_def] using this
  rw [this];exact List.Pairwise.map _ (fun a b B6 h => B6 (by simpa using h)) hf.keys
 clear hf
 induction es with
 | nil => cases ha
 | cons x es ih =>
  simp only [cH, xr] at hn;rcases bQ.1 ha with Mv | Mv <;> rcases bQ.1 hb with r9 | r9
  ·rw [Mv, r9]
  ·exact absurd (dE.2 ⟨b, r9, by rw [<-e, Mv]⟩) hn.1
  ·exact absurd (dE.2 ⟨a, Mv, by rw [e, r9]⟩) hn.1
  exact ih Mv r9 hn.2
theorem wS.Zt {es : List MapEntry} {ck : Nat} (hf : wS es ck kv) {k : Int} {v : Value} (h : cO kv k = some v) : ∃ x ∈ es, x.key = iQ k /\ x.val = v := by
 have : (iQ k, v) ∈ es.map fun e => (e.key, e.val) := by rw [hf.nH]; exact dE.2 ⟨(k, v), RE h, rfl⟩
 obtain ⟨x, hx, he⟩ := dE.1 this;simp only [Prod.mk.injEq] at he;exact ⟨x, hx, he.1, he.2⟩
theorem aaJ {it : Nat} {vis : List Int} (ho : ops[i]? = some ⟨some d, .next x false, t, p, af, g⟩) (hx : ev e x = some (pQ it)) (hw : an G L w) (hp : cG (y0 it m kv vis) L R) (i' : gU P ops dr done i = [])
  (abj : ∀ w', (∀ k v, cO kv k = some v -> k ∈ vis) -> an G (y0 it m kv vis :: R) w' -> XL P n ops dr (i :: done) r K ((d, .tuple #[.bool false]) :: e) w')
  (abm : ∀ w' k v, cO kv k = some v -> k ∉ vis -> an G (y0 it m kv (k :: vis) :: R) w' -> XL P n ops dr (i :: done) r K ((d, .tuple #[.bool true, iQ k, v]) :: e) w') (hd : Nat.blt d n = true := by exact rfl) (hg : Gd ops e g := by first | trivial | exact ⟨_, rfl, rfl⟩) : XL P n ops dr done (i :: r) K e w := by
 obtain ⟨es, ck, sq, vs, hf, h3, h4, h5, nL⟩ := BW (hw.pick hp);have h1 := ey (P := P) nL.cW sM;have h2 := ey (P := P) (nL.pt (.there .here)) sM;have BZ := fun o' => mX (P := P) o' nL.cW sM
 have hsq : ∀ b, b ∈ sq ↔ ∃ x ∈ vs, MapEntry.born x = b := fun b => by
  have : b ∈ sq.toList.reverse ↔ b ∈ vs.map fun (e : MapEntry) => e.born := by rw [h4]
  simpa using this
 have WK : ∀ k, k ∈ vis ↔ ∃ x ∈ vs, x.key = iQ k := fun k => by
  have : (iQ k) ∈ vis.map (iQ ·) ↔ (iQ k) ∈ vs.map fun (e : MapEntry) => e.key := by rw [h5]
  simpa using this
 have Uj : (!sq.isEmpty && !es.isEmpty && es.all (·.born ≥ ck)) = false := by
  cases he : es.isEmpty with
  | true => simp
  | false =>
   have qF : es.toList ≠ [] := by intro h; simp at he; exact he (by simpa using h)
   obtain ⟨x, r', tU⟩ := List.exists_cons_of_ne_nil qF;have KY : x ∈ es.toList := by rw [tU]; simp
   have := hf.pI x KY;have : es.all (·.born ≥ ck) = false := by
    cases hb : es.all (·.born ≥ ck) with
    | false => rfl
    | true => have := Zk.1 hb x (by simpa using KY); simp at this; omega
   simp [this]
 let left := es.filter fun e => !sq.contains e.born
 have hold : left.filter (·.born < ck) = left := by
  apply Array.filter_eq_self.2;intro x hx; have := hf.pI x (by have := (Tp.1 hx).1; simpa using this); simpa using this
 have Ml : left.filter (·.born ≥ ck) = #[] := by
  apply Array.filter_eq_empty_iff.2;intro x hx; have := hf.pI x (by have := (Tp.1 hx).1; simpa using this); simpa using this
 have YC : ∀ r', (Instr.next (pQ it) false t).run P w = r' -> (execOp (rh e) ⟨some d, .next x false, t, p, af, g⟩).run P w = r'.andThen fun v w' => .ok (.value v) w' := fun r' hr => by
  simp only [execOp, bj hx, Sem.run_bind, hr]; rfl
 by_cases hl : left = #[]
 ·refine fU ho (by simpa [cy] using hd) hg (ρ := rh e) (by intro z hZ; simp [Op.operands] at hZ; exact BP hx hZ) rfl (v := .tuple #[.bool false]) (w' := w) ?_ (fb i') (abj _ (fun k v hk => ?_) (hw.pick hp))
  ·refine (YC (.ok (.tuple #[.bool false]) w) ?_).trans rfl;simp only [Instr.next, Sem.run_bind, h1, h2, Result.andThen_ok, Uj];have e1 : (es.filter fun e => !sq.contains e.born) = left := rfl;simp only [e1, hl];simp [choose, Sem.run, Question.forced]
  obtain ⟨x, hx, Bt, _⟩ := hf.Zt hk;have : ¬ x ∈ left := by rw [hl]; simp
  have hb : x.born ∈ sq := by
   cases hc : sq.contains x.born with
   | true => simpa using hc
   | false => exact absurd (Tp.2 ⟨by simpa using hx, by rw [hc]; rfl⟩) this
  obtain ⟨y, hy, RK⟩ := (hsq _).1 hb;have : y = x := M8 hf.Bh (h3 y hy) hx RK;subst this;exact (WK k).2 ⟨y, hy, Bt⟩
 have Yx : 0 < left.size := Nat.pos_of_ne_zero fun h => hl (Array.eq_empty_of_size_eq_zero h)
 have acM : left.isEmpty = false := by simp [Array.isEmpty]; omega
 have key : ∃ (x : MapEntry) (w0 : World), x ∈ left /\ (∀ G' L', an G' L' w -> an G' L' w0) /\ w0.heap = w.heap ∧
   (Instr.next (pQ it) false t).run P w = .ok (.tuple #[.bool true, x.key, x.val]) { w0 with heap := w0.heap.setIfInBounds it (.mapIter (some m) ck (sq.push x.born) ck) } := by
  let q := Question.mapNext left.size
  let j := if q.forced then 0 else q.cut (w.tape w.drawn q)
  have hj : j < left.size := by
   by_cases hqf : q.forced = true
   ·simp [j, hqf]; exact Yx
   simp [j, hqf, q, Question.cut]; exact Nat.mod_lt _ Yx
  have hjg : left[j]? = some left[j] := N8 hj;refine ⟨left[j], if q.forced then w else { w with drawn := w.drawn + 1 }, Array.getElem_mem hj, fun G' L' h => by split; (exact h); (exact h.drawn _), by split <;> rfl, ?_⟩;simp only [Instr.next, Sem.run_bind, h1, h2, Result.andThen_ok, Uj];have e2 : (es.filter fun e => !sq.contains e.born) = left := rfl;simp only [e2, hold, Ml, acM, Array.append_empty, Array.size_map, Bool.false_eq_true, if_false, V7, Sem.run_pure, Result.andThen_ok];have Ho : (choose (.mapNext left.size)).run P w = .ok j (if q.forced then w else { w with drawn := w.drawn + 1 }) := by
   unfold choose; simp only [Sem.run]; by_cases hqf : q.forced = true <;> simp [q, j] at hqf ⊢ <;> simp [hqf]
  rw [Sem.run_bind, Ho];simp only [Result.andThen_ok, Array.getElem?_map, hjg, NZ];have acm : ∀ o', (setObj it o').run P (if q.forced then w else { w with drawn := w.drawn + 1 }) = .ok () { (if q.forced then w else { w with drawn := w.drawn + 1 }) with heap := (if q.forced then w else { w with drawn := w.drawn + 1 }).heap.setIfInBounds it o' } := fun o' =>
   mX (P := P) o' (by split <;> exact nL.cW) sM
  rw [Sem.run_bind, acm]; rfl
 obtain ⟨x, w0, xx, uo, adp, uq⟩ := key;have hxe : x ∈ es.toList := by have := (Tp.1 xx).1; simpa using this
 have hxn : ¬ x.born ∈ sq := by have := (Tp.1 xx).2; simpa using this
 obtain ⟨k, hk, Z3⟩ := hf.entry hxe;have hkn : k ∉ vis := fun hc => by
  obtain ⟨y, hy, WH⟩ := (WK k).1 hc;have : y = x := hf.key_inj (h3 y hy) hxe (WH.trans hk.symm);subst this;exact hxn ((hsq _).2 ⟨y, hy, rfl⟩)
 have Mp := I' (m := m) (vis := k :: vis) (vs := x :: vs) (sq := sq.push x.born) hf (fun y hy => by rcases bQ.1 hy with rfl | hy; (exact hxe); (exact h3 y hy)) (by simp [h4]) (by simp [h5, hk]) ((uo _ _ nL).set _);rw [hk] at uq;exact fU ho (by simpa [cy] using hd) hg (ρ := rh e) (by intro z hZ; simp [Op.operands] at hZ; exact BP hx hZ) rfl (v := .tuple #[.bool true, iQ k, x.val]) (w' := _) ((YC _ uq).trans rfl) (fb i') (abm _ k x.val Z3 hkn Mp)
theorem X4 {it : Nat} {vis : List Int} {k : Int} (ho : ops[i]? = some ⟨some d, .entry x, t, p, af, g⟩) (hx : ev e x = some (pQ it)) (hw : an G L w) (hp : cG (y0 it m kv (k :: vis)) L R) (hv : cO kv k = some v)
  (h : XL P n ops dr (i :: done) r K ((d, .tuple #[iQ k, v]) :: e) w) (hd : Nat.blt d n = true := by exact rfl) (hg : Gd ops e g := by first | trivial | exact ⟨_, rfl, rfl⟩) : XL P n ops dr done (i :: r) K e w := by
 obtain ⟨es, ck, sq, vs, hf, h3, h4, h5, nL⟩ := BW (hw.pick hp);have h1 := ey (P := P) nL.cW sM;have h2 := ey (P := P) (nL.pt (.there .here)) sM;cases vs with
 | nil => simp at h5
 | cons x0 vs =>
  simp only [cH, List.cons.injEq] at h4 h5;have KY : x0 ∈ es.toList := h3 x0 (iD ..);have abA : sq.back? = some x0.born := by
   have : sq.toList.reverse.head? = some x0.born := by rw [<-h4]; rfl
   rw [Array.back?_eq_getElem?]; simpa [List.getLast?_eq_getElem?] using this
  obtain ⟨k', gK, Z3⟩ := hf.entry KY;have : k' = k := by have := gK.symm.trans h5.1; simpa using this
  subst this;have ZI : x0.val = v := by rw [hv] at Z3; simpa using Z3.symm
  have abx : es.find? (·.born == x0.born) = some x0 := by
   rw [<-Array.find?_toList];obtain ⟨y, hy⟩ : ∃ y, es.toList.find? (·.born == x0.born) = some y := by
    cases hq : es.toList.find? (·.born == x0.born) with
    | some y => exact ⟨y, rfl⟩
    | none => have := Ts.1 hq x0 KY; simp at this
   rw [hy];have RK := List.find?_some hy;simp only [beq_iff_eq] at RK;rw [M8 hf.Bh (Tx hy) KY RK]
  refine wV ho (by simpa [cy] using hd) hg (ρ := rh e) (by intro z hZ; simp [Op.operands] at hZ; exact BP hx hZ) rfl (v := .tuple #[iQ k', v]) ?_ h;simp [execOp, bj hx, Instr.entry, h1, h2, abA, abx, gK, ZI]
end
class FO (P : Program) (s f : Nat) (k : outParam Nat) : Prop where
 h : aH P s f = some k
section
variable {P : Program} {n : Nat} {ops : Array Oper} {dr : Bool} {done r : List Nat} {K : fm -> World -> Prop} {e : fm} {w : World} {i d : Nat} {t : TypeId} {p : String} {af : Array Edge} {g : Option (Nat × Bool)} {G : Gh} {L R : List aw} {s T : TypeId} {x y : Operand} {v : Value} {l : List Value}
theorem aaS {f b k : Nat} [hf : FO P s f k] (ho : ops[i]? = some ⟨some d, .fieldAddr s x f, t, p, af, g⟩) (hx : ev e x = some (pQ b)) (h : XL P n ops dr (i :: done) r K ((d, .pointer (some ⟨b, k, none⟩)) :: e) w) (hd : Nat.blt d n = true := by exact rfl) (hg : Gd ops e g := by first | trivial | exact ⟨_, rfl, rfl⟩) : XL P n ops dr done (i :: r) K e w := aaR (hd := hd) (hg := hg) ho hf.h hx h
theorem lD {b o : Nat} (h1 : iG P s = true) (hw : an G L w) (h : XL P n ops dr (i :: done) r K ((d, v) :: e) w) (ho : ops[i]? = some ⟨some d, .load s x, t, p, af, g⟩ := by exact rfl) (hd : Nat.blt d n = true := by exact rfl) (hg : Gd ops e g := by first | trivial | exact ⟨_, rfl, rfl⟩) (hx : ev e x = some (.pointer (some ⟨b, o, none⟩)) := by exact rfl) (q : cG (ah b l T) L R := by repeat (first | with_reducible exact cG.here | apply cG.there)) (hv : l[o]? = some v := by exact rfl) : XL P n ops dr done (i :: r) K e w := bt (hd := hd) (hg := hg) ho hx (ar.bL h1 hw q hv) h
theorem lA {b z : Nat} (h1 : g6 P s z = true) (hw : an G L w) (h : XL P n ops dr (i :: done) r K ((d, gQ l) :: e) w) (ho : ops[i]? = some ⟨some d, .load s x, t, p, af, g⟩ := by exact rfl) (hd : Nat.blt d n = true := by exact rfl) (hg : Gd ops e g := by first | trivial | exact ⟨_, rfl, rfl⟩) (hx : ev e x = some (pQ b) := by exact rfl) (q : cG (ah b l T) L R := by repeat (first | with_reducible exact cG.here | apply cG.there)) (hz : l.length = z := by exact rfl) : XL P n ops dr done (i :: r) K e w := bt (hd := hd) (hg := hg) ho hx (ar.cU h1 hw q hz) h
end
theorem cQ {A : Prop} {p q : Bool} (h : p = q) (ha : A := by exact rfl) : A /\ some (Value.bool p) = some (Value.bool q) := ⟨ha, congrArg some (congrArg Value.bool h)⟩
theorem cK {P : Program} {f : FuncId} {fn : Func} (h : P.funcs[f]? = some fn) (h1 : (fn.name == "runtime.NumGoroutine") = false := by kernel_rfl) (h2 : fn.body.isNone = false := by kernel_rfl) : ai P f := ⟨fn, h, h1, h2⟩
theorem bJ : prog.follows .mixedOrders = true := by kernel_rfl
theorem TU : iG prog 1 = true := by kernel_rfl
theorem QG : prog.underlying 2 = some (.int .i64) := by kernel_rfl
theorem cP : prog.underlying 3 = some (.int .i64) := by kernel_rfl
theorem cm : (prog.info? 3).map (·.size) = some 1 := by kernel_rfl
theorem Pp : ((prog.info? 3).map (·.size)).isSome = true := by kernel_rfl
theorem ni : (prog.info? 3).map (·.bytes) = some 8 := by kernel_rfl
theorem ag : iG prog 3 = true := by kernel_rfl
theorem gZ : (bD prog 3).map (·.size) = some 1 := by kernel_rfl
theorem Es : bD prog 3 = some [(iQ 0)].toArray := by kernel_rfl
theorem q9 : (prog.info? 3).bind (·.zero) = some (iQ 0) := by kernel_rfl
theorem O7 : prog.underlying 4 = some .bool := by kernel_rfl
theorem Eb : (prog.info? 4).map (·.size) = some 1 := by kernel_rfl
theorem Xr : (prog.info? 4).map (·.bytes) = some 1 := by kernel_rfl
theorem bM : iG prog 4 = true := by kernel_rfl
theorem SK : bD prog 4 = some [(.bool false)].toArray := by kernel_rfl
theorem iN : prog.underlying 5 = some (.int .u8) := by kernel_rfl
theorem bh : (prog.info? 5).map (·.size) = some 1 := by kernel_rfl
theorem wY : ((prog.info? 5).map (·.size)).isSome = true := by kernel_rfl
theorem gB : (prog.info? 5).map (·.bytes) = some 1 := by kernel_rfl
theorem eC : iG prog 5 = true := by kernel_rfl
theorem fP : (bD prog 5).map (·.size) = some 1 := by kernel_rfl
theorem pj : bD prog 5 = some [(.int .u8 0)].toArray := by kernel_rfl
theorem bp : prog.underlying 22 = some (.slice 3) := by kernel_rfl
theorem dU : iG prog 22 = true := by kernel_rfl
theorem SJ : bD prog 22 = some [(nQ)].toArray := by kernel_rfl
theorem jA : prog.underlying 23 = some (.slice 106) := by kernel_rfl
theorem nA : prog.underlying 24 = some (.slice 62) := by kernel_rfl
theorem jh : prog.underlying 28 = some (.pointer 38) := by kernel_rfl
theorem aA : iG prog 28 = true := by kernel_rfl
theorem dw : prog.underlying 31 = some (.slice 69) := by kernel_rfl
theorem fN : iG prog 31 = true := by kernel_rfl
theorem aZ : iG prog 34 = true := by kernel_rfl
theorem cJ : prog.underlying 35 = some (.map 3 104) := by kernel_rfl
theorem bV : iG prog 35 = true := by kernel_rfl
theorem iu : prog.underlying 36 = some (.slice 284) := by kernel_rfl
theorem eD : iG prog 36 = true := by kernel_rfl
theorem Ce : aH prog 38 0 = some 0 := by kernel_rfl
theorem Cd : aH prog 38 1 = some 1 := by kernel_rfl
theorem Cc : aH prog 38 2 = some 2 := by kernel_rfl
theorem Cb : aH prog 38 3 = some 3 := by kernel_rfl
theorem aM : g6 prog 40 8 = true := by kernel_rfl
theorem ft : bD prog 40 = some [(iQ 0), (iQ 0), (iQ 0), (iQ 0), (iQ 0), (iQ 0), (iQ 0), (nQ)].toArray := by kernel_rfl
theorem DM : aH prog 40 0 = some 0 := by kernel_rfl
theorem DL : aH prog 40 1 = some 1 := by kernel_rfl
theorem DK : aH prog 40 2 = some 2 := by kernel_rfl
theorem DJ : aH prog 40 3 = some 3 := by kernel_rfl
theorem DI : aH prog 40 4 = some 4 := by kernel_rfl
theorem DH : aH prog 40 5 = some 5 := by kernel_rfl
theorem DG : aH prog 40 6 = some 6 := by kernel_rfl
theorem DF : aH prog 40 7 = some 7 := by kernel_rfl
theorem eH : prog.underlying 41 = some (.int .i64) := by kernel_rfl
theorem aB : iG prog 41 = true := by kernel_rfl
theorem nC : bD prog 41 = some [(iQ 0)].toArray := by kernel_rfl
theorem lS : (prog.info? 41).bind (·.zero) = some (iQ 0) := by kernel_rfl
theorem aI : prog.underlying 55 = some (.slice 5) := by kernel_rfl
theorem au : iG prog 55 = true := by kernel_rfl
theorem pP : bD prog 55 = some [(nQ)].toArray := by kernel_rfl
theorem nB : prog.underlying 58 = some (.slice 66) := by kernel_rfl
theorem gM : iG prog 58 = true := by kernel_rfl
theorem x8 : bD prog 58 = some [(nQ)].toArray := by kernel_rfl
theorem u6 : (prog.info? 62).map (·.size) = some 3 := by kernel_rfl
theorem M3 : (prog.info? 62).map (·.bytes) = some 24 := by kernel_rfl
theorem aX : g6 prog 62 3 = true := by kernel_rfl
theorem CJ : (bD prog 62).map (·.size) = some 3 := by kernel_rfl
theorem yK : bD prog 62 = some [(iQ 0), (iQ 0), (iQ 0)].toArray := by kernel_rfl
theorem gg : aH prog 62 0 = some 0 := by kernel_rfl
theorem kY : aH prog 62 1 = some 1 := by kernel_rfl
theorem nq : aH prog 62 2 = some 2 := by kernel_rfl
theorem aY : g6 prog 64 3 = true := by kernel_rfl
theorem lH : bD prog 64 = some [(nQ), (nQ), (.bool false)].toArray := by kernel_rfl
theorem F4 : aH prog 64 0 = some 0 := by kernel_rfl
theorem F3 : aH prog 64 1 = some 1 := by kernel_rfl
theorem F2 : aH prog 64 2 = some 2 := by kernel_rfl
theorem u7 : (prog.info? 66).map (·.size) = some 2 := by kernel_rfl
theorem M4 : (prog.info? 66).map (·.bytes) = some 48 := by kernel_rfl
theorem nk : g6 prog 66 2 = true := by kernel_rfl
theorem CL : (bD prog 66).map (·.size) = some 2 := by kernel_rfl
theorem Et : bD prog 66 = some [(nQ), (nQ)].toArray := by kernel_rfl
theorem HI : aH prog 66 0 = some 0 := by kernel_rfl
theorem HH : aH prog 66 1 = some 1 := by kernel_rfl
theorem nG : (prog.info? 69).map (·.size) = some 4 := by kernel_rfl
theorem gb : g6 prog 69 4 = true := by kernel_rfl
theorem K4 : (bD prog 69).map (·.size) = some 4 := by kernel_rfl
theorem sL : bD prog 69 = some [(iQ 0), (iQ 0), (iQ 0), (iQ 0)].toArray := by kernel_rfl
theorem HF : aH prog 69 0 = some 0 := by kernel_rfl
theorem HE : aH prog 69 1 = some 1 := by kernel_rfl
theorem iZ : g6 prog 72 3 = true := by kernel_rfl
theorem oK : aH prog 72 0 = some 0 := by kernel_rfl
theorem tZ : aH prog 72 1 = some 1 := by kernel_rfl
theorem tY : aH prog 72 2 = some 2 := by kernel_rfl
theorem eR : g6 prog 74 6 = true := by kernel_rfl
theorem mg : aH prog 74 0 = some 0 := by kernel_rfl
theorem vM : aH prog 74 1 = some 1 := by kernel_rfl
theorem F1 : aH prog 74 2 = some 4 := by kernel_rfl
theorem F0 : aH prog 74 3 = some 5 := by kernel_rfl
theorem ou : prog.underlying 75 = some (.int .u32) := by kernel_rfl
theorem IE : (prog.info? 75).map (·.size) = some 1 := by kernel_rfl
theorem m0 : iG prog 75 = true := by kernel_rfl
theorem SH : bD prog 75 = some [(.int .u32 0)].toArray := by kernel_rfl
theorem s3 : g6 prog 77 3 = true := by kernel_rfl
theorem tg : aH prog 77 0 = some 0 := by kernel_rfl
theorem te : aH prog 77 1 = some 1 := by kernel_rfl
theorem td : aH prog 77 2 = some 2 := by kernel_rfl
theorem yH : prog.underlying 78 = some (.pointer 191) := by kernel_rfl
theorem Dt : iG prog 78 = true := by kernel_rfl
theorem aJ : prog.underlying 102 = some (.slice 198) := by kernel_rfl
theorem jK : (prog.info? 102).map (·.size) = some 1 := by kernel_rfl
theorem az : iG prog 102 = true := by kernel_rfl
theorem uX : (bD prog 102).map (·.size) = some 1 := by kernel_rfl
theorem x9 : bD prog 102 = some [(nQ)].toArray := by kernel_rfl
theorem ae : g6 prog 104 5 = true := by kernel_rfl
theorem bE : bD prog 104 = some [(iQ 0), (iQ 0), (nQ), (nQ), (iQ 0)].toArray := by kernel_rfl
theorem HN : aH prog 104 0 = some 0 := by kernel_rfl
theorem HM : aH prog 104 1 = some 1 := by kernel_rfl
theorem HL : aH prog 104 2 = some 2 := by kernel_rfl
theorem HK : aH prog 104 3 = some 3 := by kernel_rfl
theorem HJ : aH prog 104 4 = some 4 := by kernel_rfl
theorem oC : (prog.info? 106).map (·.size) = some 6 := by kernel_rfl
theorem D5 : (prog.info? 106).map (·.bytes) = some 80 := by kernel_rfl
theorem qP : g6 prog 106 6 = true := by kernel_rfl
theorem tN : (bD prog 106).map (·.size) = some 6 := by kernel_rfl
theorem Eu : bD prog 106 = some [(iQ 0), (iQ 0), (iQ 0), (nQ), (nQ), (iQ 0)].toArray := by kernel_rfl
theorem AH : aH prog 106 0 = some 0 := by kernel_rfl
theorem AG : aH prog 106 1 = some 1 := by kernel_rfl
theorem xk : prog.underlying 110 = some (.slice 4) := by kernel_rfl
theorem vu : iG prog 110 = true := by kernel_rfl
theorem eA : iG prog 111 = true := by kernel_rfl
theorem qt : prog.underlying 112 = some (.array 5 3) := by kernel_rfl
theorem L6 : g6 prog 112 5 = true := by kernel_rfl
theorem jm : prog.underlying 113 = some (.slice 374) := by kernel_rfl
theorem ew : iG prog 113 = true := by kernel_rfl
theorem FR : aH prog 115 0 = some 0 := by kernel_rfl
theorem FQ : aH prog 115 1 = some 1 := by kernel_rfl
theorem FP : aH prog 115 2 = some 2 := by kernel_rfl
theorem FN : aH prog 115 3 = some 3 := by kernel_rfl
theorem FM : aH prog 115 4 = some 4 := by kernel_rfl
theorem FL : aH prog 115 5 = some 9 := by kernel_rfl
theorem FK : aH prog 115 6 = some 10 := by kernel_rfl
theorem fa : prog.underlying 147 = some (.map 3 3) := by kernel_rfl
theorem jl : iG prog 147 = true := by kernel_rfl
theorem K8 : bD prog 147 = some [(.map none)].toArray := by kernel_rfl
theorem kf : prog.underlying 148 = some (.pointer 152) := by kernel_rfl
theorem BO : iG prog 148 = true := by kernel_rfl
theorem Er : bD prog 148 = some [(.pointer none)].toArray := by kernel_rfl
theorem DC : aH prog 152 0 = some 0 := by kernel_rfl
theorem cw : g6 prog 155 3 = true := by kernel_rfl
theorem pR : bD prog 155 = some [(iQ 0), (iQ 0), (iQ 0)].toArray := by kernel_rfl
theorem ry : aH prog 155 0 = some 0 := by kernel_rfl
theorem ru : aH prog 155 1 = some 1 := by kernel_rfl
theorem HG : aH prog 155 2 = some 2 := by kernel_rfl
theorem FV : aH prog 157 0 = some 0 := by kernel_rfl
theorem FU : aH prog 157 1 = some 1 := by kernel_rfl
theorem FT : aH prog 157 2 = some 7 := by kernel_rfl
theorem iP : prog.underlying 160 = some (.map 163 3) := by kernel_rfl
theorem dO : prog.underlying 161 = some (.slice 163) := by kernel_rfl
theorem g3 : (prog.info? 163).map (·.size) = some 2 := by kernel_rfl
theorem EH : ((prog.info? 163).map (·.size)).isSome = true := by kernel_rfl
theorem ny : (prog.info? 163).map (·.bytes) = some 16 := by kernel_rfl
theorem iX : g6 prog 163 2 = true := by kernel_rfl
theorem ji : (bD prog 163).map (·.size) = some 2 := by kernel_rfl
theorem JH : bD prog 163 = some [(iQ 0), (iQ 0)].toArray := by kernel_rfl
theorem DE : aH prog 163 0 = some 0 := by kernel_rfl
theorem DD : aH prog 163 1 = some 1 := by kernel_rfl
theorem iO : prog.underlying 188 = some (.map 3 246) := by kernel_rfl
theorem gV : iG prog 188 = true := by kernel_rfl
theorem FZ : aH prog 191 0 = some 0 := by kernel_rfl
theorem FY : aH prog 191 1 = some 1 := by kernel_rfl
theorem FX : aH prog 191 3 = some 3 := by kernel_rfl
theorem FW : aH prog 191 4 = some 4 := by kernel_rfl
theorem bf : (prog.info? 198).map (·.size) = some 4 := by kernel_rfl
theorem JQ : ((prog.info? 198).map (·.size)).isSome = true := by kernel_rfl
theorem ot : (prog.info? 198).map (·.bytes) = some 64 := by kernel_rfl
theorem aD : g6 prog 198 4 = true := by kernel_rfl
theorem eX : (bD prog 198).map (·.size) = some 4 := by kernel_rfl
theorem eM : bD prog 198 = some [(nQ), (nQ), (iQ 0), (iQ 0)].toArray := by kernel_rfl
theorem dv : aH prog 198 0 = some 0 := by kernel_rfl
theorem ym : aH prog 198 1 = some 1 := by kernel_rfl
theorem kZ : aH prog 198 2 = some 2 := by kernel_rfl
theorem HO : aH prog 198 3 = some 3 := by kernel_rfl
theorem DB : aH prog 200 0 = some 0 := by kernel_rfl
theorem DA : aH prog 200 1 = some 1 := by kernel_rfl
theorem Dz : aH prog 200 2 = some 4 := by kernel_rfl
theorem AD : aH prog 211 0 = some 0 := by kernel_rfl
theorem AB : aH prog 211 1 = some 1 := by kernel_rfl
theorem AA : aH prog 211 2 = some 2 := by kernel_rfl
theorem p4 : iG prog 215 = true := by kernel_rfl
theorem pE : prog.underlying 246 = some (.array 512 5) := by kernel_rfl
theorem iY : g6 prog 246 512 = true := by kernel_rfl
theorem zR : bD prog 246 = some (rep 512 (Value.int .u8 0)).toArray := by kernel_rfl
theorem x7 : (prog.info? 246).bind (·.zero) = some (gQ (rep 512 (Value.int .u8 0))) := by kernel_rfl
theorem fp : iG prog 272 = true := by kernel_rfl
theorem du : prog.underlying 275 = some (.int .u64) := by kernel_rfl
theorem E7 : iG prog 275 = true := by kernel_rfl
theorem SG : bD prog 275 = some [(.int .u64 0)].toArray := by kernel_rfl
theorem mC : prog.underlying 282 = some (.slice 359) := by kernel_rfl
theorem gm : iG prog 282 = true := by kernel_rfl
theorem sT : (prog.info? 284).map (·.size) = some 2 := by kernel_rfl
theorem Hv : ((prog.info? 284).map (·.size)).isSome = true := by kernel_rfl
theorem KJ : (prog.info? 284).map (·.bytes) = some 32 := by kernel_rfl
theorem lY : g6 prog 284 2 = true := by kernel_rfl
theorem zP : (bD prog 284).map (·.size) = some 2 := by kernel_rfl
theorem K7 : bD prog 284 = some [(iQ 0), (nQ)].toArray := by kernel_rfl
theorem FJ : aH prog 284 0 = some 0 := by kernel_rfl
theorem FI : aH prog 284 1 = some 1 := by kernel_rfl
theorem aU : iG prog 338 = true := by kernel_rfl
theorem Bm : prog.underlying 342 = some (.int .u16) := by kernel_rfl
theorem E8 : iG prog 342 = true := by kernel_rfl
theorem SI : bD prog 342 = some [(.int .u16 0)].toArray := by kernel_rfl
theorem aax : prog.underlying 347 = some (.int .u64) := by kernel_rfl
theorem sS : (prog.info? 359).map (·.size) = some 7 := by kernel_rfl
theorem KI : (prog.info? 359).map (·.bytes) = some 88 := by kernel_rfl
theorem vD : g6 prog 359 7 = true := by kernel_rfl
theorem zO : (bD prog 359).map (·.size) = some 7 := by kernel_rfl
theorem K6 : bD prog 359 = some [(iQ 0), (iQ 0), (iQ 0), (nQ), (nQ), (iQ 0), (.bool false)].toArray := by kernel_rfl
theorem FH : aH prog 359 0 = some 0 := by kernel_rfl
theorem FG : aH prog 359 1 = some 1 := by kernel_rfl
theorem FF : aH prog 359 2 = some 6 := by kernel_rfl
theorem u5 : (prog.info? 374).map (·.size) = some 1 := by kernel_rfl
theorem JP : ((prog.info? 374).map (·.size)).isSome = true := by kernel_rfl
theorem M1 : (prog.info? 374).map (·.bytes) = some 8 := by kernel_rfl
theorem CI : (bD prog 374).map (·.size) = some 1 := by kernel_rfl
theorem yl : aH prog 374 0 = some 0 := by kernel_rfl
theorem aR : prog.underlying 375 = some (.slice 379) := by kernel_rfl
theorem lj : (prog.info? 375).map (·.size) = some 1 := by kernel_rfl
theorem c9 : iG prog 375 = true := by kernel_rfl
theorem zQ : bD prog 375 = some [(nQ)].toArray := by kernel_rfl
theorem AE : aH prog 377 0 = some 0 := by kernel_rfl
theorem bZ : (prog.info? 379).map (·.size) = some 2 := by kernel_rfl
theorem rM : ((prog.info? 379).map (·.size)).isSome = true := by kernel_rfl
theorem fO : (prog.info? 379).map (·.bytes) = some 16 := by kernel_rfl
theorem bA : g6 prog 379 2 = true := by kernel_rfl
theorem cX : (bD prog 379).map (·.size) = some 2 := by kernel_rfl
theorem gu : bD prog 379 = some [(iQ 0), (iQ 0)].toArray := by kernel_rfl
theorem qS : aH prog 379 0 = some 0 := by kernel_rfl
theorem AF : aH prog 379 1 = some 1 := by kernel_rfl
theorem q8 : prog.underlying 380 = some (.int .u64) := by kernel_rfl
theorem f' : iG prog 380 = true := by kernel_rfl
theorem CM : bD prog 380 = some [(.int .u64 0)].toArray := by kernel_rfl
theorem BR : g6 prog 392 3 = true := by kernel_rfl
theorem Hs : bD prog 392 = some [(nQ), (iQ 0), (.bool false)].toArray := by kernel_rfl
theorem Ci : aH prog 392 0 = some 0 := by kernel_rfl
theorem Ch : aH prog 392 1 = some 1 := by kernel_rfl
theorem Cg : aH prog 392 2 = some 2 := by kernel_rfl
theorem Ca : aH prog 399 0 = some 0 := by kernel_rfl
theorem B' : aH prog 399 1 = some 1 := by kernel_rfl
theorem gr : prog.underlying 419 = some (.slice 102) := by kernel_rfl
theorem kH : iG prog 425 = true := by kernel_rfl
theorem fF : prog.underlying 426 = some (.slice 375) := by kernel_rfl
theorem Bn : prog.underlying 430 = some (.array 16 75) := by kernel_rfl
theorem oH : g6 prog 430 16 = true := by kernel_rfl
theorem zS : bD prog 430 = some [(.int .u32 0), (.int .u32 0), (.int .u32 0), (.int .u32 0), (.int .u32 0), (.int .u32 0), (.int .u32 0), (.int .u32 0), (.int .u32 0), (.int .u32 0), (.int .u32 0), (.int .u32 0), (.int .u32 0), (.int .u32 0), (.int .u32 0), (.int .u32 0)].toArray := by kernel_rfl
theorem DZ : ai prog 7 := cK func7
theorem jZ : ai prog 10 := cK func10
theorem my : ai prog 11 := cK func11
theorem j6 : ai prog 14 := cK func14
theorem nh : ai prog 15 := cK func15
theorem Ib : ai prog 17 := cK func17
theorem xY : ai prog 20 := cK func20
theorem wK : ai prog 21 := cK func21
theorem yE : ai prog 22 := cK func22
theorem Bg : ai prog 23 := cK func23
theorem GM : ai prog 24 := cK func24
theorem Bf : ai prog 25 := cK func25
theorem De : ai prog 35 := cK func35
theorem Gz : ai prog 37 := cK func37
theorem k6 : ai prog 39 := cK func39
theorem Gy : ai prog 40 := cK func40
theorem H' : ai prog 41 := cK func41
theorem D2 : ai prog 42 := cK func42
theorem rE : ai prog 43 := cK func43
theorem cE : ai prog 44 := cK func44
theorem zy : ai prog 50 := cK func50
theorem KF : ai prog 51 := cK func51
theorem wE : ai prog 54 := cK func54
theorem Gw : ai prog 56 := cK func56
theorem Io : ai prog 57 := cK func57
theorem wM : ai prog 58 := cK func58
theorem oh : ai prog 59 := cK func59
theorem zC : ai prog 60 := cK func60
theorem Il : ai prog 61 := cK func61
theorem wN : ai prog 62 := cK func62
theorem yF : ai prog 63 := cK func63
theorem mS : ai prog 64 := cK func64
theorem zD : ai prog 65 := cK func65
theorem uN : ai prog 66 := cK func66
theorem lR : ai prog 67 := cK func67
theorem xU : ai prog 68 := cK func68
theorem GH : ai prog 69 := cK func69
theorem GI : ai prog 70 := cK func70
theorem GG : ai prog 71 := cK func71
theorem dx : ai prog 72 := cK func72
theorem fT : ai prog 82 := cK func82
theorem KE : ai prog 86 := cK func86
theorem gX : ai prog 87 := cK func87
theorem yC : ai prog 88 := cK func88
theorem n9 : ai prog 89 := cK func89
theorem GN : ai prog 90 := cK func90
theorem zA : ai prog 91 := cK func91
theorem tK : ai prog 92 := cK func92
theorem zz : ai prog 93 := cK func93
theorem Ij : ai prog 95 := cK func95
theorem j5 : ai prog 96 := cK func96
theorem iq : ai prog 97 := cK func97
theorem mQ : ai prog 98 := cK func98
theorem H9 : ai prog 99 := cK func99
theorem mv : ai prog 100 := cK func100
theorem KG : ai prog 101 := cK func101
theorem Bc : ai prog 102 := cK func102
theorem wI : ai prog 108 := cK func108
theorem yD : ai prog 109 := cK func109
theorem iL : ai prog 113 := cK func113
theorem Bd : ai prog 115 := cK func115
theorem tE : ai prog 116 := cK func116
theorem nY : ai prog 117 := cK func117
theorem wJ : ai prog 119 := cK func119
theorem Gx : ai prog 120 := cK func120
theorem yG : ai prog 121 := cK func121
theorem Im : ai prog 122 := cK func122
theorem zE : ai prog 123 := cK func123
theorem DU : ai prog 124 := cK func124
theorem zG : ai prog 125 := cK func125
theorem wG : ai prog 126 := cK func126
theorem qm : ai prog 127 := cK func127
theorem D0 : ai prog 128 := cK func128
theorem wL : ai prog 133 := cK func133
theorem ph : ai prog 134 := cK func134
theorem GO : ai prog 135 := cK func135
theorem uf : ai prog 136 := cK func136
theorem nv : ai prog 137 := cK func137
theorem tJ : ai prog 138 := cK func138
theorem sy : ai prog 139 := cK func139
theorem k7 : ai prog 140 := cK func140
theorem DW : ai prog 141 := cK func141
theorem o8 : ai prog 142 := cK func142
theorem Ia : ai prog 159 := cK func159
theorem oO : ai prog 160 := cK func160
theorem nZ : ai prog 161 := cK func161
theorem gO : ai prog 162 := cK func162
theorem sE : ai prog 163 := cK func163
theorem gY : ai prog 164 := cK func164
theorem ug : ai prog 165 := cK func165
theorem gD : ai prog 166 := cK func166
theorem Cx : ai prog 167 := cK func167
theorem Cy : ai prog 168 := cK func168
theorem xV : ai prog 169 := cK func169
theorem xW : ai prog 170 := cK func170
theorem tH : ai prog 172 := cK func172
theorem tI : ai prog 173 := cK func173
theorem cI : ai prog 174 := cK func174
theorem Ik : ai prog 175 := cK func175
theorem dZ : ai prog 176 := cK func176
theorem lg : ai prog 177 := cK func177
theorem lC : ai prog 178 := cK func178
theorem dN : ai prog 179 := cK func179
theorem mr : ai prog 180 := cK func180
theorem uL : ai prog 181 := cK func181
theorem yB : ai prog 182 := cK func182
theorem DT : ai prog 183 := cK func183
theorem lE : ai prog 184 := cK func184
theorem mu : ai prog 194 := cK func194
theorem ql : ai prog 197 := cK func197
theorem lF : ai prog 204 := cK func204
theorem mw : ai prog 205 := cK func205
theorem q4 : ai prog 206 := cK func206
theorem nX : ai prog 207 := cK func207
theorem Cw : ai prog 209 := cK func209
theorem oe : ai prog 210 := cK func210
theorem Cu : ai prog 211 := cK func211
theorem DS : ai prog 212 := cK func212
theorem tG : ai prog 213 := cK func213
theorem fz : ai prog 214 := cK func214
theorem Ie : ai prog 215 := cK func215
theorem Ic : ai prog 216 := cK func216
theorem wF : ai prog 217 := cK func217
theorem DX : ai prog 218 := cK func218
theorem GB : ai prog 222 := cK func222
theorem GA : ai prog 223 := cK func223
theorem zF : ai prog 224 := cK func224
theorem KH : ai prog 225 := cK func225
theorem D3 : ai prog 226 := cK func226
theorem kS : ai prog 227 := cK func227
theorem qi : ai prog 228 := cK func228
theorem GD : ai prog 229 := cK func229
theorem zx : ai prog 230 := cK func230
theorem xS : ai prog 231 := cK func231
theorem MZ : ai prog 232 := cK func232
theorem xT : ai prog 233 := cK func233
theorem uH : ai prog 234 := cK func234
theorem xR : ai prog 235 := cK func235
theorem oN : ai prog 236 := cK func236
theorem n' : ai prog 237 := cK func237
theorem Be : ai prog 238 := cK func238
theorem zB : ai prog 247 := cK func247
theorem jC : ai prog 248 := cK func248
theorem tD : ai prog 249 := cK func249
theorem o9 : ai prog 250 := cK func250
theorem kT : ai prog 251 := cK func251
theorem qk : ai prog 252 := cK func252
theorem nw : ai prog 253 := cK func253
theorem o6 : ai prog 254 := cK func254
theorem sw : ai prog 255 := cK func255
theorem o7 : ai prog 256 := cK func256
theorem yA : ai prog 258 := cK func258
theorem eT : ai prog 259 := cK func259
theorem Ig : ai prog 260 := cK func260
theorem rD : ai prog 263 := cK func263
theorem uM : ai prog 264 := cK func264
theorem qj : ai prog 270 := cK func270
theorem xX : ai prog 271 := cK func271
theorem nW : ai prog 272 := cK func272
theorem uO : ai prog 273 := cK func273
theorem q3 : ai prog 274 := cK func274
theorem iw : ai prog 275 := cK func275
theorem kE : ai prog 276 := cK func276
theorem GF : ai prog 277 := cK func277
theorem wH : ai prog 278 := cK func278
theorem bN : ai prog 279 := cK func279
theorem jt : ai prog 280 := cK func280
theorem uP : ai prog 281 := cK func281
theorem mR : ai prog 282 := cK func282
theorem x4 : ai prog 283 := cK func283
theorem wB : ai prog 284 := cK func284
theorem uJ : ai prog 285 := cK func285
theorem fE : ai prog 286 := cK func286
theorem uE : ai prog 287 := cK func287
theorem OY : ai prog 288 := cK func288
theorem xQ : ai prog 289 := cK func289
theorem wD : ai prog 290 := cK func290
theorem wy : ai prog 291 := cK func291
theorem wA : ai prog 292 := cK func292
theorem uI : ai prog 293 := cK func293
theorem uD : ai prog 294 := cK func294
theorem wC : ai prog 295 := cK func295
theorem uK : ai prog 296 := cK func296
theorem uF : ai prog 297 := cK func297
theorem Bb : ai prog 298 := cK func298
theorem su : ai prog 299 := cK func299
theorem nu : ai prog 300 := cK func300
theorem k5 : ai prog 301 := cK func301
theorem xZ : ai prog 311 := cK func311
theorem jg : ai prog 314 := cK func314
theorem sD : ai prog 315 := cK func315
theorem GK : ai prog 316 := cK func316
theorem GL : ai prog 317 := cK func317
theorem sC : ai prog 326 := cK func326
theorem sA : ai prog 327 := cK func327
theorem lO : ai prog 328 := cK func328
theorem jf : ai prog 329 := cK func329
theorem jD : ai prog 330 := cK func330
theorem Ih : ai prog 331 := cK func331
theorem og : ai prog 332 := cK func332
theorem tA : ai prog 333 := cK func333
theorem GC : ai prog 334 := cK func334
theorem uG : ai prog 335 := cK func335
theorem tz : ai prog 336 := cK func336
theorem tC : ai prog 337 := cK func337
theorem o5 : ai prog 338 := cK func338
theorem GJ : ai prog 346 := cK func346
theorem DY : ai prog 347 := cK func347
theorem kJ : ai prog 350 := cK func350
theorem Ii : ai prog 351 := cK func351
theorem Cv : ai prog 353 := cK func353
theorem DV : ai prog 355 := cK func355
instance fI5 : FO prog 38 0 0 := ⟨Ce⟩
instance fI6 : FO prog 38 1 1 := ⟨Cd⟩
instance fI7 : FO prog 38 2 2 := ⟨Cc⟩
instance fI8 : FO prog 38 3 3 := ⟨Cb⟩
instance fI9 : FO prog 40 0 0 := ⟨DM⟩
instance afg : FO prog 40 1 1 := ⟨DL⟩
instance aff : FO prog 40 2 2 := ⟨DK⟩
instance afe : FO prog 40 3 3 := ⟨DJ⟩
instance afd : FO prog 40 4 4 := ⟨DI⟩
instance afc : FO prog 40 5 5 := ⟨DH⟩
instance afb : FO prog 40 6 6 := ⟨DG⟩
instance afa : FO prog 40 7 7 := ⟨DF⟩
instance ae9 : FO prog 62 0 0 := ⟨gg⟩
instance ae8 : FO prog 62 1 1 := ⟨kY⟩
instance ae7 : FO prog 62 2 2 := ⟨nq⟩
instance ae6 : FO prog 64 0 0 := ⟨F4⟩
instance ae5 : FO prog 64 1 1 := ⟨F3⟩
instance ae4 : FO prog 64 2 2 := ⟨F2⟩
instance ae3 : FO prog 66 0 0 := ⟨HI⟩
instance ae2 : FO prog 66 1 1 := ⟨HH⟩
instance ae1 : FO prog 69 0 0 := ⟨HF⟩
instance ae0 : FO prog 69 1 1 := ⟨HE⟩
instance aeZ : FO prog 72 0 0 := ⟨oK⟩
instance aeY : FO prog 72 1 1 := ⟨tZ⟩
instance aeX : FO prog 72 2 2 := ⟨tY⟩
instance aeW : FO prog 74 0 0 := ⟨mg⟩
instance aeV : FO prog 74 1 1 := ⟨vM⟩
instance aeU : FO prog 74 2 4 := ⟨F1⟩
instance aeT : FO prog 74 3 5 := ⟨F0⟩
instance aeS : FO prog 77 0 0 := ⟨tg⟩
instance aeR : FO prog 77 1 1 := ⟨te⟩
instance aeQ : FO prog 77 2 2 := ⟨td⟩
instance aeP : FO prog 104 0 0 := ⟨HN⟩
instance aeO : FO prog 104 1 1 := ⟨HM⟩
instance aeN : FO prog 104 2 2 := ⟨HL⟩
instance aeM : FO prog 104 3 3 := ⟨HK⟩
instance aeL : FO prog 104 4 4 := ⟨HJ⟩
instance aeK : FO prog 106 0 0 := ⟨AH⟩
instance aeJ : FO prog 106 1 1 := ⟨AG⟩
instance aeI : FO prog 115 0 0 := ⟨FR⟩
instance aeH : FO prog 115 1 1 := ⟨FQ⟩
instance aeG : FO prog 115 2 2 := ⟨FP⟩
instance aeF : FO prog 115 3 3 := ⟨FN⟩
instance aeE : FO prog 115 4 4 := ⟨FM⟩
instance aeD : FO prog 115 5 9 := ⟨FL⟩
instance aeC : FO prog 115 6 10 := ⟨FK⟩
instance aeB : FO prog 152 0 0 := ⟨DC⟩
instance aeA : FO prog 155 0 0 := ⟨ry⟩
instance aez : FO prog 155 1 1 := ⟨ru⟩
instance aey : FO prog 155 2 2 := ⟨HG⟩
instance aex : FO prog 157 0 0 := ⟨FV⟩
instance aew : FO prog 157 1 1 := ⟨FU⟩
instance aev : FO prog 157 2 7 := ⟨FT⟩
instance aeu : FO prog 163 0 0 := ⟨DE⟩
instance aet : FO prog 163 1 1 := ⟨DD⟩
instance aes : FO prog 191 0 0 := ⟨FZ⟩
instance aer : FO prog 191 1 1 := ⟨FY⟩
instance aeq : FO prog 191 3 3 := ⟨FX⟩
instance aep : FO prog 191 4 4 := ⟨FW⟩
instance aeo : FO prog 198 0 0 := ⟨dv⟩
instance aen : FO prog 198 1 1 := ⟨ym⟩
instance aem : FO prog 198 2 2 := ⟨kZ⟩
instance ael : FO prog 198 3 3 := ⟨HO⟩
instance aek : FO prog 200 0 0 := ⟨DB⟩
instance aej : FO prog 200 1 1 := ⟨DA⟩
instance aei : FO prog 200 2 4 := ⟨Dz⟩
instance aeh : FO prog 211 0 0 := ⟨AD⟩
instance aeg : FO prog 211 1 1 := ⟨AB⟩
instance aef : FO prog 211 2 2 := ⟨AA⟩
instance adE : FO prog 284 0 0 := ⟨FJ⟩
instance adD : FO prog 284 1 1 := ⟨FI⟩
instance adC : FO prog 359 0 0 := ⟨FH⟩
instance adB : FO prog 359 1 1 := ⟨FG⟩
instance adA : FO prog 359 2 6 := ⟨FF⟩
instance adz : FO prog 374 0 0 := ⟨yl⟩
instance ady : FO prog 377 0 0 := ⟨AE⟩
instance adx : FO prog 379 0 0 := ⟨qS⟩
instance adw : FO prog 379 1 1 := ⟨AF⟩
instance adv : FO prog 392 0 0 := ⟨Ci⟩
instance adu : FO prog 392 1 1 := ⟨Ch⟩
instance adt : FO prog 392 2 2 := ⟨Cg⟩
instance ads : FO prog 399 0 0 := ⟨Ca⟩
instance adr : FO prog 399 1 1 := ⟨B'⟩
structure Wr (B : Prop) : Prop where
 h : B
theorem z1 {A B : Prop} (h : B) (f : Wr B -> A := by
 intro h
 first | refine aC ?_ | refine ju ?_ | refine cZ rfl ?_ | refine VN rfl rfl ?_ | refine abT rfl rfl ?_ | refine aaD rfl rfl rfl rfl rfl rfl ?_ | refine aaS rfl rfl ?_ | refine qJ rfl rfl rfl rfl ?_ | refine sO rfl rfl rfl rfl ?_ | refine aaT rfl rfl rfl ?_ | refine Bx rfl rfl ?_ | refine VN rfl rfl ?_ | refine rL ?_ | refine dS ?_ | refine VS ?_ | refine S0 rfl ?_ | refine VK rfl rfl rfl rfl rfl ?_ | refine BA rfl rfl rfl (by omega) ?_ | refine Bv rfl rfl rfl (by omega) ?_ | refine aaU rfl (by kernel_rfl) rfl rfl ?_ | refine aaU rfl (by kernel_rfl) rfl rfl ?_ | refine aaL rfl (by kernel_rfl) rfl rfl ?_ | refine aaL rfl (by kernel_rfl) rfl rfl ?_ | refine aaN rfl rfl rfl ?_ | refine aaP rfl rfl rfl ?_ | refine aaO rfl rfl rfl ?_ | refine aaQ rfl rfl rfl ?_ | refine aaN rfl rfl rfl ?_ | refine aaP rfl rfl rfl ?_ | refine aaO rfl rfl rfl ?_ | refine aaQ rfl rfl rfl ?_ | refine aaS rfl rfl ?_ | refine eJ rfl (by kernel_rfl) aI rfl ?_ | refine eJ rfl (by kernel_rfl) bp rfl ?_ | refine eJ rfl (by kernel_rfl) aJ rfl ?_ | refine eJ rfl (by kernel_rfl) aI rfl ?_
 exact h.h) : A := f ⟨h⟩
theorem z2 {A B : Prop} (h : B) (f : Wr B -> A := by
 intro h
 iterate 2 refine z1 ?_
 exact h.h) : A := f ⟨h⟩
theorem z3 {A B : Prop} (h : B) (f : Wr B -> A := by
 intro h
 iterate 3 refine z1 ?_
 exact h.h) : A := f ⟨h⟩
theorem z4 {A B : Prop} (h : B) (f : Wr B -> A := by
 intro h
 iterate 4 refine z1 ?_
 exact h.h) : A := f ⟨h⟩
theorem z5 {A B : Prop} (h : B) (f : Wr B -> A := by
 intro h
 iterate 5 refine z1 ?_
 exact h.h) : A := f ⟨h⟩
theorem z6 {A B : Prop} (h : B) (f : Wr B -> A := by
 intro h
 iterate 6 refine z1 ?_
 exact h.h) : A := f ⟨h⟩
theorem z7 {A B : Prop} (h : B) (f : Wr B -> A := by
 intro h
 iterate 7 refine z1 ?_
 exact h.h) : A := f ⟨h⟩
theorem z8 {A B : Prop} (h : B) (f : Wr B -> A := by
 intro h
 iterate 8 refine z1 ?_
 exact h.h) : A := f ⟨h⟩
theorem z9 {A B : Prop} (h : B) (f : Wr B -> A := by
 intro h
 iterate 9 refine z1 ?_
 exact h.h) : A := f ⟨h⟩
theorem mN {A B : Prop} (h : B) (f : Wr B -> A := by
 intro h
 iterate 10 refine z1 ?_
 exact h.h) : A := f ⟨h⟩
theorem Ht {A B : Prop} (h : B) (f : Wr B -> A := by
 intro h
 iterate 11 refine z1 ?_
 exact h.h) : A := f ⟨h⟩
theorem yb {A B : Prop} (h : B) (f : Wr B -> A := by
 intro h
 iterate 12 refine z1 ?_
 exact h.h) : A := f ⟨h⟩
theorem VI {A B : Prop} (h : B) (f : Wr B -> A := by
 intro h
 iterate 13 refine z1 ?_
 exact h.h) : A := f ⟨h⟩
theorem SM {A B : Prop} (h : B) (f : Wr B -> A := by
 intro h
 iterate 14 refine z1 ?_
 exact h.h) : A := f ⟨h⟩
theorem z15 {A B : Prop} (h : B) (f : Wr B -> A := by
 intro h
 iterate 15 refine z1 ?_
 exact h.h) : A := f ⟨h⟩
theorem z16 {A B : Prop} (h : B) (f : Wr B -> A := by
 intro h
 iterate 16 refine z1 ?_
 exact h.h) : A := f ⟨h⟩
theorem z17 {A B : Prop} (h : B) (f : Wr B -> A := by
 intro h
 iterate 17 refine z1 ?_
 exact h.h) : A := f ⟨h⟩
theorem z18 {A B : Prop} (h : B) (f : Wr B -> A := by
 intro h
 iterate 18 refine z1 ?_
 exact h.h) : A := f ⟨h⟩
theorem z19 {A B : Prop} (h : B) (f : Wr B -> A := by
 intro h
 iterate 19 refine z1 ?_
 exact h.h) : A := f ⟨h⟩
theorem z20 {A B : Prop} (h : B) (f : Wr B -> A := by
 intro h
 iterate 20 refine z1 ?_
 exact h.h) : A := f ⟨h⟩
theorem z21 {A B : Prop} (h : B) (f : Wr B -> A := by
 intro h
 iterate 21 refine z1 ?_
 exact h.h) : A := f ⟨h⟩
theorem z22 {A B : Prop} (h : B) (f : Wr B -> A := by
 intro h
 iterate 22 refine z1 ?_
 exact h.h) : A := f ⟨h⟩
theorem z23 {A B : Prop} (h : B) (f : Wr B -> A := by
 intro h
 iterate 23 refine z1 ?_
 exact h.h) : A := f ⟨h⟩
theorem z24 {A B : Prop} (h : B) (f : Wr B -> A := by
 intro h
 iterate 24 refine z1 ?_
 exact h.h) : A := f ⟨h⟩
theorem dC {p : Prop} (h : p := by first | exact (decide_eq_false (by omega)).symm | exact (decide_eq_true (by omega)).symm | exact cd.2 (by omega)) : p := h
def bv (b : UInt8) : Value := .int .u8 b.toNat
def cD (l : List UInt8) : List Value := l.map bv
theorem cN (l : List UInt8) : (cD l).length = l.length := by simp [cD]
theorem qn (l m : List UInt8) : cD (l ++ m) = cD l ++ cD m := by simp [cD]
theorem wO (l : List UInt8) (k : Nat) : cD (l.take k) = (cD l).take k := by simp [cD, List.map_take]
theorem M0 (l : List UInt8) (k : Nat) : cD (l.drop k) = (cD l).drop k := by simp [cD, List.map_drop]
theorem Qj {l : List UInt8} {k : Nat} (h : k < l.length) : (cD l)[k]? = some (bv (l.getD k 0)) := by simp [cD, h]
theorem ig (l : List UInt8) : iR (cD l) := fun u hu => by obtain ⟨b, _, rfl⟩ := dE.1 hu; rfl
theorem Wo (b : UInt8) : iR [bv b] := ig [b]
theorem eO {α : Type} (l : List α) (k : Nat) (d : α) (h : k < l.length) : l.take (k + 1) = l.take k ++ [l.getD k d] := by
 rw [List.take_succ_eq_append_getElem h]; simp [h]
def dP (v : Value) (l : List UInt8) (w : World) : Prop := ((∃ a, v = .slice a 0 0) /\ l = []) \/ ∃ b o cap, v = .slice (some ⟨b, o, none⟩) l.length cap /\ l.length <= cap /\ Rd w ⟨b, o, none⟩ (cD l)
theorem dP.cell {w : World} {b o : Nat} {l : List UInt8} (h : Rd w ⟨b, o, none⟩ (cD l)) {i : Int} (h0 : 0 <= i /\ i < l.length) : w.cell? ⟨b, o + i.toNat, none⟩ = some (bv (l.getD i.toNat 0)) := by
 have := h i.toNat _ (Qj oM); rwa [fX] at this
theorem Rd.jE {G : Gh} {L R : List aw} {w : World} {b T : Nat} {l : List Value} (hw : an G L w) (p : cG (ah b l T) L R) : Rd w ⟨b, 0, none⟩ l := by have := Rd.vw (o := 0) hw p; simpa using this
theorem dP.row {T : Nat} {v : Value} {l : List UInt8} : aG [row T 1 v l.length (cD l)] (dP v l) := fun g w hw => by
 obtain ⟨hl, h | ⟨b, cap, cur, rfl, h1, h2, h3, h4⟩⟩ := lX hw
 ·obtain ⟨rfl, _, h5, _⟩ := h;refine .inl ⟨⟨none, rfl⟩, ?_⟩;cases l with
  | nil => rfl
  | cons _ _ => simp [cD] at h5
 refine .inr ⟨b, 0, cap, rfl, h1, ?_⟩;have := (Rd.jE h4 .here).take (cD l).length
 simpa using this
section
variable {G : Gh} {L : List aw} {w : World} {v v' : Value} {l l' : List UInt8}
theorem zk (hw : an G L w) (kl : aG L (dP v l)) (hl : l.length <= 140737488355328) :
  Calls prog 68 #[v] w (bU fun v' w' => an G (row 5 1 v' l.length (cD l) :: L) w') := by
 obtain ⟨a, cap, rfl⟩ : ∃ a cap, v = .slice a l.length cap := by
  rcases kl.at hw with ⟨⟨a, rfl⟩, rfl⟩ | ⟨b, o, cap, rfl, _⟩
  ·exact ⟨a, 0, rfl⟩
  exact ⟨_, cap, rfl⟩
 refine ad (args := [_]) func68 rfl ntmps68 rfl rfl ?_;refine z8 ?_;refine CN rfl aI bh gB pj rfl rfl ⟨oM, oM⟩ oM oM hw rfl fun w b7 hw => ?_;refine z8 ?_;refine bF (fun m e w => ∃ (k : Nat) (u : Value), k <= l.length /\ m = l.length - k /\ e = [(0, .slice a l.length cap), (3, u), (4, iQ k)] /\ an G (row 5 1 u k (cD (l.take k)) :: L) w)
  (m := l.length) sB
  ⟨0, _, dy _, rfl, rfl, oE (xs := []) hw rfl (dy _) mL sM⟩ ?_
 rintro m e w ⟨k, u, hk, rfl, rfl, hw⟩;refine z8 ?_;refine aE rfl (fun h1 => ?_) fun h1 => ?_
 ·
  obtain ⟨b, o, rfl, hR⟩ : ∃ b o, a = some ⟨b, o, none⟩ /\ Rd w ⟨b, o, none⟩ (cD l) := by
   rcases (kl.cons _).at hw with ⟨⟨_, h⟩, rfl⟩ | ⟨b, o, cap, h, hR⟩
   ·simp at h1; omega
   cases h; exact ⟨b, o, rfl, hR.2⟩
  refine z7 ?_;refine cR rfl aI bh rfl rfl ⟨oM, oM⟩ ?_;refine bt rfl rfl (ar.one eC (dP.cell hR ⟨oM, oM⟩)) ?_;refine fG rfl aI bh fP dM rfl rfl rfl hw rfl fun w b19 hw => ?_;refine fH (m := k) (k := 1) rfl aI bh gB fP rfl rfl hw pK (Rd.jE hw pK) rfl (Wo _) mL oM rfl fun w v20 hw => ?_;refine z7 ?_;refine ⟨l.length - (k + 1), oM, [(0, _), (3, v20), (4, iQ (k + 1 : Nat))], sB, k + 1, v20, oM, rfl, rfl, ?_⟩;rw [eO l k 0 oM, qn];exact hw.drop (.there .here)
 have Ax : k = l.length := oM;subst Ax;refine z7 ?_;exact aK rfl rfl rfl (by rw [sX] at hw; exact hw)
theorem dP.at {b o n cap : Nat} {w : World} (h : dP (.slice (some ⟨b, o, none⟩) n cap) l w) {i : Int} (h0 : 0 <= i /\ i < l.length) : w.cell? ⟨b, o + i.toNat, none⟩ = some (bv (l.getD i.toNat 0)) := by
 rcases h with ⟨_, rfl⟩ | ⟨b', o', cap', h, hR⟩
 ·simp at h0; omega
 cases h; exact dP.cell hR.2 h0
theorem dP.form {w : World} (h : dP v l w) : ∃ a cap, v = .slice a l.length cap := by
 rcases h with ⟨⟨a, rfl⟩, rfl⟩ | ⟨b, o, cap, rfl, _⟩
 ·exact ⟨a, 0, rfl⟩
 exact ⟨_, cap, rfl⟩
theorem dP.nn {a : Option Addr} {n cap : Nat} {w : World} (h : dP (.slice a n cap) l w) (hn : 0 < l.length) : ∃ b o, a = some ⟨b, o, none⟩ := by
 rcases h with ⟨h, rfl⟩ | ⟨b, o, cap', h, _⟩
 ·simp at hn
 cases h; exact ⟨b, o, rfl⟩
def dI : List UInt8 -> List UInt8 -> Int
 | [], [] => 0
 | [], _ :: _ => -1
 | _ :: _, [] => 1
 | a :: x, b :: y => if a.toNat < b.toNat then -1 else if b.toNat < a.toNat then 1 else dI x y
theorem Eo : ∀ {l l' : List UInt8}, dI l l' = 0 ↔ l = l'
 | [], [] => by simp [dI]
 | [], _ :: _ => by simp [dI]
 | _ :: _, [] => by simp [dI]
 | a :: x, b :: y => by
  simp only [dI, List.cons.injEq]
  by_cases h : a.toNat < b.toNat
  ·have : a ≠ b := fun e => by subst e; omega
   simp [h, this]
  by_cases h2 : b.toNat < a.toNat
  ·have : a ≠ b := fun e => by subst e; omega
   simp [h, h2, this]
  have : a = b := UInt8.toNat_inj.1 oM;simp [h, h2, this, Eo]
theorem dP.rd {b o n cap : Nat} {w : World} (h : dP (.slice (some ⟨b, o, none⟩) n cap) l w) : Rd w ⟨b, o, none⟩ (cD l) := by
 rcases h with ⟨_, rfl⟩ | ⟨b', o', cap', h, hR⟩
 ·exact Rd.nil
 cases h; exact hR.2
theorem dP.rdd {b o n cap : Nat} {w : World} (h : dP (.slice (some ⟨b, o, none⟩) n cap) l w) (k : Nat) : Rd w ⟨b, o + k, none⟩ (cD (l.drop k)) := by rw [M0]; exact h.rd.drop k
theorem Hw {P : Program} {s c : TypeId} {m : Nat} {a b : List UInt8} (hs : P.underlying s = some (.array m c)) (hc : P.underlying c = some (.int .u8)) (hz : (P.info? c).map (·.size) = some 1) (hl : a.length = m) (Ke : b.length = m) (w : World) :
  (Op.equal s (gQ (cD a)) (gQ (cD b))).run P w = .ok (decide (a = b)) w := by
 have : ∀ q, (Op.equalIn (q + 2) s (gQ (cD a)) (gQ (cD b))).run P w = .ok (decide (a = b)) w := fun q => by
  obtain ⟨inf, hi, ed⟩ : ∃ inf, P.info? c = some inf /\ inf.size = 1 := by
   cases hi : P.info? c with
   | none => simp [hi] at hz
   | some inf => exact ⟨inf, rfl, by simpa [hi] using hz⟩
  rw [show q + 2 = (q + 1) + 1 from rfl];unfold Op.equalIn;simp only [Sem.run_bind, run_underlying hs, Result.andThen_ok, sizeOf, typeInfo, program, Sem.run, hi, ed, Sem.run_pure, EV];rw [Std.Legacy.Range.forIn_eq_forIn_range'];have Yu : ∀ (x : List UInt8) (j : Nat) (w : World), j < x.length -> (part c (cD x).toArray j).run P w = .ok (bv (x.getD j 0)) w := fun x j w hj => by
   have h1 := Qj hj;have acZ : KN P c = false := by unfold KN; rw [hc]
   simp [part, BF acZ (by rw [hc]; rfl), h1]
  have hf : ∀ i ∈ List.range' 0 m 1, ∀ w : World, (do
    let x <-part c (cD a).toArray i
    let y <-part c (cD b).toArray i
    let z <-Op.equalIn (q + 1) c x y
    if (!z) = true then pure (ForInStep.done (some false, ())) else pure (ForInStep.yield (none, ())) : Sem (ForInStep (Option Bool × Unit))).run P w =
     .ok (if a.getD i 0 = b.getD i 0 then .yield (none, ()) else .done (some false, ())) w := fun i hi w => by
   have tX : i < m := by simpa using hi
   have he : (Op.equalIn (q + 1) c (bv (a.getD i 0)) (bv (b.getD i 0))).run P w = .ok (decide (a.getD i 0 = b.getD i 0)) w := by
    rw [bv, bv, run_equalIn_int w q c .u8 .u8 _ _ hc]
    congr 1
    by_cases h : a.getD i 0 = b.getD i 0
    ·rw [h]; simp
    have : ¬ ((a.getD i 0).toNat : Int) = (b.getD i 0).toNat := fun hh => h (UInt8.toNat_inj.1 oM)
    rw [decide_eq_false h]; exact beq_eq_false_iff_ne.2 this
   simp only [Sem.run_bind, Yu a i w oM, Yu b i w oM, Result.andThen_ok, he]
   by_cases h : a.getD i 0 = b.getD i 0
   ·rw [ao h, decide_eq_true h]; rfl
   rw [aj h, decide_eq_false h]; rfl
  have fx : ∀ (l : List Nat) (w : World) (f : Nat -> Option Bool × Unit -> Sem (ForInStep (Option Bool × Unit))),
    (∀ i ∈ l, ∀ w : World, (f i (none, ())).run P w = .ok (if a.getD i 0 = b.getD i 0 then .yield (none, ()) else .done (some false, ())) w) →
    (forIn l ((none, ()) : Option Bool × Unit) f).run P w = .ok (if l.all (fun i => decide (a.getD i 0 = b.getD i 0)) then none else some false, ()) w := by
   intro l
   induction l with
   | nil => intro w f _; simp
   | cons i l ih =>
    intro w f h;simp only [List.forIn_cons, Sem.run_bind, h i (iD ..) w, Result.andThen_ok]
    by_cases hh : a.getD i 0 = b.getD i 0
    ·rw [ao hh];simp only [List.all_cons, decide_eq_true hh, Bool.true_and];exact ih w f (fun j hj => h j (jN _ hj))
    rw [aj hh];simp only [List.all_cons, decide_eq_false hh, Bool.false_and];rfl
  have hr := fx (List.range' 0 m 1) w (fun i _ => do
    let x <-part c (cD a).toArray i
    let y <-part c (cD b).toArray i
    let z <-Op.equalIn (q + 1) c x y
    if (!z) = true then pure (ForInStep.done (some false, ())) else pure (ForInStep.yield (none, ()))) hf
  have aci : (Std.Legacy.Range.size { start := 0, stop := m, step := 1, step_pos := by decide }) = m := by simp [Std.Legacy.Range.size]
  simp only [aci];refine (congrArg (fun r => Result.andThen r _) hr).trans ?_;have heq : (List.range' 0 m 1).all (fun i => decide (a.getD i 0 = b.getD i 0)) = decide (a = b) := by
   rw [Bool.eq_iff_iff];simp only [BL, decide_eq_true_eq]
   constructor
   ·intro h;apply Re oM;intro i h1 h2;have := h i (by simpa using (show i < m by omega))
    simpa [h1, h2] using this
   intro h i _; rw [h]
  rw [heq]
  by_cases h : a = b <;> simp [h]
 exact this 9998
theorem dP.cap {b o n cap : Nat} {w : World} (h : dP (.slice (some ⟨b, o, none⟩) n cap) l w) : l.length <= cap := by
 rcases h with ⟨_, rfl⟩ | ⟨b', o', cap', h, hR⟩
 ·simp
 cases h; exact hR.1
def qx (v : Value) (cs : List Value) (w : World) : Prop := ((∃ a, v = .slice a 0 0) /\ cs = []) \/ ∃ b o cap, v = .slice (some ⟨b, o, none⟩) cs.length cap /\ cs.length <= cap /\ Rd w ⟨b, o, none⟩ cs
theorem qx.form {cs : List Value} {w : World} (h : qx v cs w) : ∃ a cap, v = .slice a cs.length cap := by
 rcases h with ⟨⟨a, rfl⟩, rfl⟩ | ⟨b, o, cap, rfl, _⟩
 ·exact ⟨a, 0, rfl⟩
 exact ⟨_, cap, rfl⟩
theorem qx.nn {cs : List Value} {a : Option Addr} {n cap : Nat} {w : World} (h : qx (.slice a n cap) cs w) (hn : 0 < cs.length) : ∃ b o, a = some ⟨b, o, none⟩ := by
 rcases h with ⟨h, rfl⟩ | ⟨b, o, cap', h, _⟩
 ·simp at hn
 cases h; exact ⟨b, o, rfl⟩
theorem qx.at {cs : List Value} {b o n cap : Nat} {w : World} (h : qx (.slice (some ⟨b, o, none⟩) n cap) cs w) {i : Int} {u : Value} (hu : cs[i.toNat]? = some u) : w.cell? ⟨b, o + i.toNat, none⟩ = some u := by
 rcases h with ⟨_, rfl⟩ | ⟨b', o', cap', h, _, hR⟩
 ·simp at hu
 cases h; have := hR i.toNat u hu; rwa [fX] at this
theorem qx.row {T : Nat} {v : Value} {cs : List Value} : aG [row T 1 v cs.length cs] (qx v cs) := fun g w hw => by
 obtain ⟨hl, h | ⟨b, cap, cur, rfl, h1, h2, h3, h4⟩⟩ := lX hw
 ·obtain ⟨rfl, _, h5, _⟩ := h; exact .inl ⟨⟨none, rfl⟩, h5⟩
 refine .inr ⟨b, 0, cap, rfl, h1, ?_⟩;have := (Rd.jE h4 .here).take cs.length
 simpa using this
end
abbrev bW := List UInt8
theorem ve {L R : List aw} {T n : Nat} {v : Value} {l : bW} (hn : l.length = n) (q : cG (row T 1 v n (cD l)) L R) : aG L (dP v l) := by
 subst hn; exact (dP.row.head _).pick q
theorem Pu {T n : Nat} {v : Value} {cs : List Value} (h : cs.length = n) : aG [row T 1 v n cs] (qx v cs) := by subst h; exact qx.row
theorem Yf {L R : List aw} {T n : Nat} {v : Value} {cs : List Value} (hn : cs.length = n) (q : cG (row T 1 v n cs) L R) : aG L (qx v cs) := ((Pu hn).head _).pick q
theorem hY {G : Gh} {L : List aw} {w : World} {T : TypeId} {z m c : Nat} {A : Option Addr} {xs : List Value} (hw : an G (row T z (.slice A m c) m xs :: L) w) (hm : 0 < m) : xs.length = m * z ∧
  ∃ b cur, A = some ⟨b, 0, none⟩ /\ m <= c /\ c <= maxLen /\ (xs ++ cur).length = c * z /\ an G (ah b (xs ++ cur) T :: L) w := by
 obtain ⟨h, J'⟩ := lX hw;refine ⟨h, ?_⟩;rcases J' with ⟨_, h, _⟩ | ⟨b, cap', cur, h, h1, h2, h3, h4⟩
 ·omega
 cases h; exact ⟨b, cur, rfl, h1, h2, h3, h4⟩
theorem qo {M : List aw} {p : World -> Prop} (k : aG M p) : aG [aV M] p := fun g w h => k g w (by have := h.cF; rwa [pz] at this)
theorem an.Df {G : Gh} {R M : List aw} {A : aw} {w : World} (h : an G (aV (A :: M) :: R) w) : an G (A :: aV M :: R) w :=
 (an.cF h).mono (L := A :: (M ++ R)) fun h ha => gk (fun x hx => (iM M R x).2 hx) ha
theorem an.gp {G : Gh} {R M : List aw} {A : aw} {w : World} (h : an G (aV M :: A :: R) w) : an G (aV (M ++ [A]) :: R) w := an.bz (by rw [pZ]; exact h.cF)
theorem an.M7 {G : Gh} {R M N : List aw} {w : World} (h : an G (aV M :: aV N :: R) w) : an G (aV (M ++ N) :: R) w := by
 refine an.bz ?_;rw [pZ];have h1 := h.cF;exact h1.mono fun x hx => by
  have key : ∀ (M : List aw) (x : rH), all (M ++ aV N :: R) x -> all (M ++ (N ++ R)) x := fun M => by
   induction M with
   | nil => exact fun x hx => (iM N R x).1 hx
   | cons A M ih => exact fun x hx => gk ih hx
  exact key M x hx
def g7 (z : Nat) (v : Value) (rs : List (List Value)) (w : World) : Prop :=
 (∃ a, v = .slice a 0 0 /\ (∀ x, a = some x -> x.block = x.block) /\ rs = []) \/ ∃ b o cap, v = .slice (some ⟨b, o, none⟩) rs.length cap /\ rs.length <= cap /\ (∀ r ∈ rs, r.length = z) /\ Rd w ⟨b, o, none⟩ rs.flatten
theorem g7.form {z : Nat} {v : Value} {rs : List (List Value)} {w : World} (h : g7 z v rs w) : ∃ a cap, v = .slice a rs.length cap /\ rs.length <= cap /\ ∀ x, a = some x -> x.block = x.block := by
 rcases h with ⟨a, rfl, ha, rfl⟩ | ⟨b, o, cap, rfl, h1, _⟩
 ·exact ⟨a, 0, rfl, g8 _, ha⟩
 exact ⟨_, cap, rfl, h1, by rintro _ ⟨⟩; rfl⟩
theorem g7.nn {z : Nat} {a : Option Addr} {m cap : Nat} {rs : List (List Value)} {w : World} (h : g7 z (.slice a m cap) rs w) (hn : 0 < rs.length) : ∃ b o, a = some ⟨b, o, none⟩ := by
 rcases h with ⟨_, _, _, rfl⟩ | ⟨b, o, cap', h, _⟩
 ·simp at hn
 cases h; exact ⟨b, o, rfl⟩
theorem y9 {z : Nat} : ∀ {rs : List (List Value)} {k : Nat} {r : List Value}, (∀ r ∈ rs, r.length = z) -> rs[k]? = some r -> (rs.flatten.drop (k * z)).take z = r
 | x :: rs, 0, r, h, hx => by
  simp at hx; subst hx;have := h x (iD ..);simp [List.take_append, this]
 | x :: rs, k + 1, r, h, hx => by
  have h1 := h x (iD ..);have ih := y9 (rs := rs) (k := k) (fun y hy => h y (jN _ hy)) (by simpa using hx);rw [EY, List.drop_append, h1, vm (by rw [h1, BK]; omega), ie, show (k + 1) * z - z = k * z by rw [BK]; omega];exact ih
 | [], k, r, _, hx => by simp at hx
theorem g7.at {z b o m cap : Nat} {rs : List (List Value)} {w : World} (h : g7 z (.slice (some ⟨b, o, none⟩) m cap) rs w) {k : Nat} {r : List Value} (hr : rs[k]? = some r) : Rd w ⟨b, o + k * z, none⟩ r := by
 rcases h with ⟨_, _, _, rfl⟩ | ⟨b', o', cap', h, _, hl, hR⟩
 ·simp at hr
 cases h;have h1 := (hR.drop (k * z)).take z
 rwa [y9 hl hr] at h1
theorem g7.cell {z b o m cap : Nat} {rs : List (List Value)} {w : World} (h : g7 z (.slice (some ⟨b, o, none⟩) m cap) rs w) {k j : Nat} {r : List Value} {u : Value} (hr : rs[k]? = some r) (hu : r[j]? = some u) : w.cell? ⟨b, o + (k : Int).toNat * z + j, none⟩ = some u := by
 have := h.at hr j u hu
 rwa [fX] at this
theorem eu {z : Nat} : ∀ {rs : List (List Value)}, (∀ r ∈ rs, r.length = z) -> rs.flatten.length = rs.length * z
 | [], _ => by simp
 | x :: rs, h => by
  rw [EY, de, h x (iD ..), eu (fun y hy => h y (jN _ hy)), g5, BK]; omega
theorem g7.row {T z m : Nat} {v : Value} {rs : List (List Value)} (hm : rs.length = m) (hz : ∀ r ∈ rs, r.length = z) : aG [row T z v m rs.flatten] (g7 z v rs) := fun g w hw => by
 obtain ⟨hl, h | ⟨b, cap, cur, rfl, h1, h2, h3, h4⟩⟩ := lX hw
 ·obtain ⟨rfl, h5, _, _⟩ := h;exact .inl ⟨none, rfl, by simp, Ae oM⟩
 refine .inr ⟨b, 0, cap, by rw [hm], oM, hz, ?_⟩;have := (Rd.jE h4 .here).take rs.flatten.length
 simpa using this
structure It where
 key : bW
 value : bW
 child : Int
 size : Int
structure bO where
 it : It
 kv : Value
 vv : Value
def bO.cells (x : bO) : List Value := [x.kv, x.vv, iQ x.it.child, iQ x.it.size]
structure Pg where
 kind : Int
 level : Int
 items : List It
 data : bW
 next : Int
structure bT where
 kind : Int
 level : Int
 l : List bO
 s : Value
 d : Value
 data : bW
 next : Int
def bT.cells (p : bT) : List Value := [iQ p.kind, iQ p.level, p.s, p.d, iQ p.next]
def bT.pg (p : bT) : Pg := ⟨p.kind, p.level, p.l.map bO.it, p.data, p.next⟩
def bP (l : bW) : Prop := l.length <= 140737488355328
structure bO.Ok (L : List aw) (x : bO) : Prop where
 k : aG L (dP x.kv x.it.key)
 v : aG L (dP x.vv x.it.value)
 sk : bP x.it.key
 sv : bP x.it.value
structure kL (L : List aw) (s : Value) (l : List bO) : Prop where
 sl : aG L (g7 4 s (l.map bO.cells))
 it : ∀ x ∈ l, x.Ok L
 len : l.length <= 2199023255552
structure bT.Ok (L : List aw) (p : bT) : Prop where
 its : kL L p.s p.l
 data : aG L (dP p.d p.data)
 sd : bP p.data
theorem bO.Ok.of {L L' : List aw} {x : bO} (h : x.Ok L) (s : Sn L L') : x.Ok L' := ⟨h.k.of s, h.v.of s, h.sk, h.sv⟩
theorem kL.of {L L' : List aw} {s : Value} {l : List bO} (h : kL L s l) (q : Sn L L') : kL L' s l := ⟨h.sl.of q, fun x hx => (h.it x hx).of q, h.len⟩
theorem bT.Ok.of {L L' : List aw} {p : bT} (h : p.Ok L) (s : Sn L L') : p.Ok L' := ⟨h.its.of s, h.data.of s, h.sd⟩
theorem ln {L : List aw} {x : bO} {G : Gh} {w : World} (h : x.Ok L) (hw : an G L w) : iR x.cells := fun u hu => by
 obtain ⟨a, c, h1⟩ := (h.k.at hw).form;obtain ⟨a', c', h2⟩ := (h.v.at hw).form;simp only [bO.cells, h1, h2, bQ, dz, or_false] at hu;rcases hu with rfl | rfl | rfl | rfl <;> rfl
def bw (x : bO) : List aw := [row 5 1 x.kv x.it.key.length (cD x.it.key), row 5 1 x.vv x.it.value.length (cD x.it.value)]
def fV (p : bT) : List aw := [row 198 4 p.s p.l.length (p.l.map bO.cells).flatten, aV (p.l.flatMap bw), row 5 1 p.d p.data.length (cD p.data)]
def cB (p : bT) : aw := aV (fV p)
theorem Oq {x : bO} (h1 : bP x.it.key) (h2 : bP x.it.value) : x.Ok (bw x) := ⟨ve rfl .here, ve rfl (.there .here), h1, h2⟩
theorem aG.j7 {A : List aw} {M : List aw} {p : World -> Prop} (k : aG A p) : ∀ {B C : List aw}, M = B ++ (A ++ C) -> aG [aV M] p := fun {B C} h => qo fun g w hw => by
 subst h;have h1 : an g (A ++ C) w := by
  induction B with
  | nil => exact hw
  | cons X B ih => exact ih hw.tail
 have h3 := (an.bz (M := A) h1).head.cF;rw [pz] at h3;exact k g w h3
theorem Mc {l : List bO} (hs : ∀ x ∈ l, bP x.it.key /\ bP x.it.value) {x : bO} (hx : x ∈ l) : x.Ok [aV (l.flatMap bw)] := by
 obtain ⟨B, C, rfl⟩ := V6 hx;have h := Oq (x := x) (hs x hx).1 (hs x hx).2;have e : (B ++ x :: C).flatMap bw = B.flatMap bw ++ (bw x ++ C.flatMap bw) := by simp
 exact ⟨h.k.j7 e, h.v.j7 e, h.sk, h.sv⟩
structure bT.Sm (p : bT) : Prop where
 len : p.l.length <= 2199023255552
 it : ∀ x ∈ p.l, bP x.it.key /\ bP x.it.value
 sd : bP p.data
theorem aS {p : bT} (h : p.Sm) {L R : List aw} (hp : cG (cB p) L R) : p.Ok L := by
 have base : p.Ok [cB p] := by
  refine ⟨⟨qo ((g7.row sM (fun r hr => ?_)).head _), fun x hx => ?_, h.len⟩, qo ((ve rfl (.there (.there .here)))), h.sd⟩
  ·obtain ⟨x, -, rfl⟩ := dE.1 hr; rfl
  have h1 := Mc h.it hx;exact ⟨qo ((h1.k.head _).pick (.there .here)), qo ((h1.v.head _).pick (.there .here)), h1.sk, h1.sv⟩
 exact ⟨⟨(base.its.sl.head _).pick hp, fun x hx => ⟨((base.its.it x hx).k.head _).pick hp, ((base.its.it x hx).v.head _).pick hp, (base.its.it x hx).sk, (base.its.it x hx).sv⟩, h.len⟩, (base.data.head _).pick hp, h.sd⟩
section
variable {G : Gh} {L R : List aw} {w : World}
theorem dR {v : Value} {l : bW} (hw : an G L w) (ka : aG L (dP v l)) (nM : bP l) :
  Calls prog 179 #[v] w (bU fun r w' => an G (row 5 1 r l.length (cD l) :: L) w') := by
 unfold bP at nM;obtain ⟨a, cap, rfl⟩ := (ka.at hw).form;refine ad (args := [_]) func179 rfl ntmps179 rfl rfl ?_;refine z8 ?_;refine zV rfl aI rfl ?_;refine aC ?_;refine di rfl (fun h1 => ?_) fun h1 => ?_
 ·
  refine z5 ?_;exact aK rfl rfl rfl (by
 rcases ka.at hw with ⟨-, rfl⟩ | ⟨b, o, cap, h, -⟩
 ·exact bI hw _ _
 ·cases h; cases h1)
 obtain ⟨x, rfl⟩ : ∃ x, a = some x := by cases a with | none => cases h1 | some x => exact ⟨x, rfl⟩
 have qE : Rd w x (cD l) := by
  rcases ka.at hw with ⟨-, rfl⟩ | ⟨b, o, cap, h, -, hR⟩
  ·exact Rd.nil
  cases h; exact hR
 refine z3 ?_;refine Pj rfl aI bh hw rfl fun w b5 hw => ?_;have hw := gS (z := 1) (m := 0) hw rfl mL;have qE : Rd w x (cD l) := by
  rcases (ka.cons (row 5 1 (sQ b5 0 0) 0 [])).at hw with ⟨-, rfl⟩ | ⟨b, o, cap, h, -, hR⟩
  ·exact Rd.nil
  cases h; exact hR
 refine z1 ?_;refine fH (m := 0) (k := l.length) (news := cD l) rfl aI bh gB fP rfl rfl hw pK qE (by rw [cN]; omega) (ig _) mL oM rfl (fun w v7 hw => ?_);refine z3 ?_;exact aK rfl rfl rfl (by rw [pY, ie] at hw; exact hw)
end
theorem Mz {z : Nat} {rs : List (List Value)} {k : Nat} {r cur : List Value} (h : ∀ r ∈ rs, r.length = z) (hr : rs[k]? = some r) : ((rs.flatten ++ cur).drop (k * z)).take z = r := by
 have hk : k < rs.length := (xu.1 hr).1;have hl := eu h;have h1 := y9 h hr;have h2 : k * z + z <= rs.length * z := by rw [<-Nat.succ_mul]; exact Nat.mul_le_mul_right _ hk
 rw [List.drop_append_of_le_length oM, List.take_append_of_le_length (by rw [gT]; omega)];exact h1
theorem qT {z : Nat} : ∀ {rs : List (List Value)} {k j : Nat} {r cur : List Value} (v : Value), (∀ r ∈ rs, r.length = z) -> rs[k]? = some r -> j < z -> (rs.flatten ++ cur).set (k * z + j) v = (rs.set k (r.set j v)).flatten ++ cur
 | x :: rs, 0, j, r, cur, v, h, hr, hj => by
  simp at hr; subst hr;have h1 := h x (iD ..);rw [Nat.zero_mul, pY, EY, pZ, List.set_append_left _ _ oM];simp
 | x :: rs, k + 1, j, r, cur, v, h, hr, hj => by
  have h1 := h x (iD ..);have ih := qT (rs := rs) (k := k) (j := j) (cur := cur) v (fun y hy => h y (jN _ hy)) (by simpa using hr) hj;rw [EY, pZ, List.set_append_right _ _ (by rw [h1, BK]; omega), h1, show (k + 1) * z + j - z = k * z + j by rw [BK]; omega, ih];simp
 | [], k, j, r, cur, v, _, hr, _ => by simp at hr
theorem nt (m : List bO) : ∀ r ∈ m.map bO.cells, r.length = 4 := fun r hr => by obtain ⟨x, -, rfl⟩ := dE.1 hr; rfl
theorem On {m : List bO} {k : Nat} {x : bO} {cur : List Value} (h : m[k]? = some x) (v : Value) : ((m.map bO.cells).flatten ++ cur).set (0 + (k : Int).toNat * 4 + 0) v = ((m.set k ⟨x.it, v, x.vv⟩).map bO.cells).flatten ++ cur := by
 rw [ez, pY, qT (r := x.cells) v (nt m) (by rw [dg, h]; rfl) oM, LA]; rfl
theorem Om {m : List bO} {k : Nat} {x : bO} {cur : List Value} (h : m[k]? = some x) (v : Value) : ((m.map bO.cells).flatten ++ cur).set (0 + (k : Int).toNat * 4 + 1) v = ((m.set k ⟨x.it, x.kv, v⟩).map bO.cells).flatten ++ cur := by
 rw [ez, pY, qT (r := x.cells) v (nt m) (by rw [dg, h]; rfl) oM, LA]; rfl
theorem Ol {m : List bO} {k : Nat} {x : bO} {cur : List Value} (h : m[k]? = some x) (c : Int) : ((m.map bO.cells).flatten ++ cur).set (0 + (k : Int).toNat * 4 + 2) (iQ c) = ((m.set k ⟨⟨x.it.key, x.it.value, c, x.it.size⟩, x.kv, x.vv⟩).map bO.cells).flatten ++ cur := by
 rw [ez, pY, qT (r := x.cells) _ (nt m) (by rw [dg, h]; rfl) oM, LA]; rfl
theorem ng (m : List bO) (cur : List Value) : ((m.map bO.cells).flatten ++ cur).length = m.length * 4 + cur.length := by rw [de, eu (nt m), bX]
theorem Ot {k n j : Nat} (hk : k < n) (hj : j < 4) (c : Nat) : Nat.blt (0 + (k : Int).toNat * 4 + j) (n * 4 + c) = true := by rw [Nat.blt_eq, ez]; omega
theorem kL.ab4 {L : List aw} {s : Value} {l : List bO} (h : kL L s l) {G : Gh} {w : World} (hw : an G L w) : iR (l.map bO.cells).flatten := fun u hu => by
 obtain ⟨r, hr, hu⟩ := List.mem_flatten.1 hu;obtain ⟨x, hx, rfl⟩ := dE.1 hr;exact ln (h.it x hx) hw u hu
section
variable {G : Gh} {L R : List aw} {w : World}
theorem lQ {v : Value} {l : List bO} (hw : an G L w) (ka : kL L v l) :
  Calls prog 178 #[v] w (bU fun r w' => an G (row 198 4 r l.length (l.map bO.cells).flatten :: L) w') := by
 have SA := ka.len;obtain ⟨a, cap, rfl, -, -⟩ := (ka.sl.at hw).form;rw [bX] at ka ⊢;refine ad (args := [_]) func178 rfl ntmps178 rfl rfl ?_;refine z8 ?_;refine zV rfl aJ rfl ?_;refine aC ?_;refine di rfl (fun h1 => ?_) fun h1 => ?_
 ·
  refine z5 ?_;exact aK rfl rfl rfl (by
 rcases ka.sl.at hw with ⟨x, hx, -, h⟩ | ⟨b, o, cap, h, -⟩
 ·have hl : l = [] := by simpa using h
  subst hl;exact bI hw _ _
 ·injection h with h0; subst h0; cases h1)
 obtain ⟨x, rfl⟩ : ∃ x, a = some x := by cases a with | none => cases h1 | some x => exact ⟨x, rfl⟩
 refine z3 ?_;refine Pj rfl aJ bf hw rfl fun w b5 hw => ?_;have hw := gS (z := 4) (m := 0) hw rfl mL;have C7 := ka.of (L' := row 198 4 (sQ b5 0 0) 0 [] :: L) sF;have qE : Rd w x (l.map bO.cells).flatten := by
  rcases C7.sl.at hw with ⟨-, -, -, h⟩ | ⟨b, o, cap, h, -, -, hR⟩
  ·rw [h]; exact Rd.nil
  injection h with h0; cases h0; exact hR
 refine z1 ?_;refine fH (m := 0) (k := l.length) (news := (l.map bO.cells).flatten) rfl aJ bf ot eX rfl rfl hw pK qE (by rw [eu (nt l), bX]) (C7.ab4 hw) mL oM rfl fun w v7 hw => ?_;refine z3 ?_;exact aK rfl rfl rfl (by rw [pY, ie] at hw; exact hw)
theorem je {p : bT} (hw : an G L w) (hp : p.Ok L) :
  Calls prog 97 #[gQ p.cells] w (bU fun r w' => ∃ p' : bT, r = gQ p'.cells /\ p'.pg = p.pg /\ p'.Sm /\ an G (cB p' :: L) w') := by
 have SA := hp.its.len;have m8 := hp.its;have acO := hp.data;simp only [bT.cells];refine ad (args := [_]) func97 rfl ntmps97 rfl rfl ?_;refine z2 ?_;refine a9 rfl rfl rfl hw rfl fun w b1 hw => ?_;refine aF rfl bE hw rfl fun w b2 hw => ?_;refine z2 ?_;refine bd [0, 1, 3, 4, 2, 6, 5, 7, 8, 9] bJ kR ?_;replace hw := hw.drawn (w.drawn + 1);refine z1 ?_;refine lD az hw ?_;refine z1 ?_;refine lD au hw ?_;refine dJ rfl lC rfl (lQ (l := p.l) hw (m8.of sF)) (fun w v7 hv q' hq => ?_) fun w v7 hv => ?_
 ·
  have hw := hv;have hq := bm (l := [4]) kR hq;simp only [bQ, dz, or_false] at hq;subst hq;exact bx rfl rfl rfl (ar.bL au hw pK rfl)
 have hw := hv;refine z1 ?_;refine al rfl dN rfl (dR (l := p.data) hw (acO.of sF) hp.sd) kR fun w v10 hv => ?_;have hw : an G (row 5 1 v10 p.data.length (cD p.data) :: _) w := hv;obtain ⟨a7, c7, rfl⟩ := aP (hw.pick (A := row 198 4 v7 _ _) pK);obtain ⟨rG, uh, rfl⟩ := aP (hw.pick (A := row 5 1 v10 _ _) pK);refine bu (l' := [_, _, _, _, _]) rfl tV rfl rfl az rfl hw pK rfl rfl kR fun w hw => ?_;refine z1 ?_;refine bu (l' := [_, _, _, _, _]) rfl tV rfl rfl au rfl hw pK rfl rfl kR fun w hw => ?_;refine z5 ?_;refine lD az hw ?_;refine z4 ?_;have hw := an.bz (M := ([] : List bO).flatMap bw) hw;have hw := hw.b [row 198 4 _ _ _, aV _, row 5 1 _ _ _, ah b1 _ _, ah b2 _ _];refine bF (fun m e w => ∃ (k : Nat) (dn : List bO), k <= p.l.length /\ m = p.l.length - k /\ e = [(1, pQ b1), (2, pQ b2), (14, .slice a7 p.l.length c7), (15, iQ p.l.length), (16, iQ k)] /\ dn.length = k /\ dn.map bO.it = (p.l.take k).map bO.it /\ an G (row 198 4 (.slice a7 p.l.length c7) p.l.length ((dn ++ p.l.drop k).map bO.cells).flatten :: aV (dn.flatMap bw) :: row 5 1 (.slice rG p.data.length uh) p.data.length (cD p.data) :: ah b1 [iQ p.kind, iQ p.level, .slice a7 p.l.length c7, .slice rG p.data.length uh, iQ p.next] 104 :: ah b2 [iQ 0, iQ 0, nQ, nQ, iQ 0] 104 :: L) w)
  (m := p.l.length) sB
  ⟨0, [], dy _, rfl, rfl, rfl, rfl, hw⟩ ?_
 rintro m e w ⟨k, dn, hk, rfl, rfl, Vv, W0, hw⟩;refine z5 ?_;refine aE rfl (fun h1 => ?_) fun h1 => ?_
 ·
  have gK : k < p.l.length := oM;obtain ⟨x, hx⟩ : ∃ x, p.l[k]? = some x := ⟨_, dm gK⟩;have me := m8.it x (gl hx);have Bt := me.k;have Nr := me.v;have hdr : p.l.drop k = x :: p.l.drop (k + 1) := by
   rw [Wd gK]; congr 1;rw [dm gK] at hx; exact Option.some.inj hx
  obtain ⟨mm, hmm⟩ : ∃ mm, mm = dn ++ p.l.drop k := ⟨_, rfl⟩;have hmx : mm[k]? = some x := by rw [hmm, hdr, Ty oM, Vv, Nat.sub_self]; rfl
  have Kd : mm.length = p.l.length := by rw [hmm, de, gT]; omega
  rw [<-hmm] at hw;obtain ⟨Ej, b7, cur, rfl, hcc, Nx, gN, hw⟩ := hY hw oM;refine z6 ?_;refine eY rfl aJ bf rfl rfl ⟨oM, oM⟩ ?_;refine bt rfl rfl (ar.tL (cs := x.cells) aD hw pK (by rw [ez, pY]; exact Mz (nt mm) (by rw [dg, hmx]; rfl)) rfl) ?_;refine aF rfl eM hw rfl fun w b4 hw => ?_;refine z1 ?_;refine aT (cs := x.cells) (l' := x.cells) rfl tV rfl rfl aD rfl (ln (me.of sF) hw) hw pK sM rfl rfl fun w hw => ?_;simp only [bO.cells] at hw
  refine aC ?_;refine bd [0, 1, 2, 3, 4, 5, 6, 7, 9, 10, 8, 11, 12, 13, 14, 15, 16, 17] bJ kR ?_;replace hw := hw.drawn (w.drawn + 1);refine z1 ?_;refine lD az hw ?_;refine z2 ?_;refine lD az hw ?_;refine z2 ?_;refine lD au hw ?_;refine z1 ?_;refine lD au hw ?_;refine dJ rfl dN rfl (dR (l := x.it.key) hw (Bt.of sF) me.sk) (fun w VX hv q' hq => ?_) fun w VX hv => ?_
  ·
   have hw : an G (row 5 1 VX x.it.key.length (cD x.it.key) :: _) w := hv;have hq := bm (l := [10, 4, 1]) kR hq;simp only [bQ, dz, or_false] at hq;rcases hq with rfl | rfl | rfl
   ·exact bx rfl rfl rfl (ar.bL au hw pK rfl)
   ·exact bx rfl rfl rfl (ar.bL az hw pK rfl)
   exact bx rfl rfl rfl (ar.bL az hw pK rfl)
  have hw : an G (row 5 1 VX x.it.key.length (cD x.it.key) :: _) w := hv;refine dJ rfl dN rfl (dR (l := x.it.value) hw (Nr.of sF) me.sv) (fun w S7 hv q' hq => ?_) fun w S7 hv => ?_
  ·
   have hw : an G (row 5 1 S7 x.it.value.length (cD x.it.value) :: _) w := hv;have hq := bm (l := [4, 1]) kR hq;simp only [bQ, dz, or_false] at hq;rcases hq with rfl | rfl
   ·exact bx rfl rfl rfl (ar.bL az hw pK rfl)
   exact bx rfl rfl rfl (ar.bL az hw pK rfl)
  have hw : an G (row 5 1 S7 x.it.value.length (cD x.it.value) :: _) w := hv;obtain ⟨a29, c29, rfl⟩ := aP (hw.pick (A := row 5 1 VX _ _) pK);obtain ⟨XW, c32, rfl⟩ := aP (hw.pick (A := row 5 1 S7 _ _) pK);obtain ⟨x1, Jb⟩ : ∃ x1 : bO, x1 = ⟨x.it, .slice a29 x.it.key.length c29, x.vv⟩ := ⟨_, rfl⟩;obtain ⟨x2, hx2⟩ : ∃ x2 : bO, x2 = ⟨x.it, .slice a29 x.it.key.length c29, .slice XW x.it.value.length c32⟩ := ⟨_, rfl⟩;have C6 : (mm.set k x1)[k]? = some x1 := by rw [List.getElem?_set_self oM]
  have abw : ((List.map bO.cells mm).flatten ++ cur).length = p.l.length * 4 + cur.length := by rw [ng, Kd]
  have acL : ((List.map bO.cells (mm.set k x1)).flatten ++ cur).length = p.l.length * 4 + cur.length := by rw [ng, EX, Kd]
  refine eY rfl aJ bf rfl rfl ⟨oM, oM⟩ ?_;refine cS rfl dv rfl ?_;refine sN (l' := ((mm.set k x1).map bO.cells).flatten ++ cur) rfl tV rfl rfl au rfl hw pK (by rw [abw]; exact Ot gK oM _) (by rw [Jb]; exact On hmx _) (fun w hw q' hq => ?_) (fun w hw => ?_)
  ·
   have hq := bm (l := [4]) kR hq;simp only [bQ, dz, or_false] at hq;subst hq;exact bx rfl rfl rfl (ar.bL az hw pK rfl)
  refine eY rfl aJ bf rfl rfl ⟨oM, oM⟩ ?_;refine cS rfl ym rfl ?_;refine bu (l' := ((mm.set k x2).map bO.cells).flatten ++ cur) rfl tV rfl rfl au rfl hw pK (by rw [acL]; exact Ot gK oM _) (by rw [hx2, Om C6, List.set_set, Jb]) kR (fun w hw => ?_);refine z5 ?_;have Vq : mm.set k x2 = (dn ++ [x2]) ++ p.l.drop (k + 1) := by
   rw [hmm, hdr, List.set_append_right _ _ oM, Vv, Nat.sub_self, List.set_cons_zero, pZ]; rfl
  rw [Vq] at hw;have hw := oE (z := 4) (m := p.l.length) (hw.pick (A := ah b7 _ _) pK) (by rw [eu (nt _), bX, <-Vq, EX, Kd]) hcc Nx (by rw [de, eu (nt _), bX, <-Vq, EX, Kd]; rw [abw] at gN; exact gN);have hw := hw.b [aV _, row 5 1 (.slice a29 _ _) _ _, row 5 1 (.slice XW _ _) _ _];have hw := hw.gp.gp;have hdp : (dn ++ [x2]).flatMap bw = (dn.flatMap bw ++ [row 5 1 (.slice a29 x.it.key.length c29) x.it.key.length (cD x.it.key)]) ++ [row 5 1 (.slice XW x.it.value.length c32) x.it.value.length (cD x.it.value)] := by
   rw [LK, hx2]; simp [bw]
  rw [<-hdp] at hw;have hw := (hw.b [ah b4 _ _]).tail;refine ⟨p.l.length - (k + 1), oM, [(1, _), (2, _), (14, _), (15, _), (16, iQ (k + 1 : Nat))], sB, k + 1, dn ++ [x2], oM, rfl, rfl, by simp [Vv], ?_, hw.b [row 198 4 _ _ _, aV _, row 5 1 (.slice rG _ _) _ _, ah b1 _ _, ah b2 _ _]⟩;rw [kz, W0, Rf, hx, kz, hx2]; rfl
 have Jg : k = p.l.length := oM;subst Jg;rw [LD, pz] at hw;rw [sX] at W0
 refine z3 ?_;refine bt rfl rfl (ar.cU ae hw pK sM) ?_;refine aT (cs := [iQ p.kind, iQ p.level, .slice a7 p.l.length c7, .slice rG p.data.length uh, iQ p.next]) (l' := [iQ p.kind, iQ p.level, .slice a7 p.l.length c7, .slice rG p.data.length uh, iQ p.next]) rfl tV rfl rfl ae rfl (by intro u hu; simp at hu; rcases hu with rfl | rfl | rfl | rfl | rfl <;> rfl) hw pK sM rfl rfl (fun w hw => ?_);refine z2 ?_;exact aK rfl rfl ⟨_, rfl, (ar.cU ae hw pK sM)⟩ (by
 refine ⟨⟨p.kind, p.level, dn, .slice a7 p.l.length c7, .slice rG p.data.length uh, p.data, p.next⟩, rfl, by simp [bT.pg, W0], ⟨by simp only; omega, fun y hy => ?_, hp.sd⟩, ?_⟩
 ·have : y.it ∈ p.l.map bO.it := W0 ▸ List.mem_map_of_mem hy;obtain ⟨z, hz, hzy⟩ := dE.1 this;rw [<-hzy]; exact ⟨(m8.it z hz).sk, (m8.it z hz).sv⟩
 ·have hw := (hw.b [ah b1 _ _, ah b2 _ _]).tail.tail;refine an.bz (M := fV _) ?_;simp only [fV, Vv];exact hw.b [row 198 4 _ _ _, aV _, row 5 1 _ _ _])
end
section
variable {G : Gh} {L R : List aw} {w : World}
theorem im {v : Value} {l : bW} (hw : an G L w) (ka : aG L (dP v l)) (nM : bP l) :
  Calls prog 162 #[v] w (bU fun r w' => an G (row 5 1 r l.length (cD l) :: L) w') := by
 unfold bP at nM;obtain ⟨a, cap, rfl⟩ := (ka.at hw).form;refine ad (args := [_]) func162 rfl ntmps162 rfl rfl ?_;refine z8 ?_;refine zV rfl aI rfl ?_;refine aC ?_;refine di rfl (fun h1 => ?_) fun h1 => ?_
 ·
  refine z5 ?_;exact aK rfl rfl rfl (by
 rcases ka.at hw with ⟨-, rfl⟩ | ⟨b, o, cap, h, -⟩
 ·exact bI hw _ _
 ·cases h; cases h1)
 obtain ⟨x, rfl⟩ : ∃ x, a = some x := by cases a with | none => cases h1 | some x => exact ⟨x, rfl⟩
 refine z3 ?_;refine Pj rfl aI bh hw rfl fun w b5 hw => ?_;have hw := gS (z := 1) (m := 0) hw rfl mL;have qE : Rd w x (cD l) := by
  rcases (ka.cons (row 5 1 (sQ b5 0 0) 0 [])).at hw with ⟨-, rfl⟩ | ⟨b, o, cap, h, -, hR⟩
  ·exact Rd.nil
  cases h; exact hR
 refine z1 ?_;refine fH (m := 0) (k := l.length) (news := cD l) rfl aI bh gB fP rfl rfl hw pK qE (by rw [cN]; omega) (ig _) mL oM rfl (fun w v7 hw => ?_);refine z3 ?_;exact aK rfl rfl rfl (by rw [pY, ie] at hw; exact hw)
end
theorem Xt (l : bW) : (⟨l.toArray⟩ : ByteArray).size = l.length := rfl
theorem aar (l : bW) (i : Nat) : (⟨l.toArray⟩ : ByteArray)[i]! = l.getD i 0 := by
 by_cases h : i < l.length
 ·rw [getElem!_pos _ i (show i < (⟨l.toArray⟩ : ByteArray).size from h)]
  show l.toArray[i] = _
  simp [h]
 rw [getElem!_neg _ i (show ¬ i < (⟨l.toArray⟩ : ByteArray).size from h)];simp [Dp (Nat.le_of_not_lt h)];rfl
theorem aan : ∀ (a b : bW), Extern.BytealgCompare.cmp ⟨a.toArray⟩ ⟨b.toArray⟩ = dI a b := by
 intro a b;unfold Extern.BytealgCompare.cmp;simp only [Xt, aar]
 induction a generalizing b with
 | nil => cases b <;> simp [dI]
 | cons x a ih =>
  cases b with
  | nil => simp [dI]
  | cons y b =>
   have ih := ih b;simp only [g5];rw [show min (a.length + 1) (b.length + 1) = min a.length b.length + 1 by omega, List.range_succ_eq_map, NY]
   by_cases WI : x = y
   ·subst WI;have e1 : dI (x :: a) (x :: b) = dI a b := by simp [dI]
    rw [e1, <-ih];simp only [V8, bne_self_eq_false, List.find?_map, Function.comp_def, List.getD_cons_succ, Nat.succ_eq_add_one]
    generalize (List.range (min a.length b.length)).find? (fun i => a.getD i 0 != b.getD i 0) = r
    cases r with
    | none => simp
    | some i => simp
   have qF : ((x :: a).getD 0 0 != (y :: b).getD 0 0) = true := by simpa using WI
   simp only [qF, dI];simp only [V8];have hn : x.toNat ≠ y.toNat := fun h => WI (UInt8.toNat_inj.1 h)
   by_cases iy : x < y
   ·rw [ao iy, ao (UInt8.lt_iff_toNat_lt.1 iy)]
   have acB : ¬ x.toNat < y.toNat := fun h => iy (UInt8.lt_iff_toNat_lt.2 h)
   rw [aj iy, aj acB, ao oM]
theorem yf {P : Program} {w : World} : ∀ (l : bW) (b o : Nat) (acc : ByteArray), Rd w ⟨b, o, none⟩ (cD l) -> (Extern.Bytes.loadBytes ⟨b, o, none⟩ l.length acc).run P w = .ok ⟨acc.data ++ l.toArray⟩ w
 | [], b, o, acc, _ => by simp [Extern.Bytes.loadBytes]
 | u :: l, b, o, acc, h => by
  have h0 : w.cell? ⟨b, o, none⟩ = some (bv u) := by have := h 0 (bv u) rfl; rwa [fX] at this
  have h1 : Rd w ⟨b, o + 1, none⟩ (cD l) := by have := h.drop 1; simpa [cD] using this
  have hl : (Go.load ⟨b, o, none⟩).run P w = .ok (bv u) w := by simp [Go.load, Sem.run, h0]
  simp only [g5, Extern.Bytes.loadBytes, Sem.run_bind, hl, Result.andThen_ok, bv];rw [fX, yf l b (o + 1) _ h1];simp [ByteArray.push]
theorem CS {P : Program} {w : World} {v : Value} {l : bW} (h : dP v l w) : (Extern.Bytes.bytesOf v).run P w = .ok ⟨l.toArray⟩ w := by
 rcases h with ⟨⟨a, rfl⟩, rfl⟩ | ⟨b, o, cap, rfl, -, h⟩
 ·cases a with
  | none => rfl
  | some a => rfl
 simp only [Extern.Bytes.bytesOf];rw [yf l _ _ _ h]
 congr 1
 show (⟨(#[] : Array UInt8) ++ l.toArray⟩ : ByteArray) = _
 rw [V7]
section
variable {P : Program} {n : Nat} {ops : Array Oper} {dr : Bool} {done r : List Nat} {K : fm -> World -> Prop} {e : fm} {w : World} {i d : Nat} {t : TypeId} {p : String} {af : Array Edge} {g : Option (Nat × Bool)}
theorem zU {l l1 l2 : List Nat} (hl : l = l1 ++ l2) {d : Nat} (q : Prop) [Decidable q] (M : World -> Prop) (hf : Kh (OQ ops l1) e = true) (h1 : XL P n ops dr done l1 (fun e' w' => M w' /\ get e' d = some (.bool (decide q))) e w)
  (h2 : ∀ w, M w -> XL P n ops dr (l1.reverse ++ done) l2 K ((d, .bool (decide q)) :: e) w) : XL P n ops dr done l K e w := by
 subst hl;intro a ha;have h := h1 a ha;have key : ∀ (a' : Act) (w' : World), (∃ e', dh n e' a' /\ M w' /\ get e' d = some (.bool (decide q))) -> Kp (OQ ops l1) a a' -> dh n ((d, .bool (decide q)) :: e) a' /\ M w' := fun a' w' ⟨e', El, hw, hg⟩ hk => by
  refine ⟨⟨by rw [m3 (vL hg), hk.defers]; exact ha.defers, hk.size.trans ha.size, ha.small, fun t v hv => ?_⟩, hw⟩;rcases kX hv with ⟨rfl, rfl⟩ | ⟨_, hv⟩
  ·exact El.get _ _ hg
  rw [hk.same t (FD hf hv)]; exact ha.get t v hv
 have hS : ∀ i ∈ l1, ∀ o, ops[i]? = some o -> ∀ t, o.dst = some t -> (OQ ops l1).contains t = true := fun i hi o ho => ME hi ho
 cases dr
 ·exact O9 l1 l2 a w (xm (fun a' w' hx => by obtain ⟨h3, h4⟩ := key a' w' hx.1 hx.2; exact h2 w' h4 a' h3) _ _ _ (KQ _ _ _ hS h))
 exact O' l1 l2 done a w (Bo (fun a' w' hx => by obtain ⟨h3, h4⟩ := key a' w' hx.1 hx.2; exact h2 w' h4 a' h3) _ _ _ _ (KR _ _ _ _ hS h))
theorem aaX {f : FuncId} {x y : Operand} {ts : Array TypeId} {va vb : Value} {la lb : bW} (ho : ops[i]? = some ⟨some d, .call ⟨.value (.func f), #[x, y], ts⟩, t, p, af, g⟩)
  (h1 : (P.funcs[f]?).map (fun fn => fn.body.isNone) = some true) (h2 : (P.funcs[f]?).bind (fun fn => Extern.find fn) = some Extern.BytealgCompare.compare) (h3 : (P.funcs[f]?).map (fun fn => (Extern.findNext fn).isNone) = some true) (h4 : (P.funcs[f]?).map (fun fn => (fn.name == "runtime.NumGoroutine")) = some false)
  (hx : ev e x = some va) (hy : ev e y = some vb) (ha : dP va la w) (hb : dP vb lb w) (i' : gU P ops dr done i = [])
  (h : XL P n ops dr (i :: done) r K ((d, iQ (dI la lb)) :: e) w) (hd : Nat.blt d n = true := by exact rfl) (hg : Gd ops e g := by first | trivial | exact ⟨_, rfl, rfl⟩) : XL P n ops dr done (i :: r) K e w := by
 refine fU ho (by simpa [cy] using hd) hg (ρ := rh e) (by
  intro q hZ; simp [Op.operands, Call.operands] at hZ;rcases hZ with rfl | hZ
  ·rfl
  ·exact CX hx hy hZ) rfl (v := iQ (dI la lb)) (w' := w) ?_ (fb i') h
 cases hf : P.funcs[f]? with
 | none => simp [hf] at h1
 | some fn =>
  have zM : fn.body.isNone = true := by simpa [hf] using h1
  have UL : Extern.find fn = some Extern.BytealgCompare.compare := by simpa [hf] using h2
  have Xb : Extern.findNext fn = none := by simpa [hf] using h3
  have h4' : (fn.name == "runtime.NumGoroutine") = false := by simpa [hf] using h4
  have hr : (Extern.BytealgCompare.compare #[va, vb]).run P w = .ok (iQ (dI la lb)) w := by
   have e1 : Extern.BytealgCompare.compare #[va, vb] = (do let a <-Extern.Bytes.bytesOf va; let b <-Extern.Bytes.bytesOf vb; pure (goInt (Extern.BytealgCompare.cmp a b))) := rfl;rw [e1];simp only [Sem.run_bind, CS ha, CS hb, Result.andThen_ok, Sem.run_pure, aan, goInt]
  simp only [execOp, resolve, show rh e (.func f) = .func (.func f) #[] #[] from rfl, Deferred.ofValue, invoke, callFunc, Sem.run_bind, Sem.run_pure, Result.andThen_ok, program, Sem.run, hf, zM, UL, Xb, h4'];simp [bj hx, bj hy, hr, Sem.run_bind, mark, Sem.run]
end
section
variable {G : Gh} {L R : List aw} {w : World}
theorem eG {v v' : Value} {l l' : bW} (hw : an G L w) (ka : aG L (dP v l)) (kb : aG L (dP v' l')) :
  Calls prog 176 #[v, v'] w (bU fun r w' => r = iQ (dI l l') /\ an G L w') := by
 refine ad (args := [_, _]) func176 rfl ntmps176 rfl rfl ?_;refine z8 ?_;refine aaX rfl kR kR kR kR rfl rfl (ka.at hw) (kb.at hw) rfl ?_;refine z3 ?_;exact aK rfl rfl rfl ⟨rfl, hw⟩
end
def iI (n : Int) : Prop := 1 <= n /\ n <= 65536
instance (n : Int) : Decidable (iI n) := by unfold iI; infer_instance
def kI (kind level next : Int) (n d : Nat) : Prop :=
 (kind = 1 -> d = 0 /\ next = 0 /\ level = 0 /\ 1 <= n /\ n <= 8) /\ (kind = 2 -> d = 0 /\ next = 0 /\ 1 <= level /\ level < 12 /\ 2 <= n /\ n <= 8) /\ (kind ≠ 1 -> kind ≠ 2 -> level = 0 /\ n = 0 /\ 1 <= d /\ d <= 480)
instance (kind level next : Int) (n d : Nat) : Decidable (kI kind level next n d) := by unfold kI; infer_instance
def fst (a b : Int) : Int := if a = 0 then b else a
theorem lM (a b c : Int) : fst (fst a b) c = fst a (fst b c) := by unfold fst; repeat' split <;> simp_all
theorem Mw (a : Int) : fst a 0 = a := by unfold fst; split <;> simp_all
theorem Ep (a : Int) : fst 0 a = a := rfl
def vA (q : Prop) [Decidable q] (e : Int) : Int := if q then 0 else e
def s6 (kind : Int) (i : Nat) (x : It) : Int := if kind = 2 /\ i = 0 then vA (x.key.length = 0) 7 else vA (1 <= x.key.length /\ x.key.length <= 24) 7
def yS (kind : Int) (i : Nat) (cV : bW) (x : It) : Int := if kind = 2 /\ i = 0 then 0 else vA (i = 0 \/ 0 < dI x.key cV) 11
def yO (kind : Int) (x : It) : Int := if kind = 2 then vA (x.value.length = 0 /\ x.size = 0) 8 else fst (vA (0 <= x.size /\ x.size <= 3840) 8) (if x.size <= 32 then vA ((x.value.length : Int) = x.size) 8 else vA (x.value.length = 0) 8)
def Cs (kind : Int) (x : It) : Int := if kind = 2 then vA (iI x.child) 15 else if x.size <= 32 then vA (x.child = 0) 15 else vA (iI x.child) 15
def yi (kind : Int) (i : Nat) (cV : bW) (x : It) : Int := fst (s6 kind i x) (fst (yS kind i cV x) (fst (yO kind x) (Cs kind x)))
def il (kind : Int) : Nat -> bW -> List It -> Int
 | _, _, [] => 0
 | i, cV, x :: r => fst (yi kind i cV x) (il kind (i + 1) x.key r)
def cM (p : Pg) : Int :=
 fst (fst (vA (1 <= p.kind /\ p.kind <= 3) 22) (vA (kI p.kind p.level p.next p.items.length p.data.length) 5))
  (fst (il p.kind 0 [] p.items) (vA (p.next = 0 \/ iI p.next) 15))
def cL (p : Pg) : List Int :=
 (p.items.filterMap fun x => if p.kind = 2 \/ (p.kind = 1 /\ x.child ≠ 0) then some x.child else none) ++ (if p.kind = 3 /\ p.next ≠ 0 then [p.next] else [])
def qQ (cV : bW) (l : List It) : bW := (l.getLast?.map It.key).getD cV
theorem C0 (kind : Int) (x : It) : ∀ (l : List It) (i : Nat) (cV : bW), il kind i cV (l ++ [x]) = fst (il kind i cV l) (yi kind (i + l.length) (qQ cV l) x)
 | [], i, cV => by simp [il, qQ, Mw, Ep]
 | y :: l, i, cV => by
  simp only [iC, il, C0 kind x l, lM, g5];rw [show i + 1 + l.length = i + (l.length + 1) by omega]
  congr 3
  unfold qQ;cases l <;> simp [List.getLast?_cons]
def bg (l : List Int) : List Value := l.map (iQ ·)
theorem bC (l : List Int) : (bg l).length = l.length := by simp [bg]
section
variable {G : Gh} {L R : List aw} {w : World}
theorem mj {n : Int} (hw : an G L w) : Calls prog 177 #[iQ n] w (bU fun r w' => r = .bool (decide (iI n)) /\ an G L w') := by
 refine ad (args := [_]) func177 rfl ntmps177 rfl rfl ?_;refine z9 ?_;refine ay (d := 5) rfl (fun h1 => ?_) fun h1 => ?_
 ·
  refine z6 ?_;exact aK rfl rfl rfl ⟨by unfold iI; congr 1; exact cd.2 oM, hw⟩
 refine z6 ?_;exact aK rfl rfl rfl ⟨by unfold iI; congr 1; exact (decide_eq_false oM).symm, hw⟩
theorem Ky {p : bT} (hw : an G L w) (hp : p.Ok L) :
  Calls prog 175 #[gQ p.cells] w (bU fun r w' => r = .bool (decide (kI p.kind p.level p.next p.l.length p.data.length)) /\ an G L w') := by
 obtain ⟨a1, c1, h1, -, -⟩ := (hp.its.sl.at hw).form;obtain ⟨a2, c2, h2⟩ := (hp.data.at hw).form;rw [bX] at h1;simp only [bT.cells, h1, h2];clear h1 h2;refine ad (args := [_]) func175 rfl ntmps175 rfl rfl ?_;refine z2 ?_;refine a9 rfl rfl rfl hw rfl fun w b1 hw => ?_;refine z3 ?_;refine bd [0, 1, 2, 3, 4, 5, 6, 7, 8, 9, 10, 11, 12, 13] bJ kR ?_;replace hw := hw.drawn (w.drawn + 1);refine z1 ?_;refine lD az hw ?_;refine z2 ?_;refine lD au hw ?_;refine z3 ?_;refine cu (l1 := [8, 9, 10, 11]) (l2 := [12, 13]) rfl (d := 16) ((p.data.length : Int) = 0 /\ p.next = 0) rfl ?_ ?_
 ·
  refine ay (d := 12) rfl (fun h1 => ?_) fun h1 => ?_
  ·
   refine z1 ?_;refine lD ag hw ?_;refine z3 ?_;refine cQ ?_;exact dC
  refine z5 ?_;refine cQ ?_;exact dC
 refine z7 ?_;refine lD ag hw ?_;refine z7 ?_;refine aE rfl (fun h2 => ?_) fun h2 => ?_
 ·
  refine z4 ?_;refine ay (d := 22) rfl (fun h3 => ?_) fun h3 => ?_
  ·
   refine z1 ?_;refine lD ag hw ?_;refine z3 ?_;refine ay (d := 27) rfl (fun h4 => ?_) fun h4 => ?_
   ·
    refine z4 ?_;refine ay (d := 31) rfl (fun h5 => ?_) fun h5 => ?_
    ·
     refine z6 ?_;exact aK rfl rfl rfl ⟨congrArg Value.bool (by unfold kI; exact dC), hw.tail⟩
    refine z6 ?_;exact aK rfl rfl rfl ⟨congrArg Value.bool (by unfold kI; exact dC), hw.tail⟩
   refine mN ?_;exact aK rfl rfl rfl ⟨congrArg Value.bool (by unfold kI; exact dC), hw.tail⟩
  refine z15 ?_;exact aK rfl rfl rfl ⟨congrArg Value.bool (by unfold kI; exact dC), hw.tail⟩
 refine z5 ?_;refine aE rfl (fun h6 => ?_) fun h6 => ?_
 ·
  refine z4 ?_;refine ay (d := 38) rfl (fun h7 => ?_) fun h7 => ?_
  ·
   refine z1 ?_;refine lD ag hw ?_;refine z3 ?_;refine ay (d := 43) rfl (fun h8 => ?_) fun h8 => ?_
   ·
    refine z1 ?_;refine lD ag hw ?_;refine z3 ?_;refine ay (d := 48) rfl (fun h9 => ?_) fun h9 => ?_
    ·
     refine z4 ?_;refine ay (d := 52) rfl (fun uV => ?_) fun uV => ?_
     ·
      refine z6 ?_;exact aK rfl rfl rfl ⟨congrArg Value.bool (by unfold kI; exact dC), hw.tail⟩
     refine z6 ?_;exact aK rfl rfl rfl ⟨congrArg Value.bool (by unfold kI; exact dC), hw.tail⟩
    refine mN ?_;exact aK rfl rfl rfl ⟨congrArg Value.bool (by unfold kI; exact dC), hw.tail⟩
   refine z15 ?_;exact aK rfl rfl rfl ⟨congrArg Value.bool (by unfold kI; exact dC), hw.tail⟩
  refine z20 ?_;exact aK rfl rfl rfl ⟨congrArg Value.bool (by unfold kI; exact dC), hw.tail⟩
 refine z4 ?_;refine lD ag hw ?_;refine z2 ?_;refine ay (d := 59) rfl (fun Hp => ?_) fun Hp => ?_
 ·
  refine z4 ?_;refine ay (d := 63) rfl (fun OL => ?_) fun OL => ?_
  ·
   refine z1 ?_;refine lD au hw ?_;refine z4 ?_;refine ay (d := 69) rfl (fun h13 => ?_) fun h13 => ?_
   ·
    refine z1 ?_;refine lD au hw ?_;refine z6 ?_;exact aK rfl rfl rfl ⟨congrArg Value.bool (by unfold kI; exact dC), hw.tail⟩
   refine z8 ?_;exact aK rfl rfl rfl ⟨congrArg Value.bool (by unfold kI; exact dC), hw.tail⟩
  refine SM ?_;exact aK rfl rfl rfl ⟨congrArg Value.bool (by unfold kI; exact dC), hw.tail⟩
 refine z18 ?_;exact aK rfl rfl rfl ⟨congrArg Value.bool (by unfold kI; exact dC), hw.tail⟩
theorem cY {q : Prop} [Decidable q] {er fe : Int} {b : Nat} (hw : an G (ah b [iQ fe] 41 :: L) w) :
  Calls prog 174 #[.bool (decide q), iQ er, pQ b] w (bU fun r w' => r = .tuple #[] /\ an G (ah b [iQ (fst fe (vA q er))] 41 :: L) w') := by
 refine ad (args := [_, _, _]) func174 rfl ntmps174 rfl rfl ?_;refine z3 ?_;refine fo rfl rfl ?_;refine z1 ?_;refine cu (l1 := [3, 4, 5]) (l2 := []) rfl (d := 10) (¬ q /\ fe = 0) rfl ?_ ?_
 ·
  refine ay (d := 7) rfl (fun h1 => ?_) fun h1 => ?_
  ·
   refine lD aB hw ?_;refine z3 ?_;refine cQ ?_
   first | (exact (decide_eq_false (fun h => h2 h.2)).symm) | (exact cd.2 ⟨fun h => ⟨h1, h⟩, fun h => h.2⟩) | (exact (decide_eq_false (fun h => h1 h.1)).symm)
  refine z4 ?_;refine cQ ?_
  first | (exact (decide_eq_false (fun h => h2 h.2)).symm) | (exact cd.2 ⟨fun h => ⟨h1, h⟩, fun h => h.2⟩) | (exact (decide_eq_false (fun h => h1 h.1)).symm)
 refine aC ?_;refine aE rfl (fun h2 => ?_) fun h2 => ?_
 ·
  refine z2 ?_;refine bu rfl tV rfl rfl aB rfl hw pK rfl rfl rfl fun w hw => ?_;refine aC ?_;exact kC rfl rfl ⟨rfl, by unfold fst vA; rw [ao h2.2, aj h2.1]; exact hw⟩
 refine dS ?_;exact kC rfl rfl ⟨rfl, by
 have e1 : fst fe (vA q er) = fe := by
  unfold fst vA
  by_cases hf : fe = 0
  ·rw [ao hf, ao (c6.1 fun hq => h2 ⟨hq, hf⟩), hf]
  ·rw [aj hf]
 rw [e1]; exact hw⟩
end
theorem J7 (cV : bW) (l : List It) (x : It) : qQ cV (l ++ [x]) = x.key := by simp [qQ]
theorem pJ {q q' : Prop} [Decidable q] [Decidable q'] {e : Int} (h : q ↔ q') : vA q e = vA q' e := by unfold vA; exact ite_congr (propext h) (fun _ => rfl) (fun _ => rfl)
theorem w7 {l : bW} {e : Int} : vA ((l.length : Int) = 0) e = vA (l.length = 0) e := pJ oM
theorem rV {l : bW} {n e : Int} : vA ((l.length : Int) = 0 /\ n = 0) e = vA (l.length = 0 /\ n = 0) e := pJ oM
theorem Ju (p : bT) : cM p.pg = fst (fst (vA (1 <= p.kind /\ p.kind <= 3) 22) (vA (kI p.kind p.level p.next p.l.length p.data.length) 5)) (fst (il p.kind 0 [] (p.l.map bO.it)) (vA (p.next = 0 \/ iI p.next) 15)) := by
 unfold cM;refine congr (congrArg fst (congrArg (fst _) (pJ ?_))) rfl;simp only [bT.pg, bX]
theorem aak (a b : Int) (h : a ≠ 0) : fst a b = a := by simp [fst, h]
section
variable {G : Gh} {L R : List aw} {w : World}
theorem k3 {p : bT} (hw : an G L w) (hp : p.Ok L) :
  Calls prog 96 #[gQ p.cells] w (bU fun r w' => r = iQ (cM p.pg) /\ an G L w') := by
 obtain ⟨a1, c1, h1, -, -⟩ := (hp.its.sl.at hw).form;obtain ⟨a2, c2, h2⟩ := (hp.data.at hw).form;have SA := hp.its.len;have m8 := hp.its;have iv := hp.its.sl;rw [bX] at h1;rw [h1] at iv
 have gN : p.cells = [iQ p.kind, iQ p.level, .slice a1 p.l.length c1, .slice a2 p.data.length c2, iQ p.next] := by simp only [bT.cells, h1, h2]
 have aeb : #[iQ p.kind, iQ p.level, .slice a1 p.l.length c1, .slice a2 p.data.length c2, iQ p.next] = p.cells.toArray := by rw [gN]
 rw [gN];refine ad (args := [_]) func96 rfl ntmps96 rfl rfl ?_;refine z2 ?_;refine a9 rfl rfl rfl hw rfl fun w b1 hw => ?_;refine z4 ?_;refine aF rfl nC hw rfl fun w b3 hw => ?_;refine bu (l' := [iQ 0]) rfl tV rfl rfl aB rfl hw pK rfl rfl rfl fun w hw => ?_;refine z3 ?_;refine gP (v1 := #[]) (v2 := #[pQ b3]) rfl (by intro z hz; simp at hz; subst hz; exact ⟨_, rfl⟩) sM (by simp only [jM, cH, gE]; rfl) ?_;refine z6 ?_;refine lD ag hw ?_;refine z2 ?_;refine cu (l1 := [5, 6, 7, 8]) (l2 := [9]) rfl (d := 18) (1 <= p.kind /\ p.kind <= 3) rfl ?_ ?_
 ·
  refine ay (d := 14) rfl (fun h1 => ?_) fun h1 => ?_
  ·
   refine z1 ?_;refine lD ag hw ?_;refine z3 ?_;refine cQ ?_;exact dC
  refine z5 ?_;refine cQ ?_;exact dC
 refine fc rfl rfl cI rfl rfl (cY (q := 1 <= p.kind /\ p.kind <= 3) (er := 22) (fe := 0) (hw.pick (A := ah b3 _ _) pK)) rfl fun w Sw hv => ?_;obtain ⟨-, hw⟩ := hv;rw [Ep] at hw;refine z4 ?_;refine bt rfl rfl (ar.cU ae hw pK sM) ?_;refine al rfl Ik rfl (by have h := Ky (p := p) hw (hp.of sF); rw [gN] at h; exact h) rfl (fun w VY hv => ?_);obtain ⟨rfl, hw⟩ := hv;refine fc rfl rfl cI rfl rfl (cY (q := kI p.kind p.level p.next p.l.length p.data.length) (er := 5) (hw.pick (A := ah b3 _ _) pK)) rfl fun w v23 hv => ?_;obtain ⟨-, hw⟩ := hv;refine z4 ?_;refine lD aB hw ?_;refine z2 ?_;refine aE rfl (fun h2 => ?_) fun h2 => ?_
 ·
  refine z2 ?_;refine lD aB hw ?_;refine z3 ?_;exact aK rfl rfl rfl ⟨by rw [Ju, aak _ (fst (il _ _ _ _) _) h2], hw.tail.tail⟩
 refine z9 ?_;refine lD az hw ?_;refine z4 ?_;have hF := c6.1 h2;rw [hF] at hw;refine bF (fun m e w => ∃ (k : Nat) (av : Value), k <= p.l.length /\ m = p.l.length - k /\ e = [(1, pQ b1), (3, pQ b3), (4, .func (.func 174) #[] #[pQ b3]), (5, av), (28, .slice a1 p.l.length c1), (29, iQ p.l.length), (30, iQ k)] /\ aG L (dP av (qQ [] ((p.l.map bO.it).take k))) /\ an G (ah b3 [iQ (il p.kind 0 [] ((p.l.map bO.it).take k))] 41 :: ah b1 [iQ p.kind, iQ p.level, .slice a1 p.l.length c1, .slice a2 p.data.length c2, iQ p.next] 104 :: L) w)
  (m := p.l.length) sB
  ⟨0, _, dy _, rfl, rfl, fun _ _ _ => .inl ⟨⟨none, rfl⟩, rfl⟩, hw⟩ ?_
 rintro m e w ⟨k, av, hk, rfl, rfl, Ek, hw⟩;refine z5 ?_;refine aE rfl (fun h3 => ?_) fun h3 => ?_
 ·
  have gK : k < p.l.length := oM;obtain ⟨x, hx⟩ : ∃ x, p.l[k]? = some x := ⟨_, dm gK⟩;have me := m8.it x (gl hx);have Bt := me.k;have tU : (p.l.map bO.cells)[k]? = some x.cells := by rw [dg, hx]; rfl
  obtain ⟨ak, ck, Z3⟩ := (me.k.at hw.tail.tail).form;obtain ⟨av2, cv2, hvv⟩ := (me.v.at hw.tail.tail).form;have WJ : x.cells = [.slice ak x.it.key.length ck, .slice av2 x.it.value.length cv2, iQ x.it.child, iQ x.it.size] := by simp only [bO.cells, Z3, hvv]
  rw [Z3] at Bt;obtain ⟨aav, cav, hfv⟩ := (Ek.at hw.tail.tail).form;obtain ⟨ab, B6⟩ : ∃ ab, ab = qQ [] ((p.l.map bO.it).take k) := ⟨_, rfl⟩;obtain ⟨E, hE⟩ : ∃ E, E = il p.kind 0 [] ((p.l.map bO.it).take k) := ⟨_, rfl⟩;have Xa : il p.kind 0 [] ((p.l.map bO.it).take (k + 1)) = fst E (yi p.kind k ab x.it) := by
   rw [Rf, dg, hx, hE, B6];simp only [NZ, Option.toList_some];rw [C0, fB, bX, pY, EW oM]
  have hL1 : qQ [] ((p.l.map bO.it).take (k + 1)) = x.it.key := by
   rw [Rf, dg, hx];exact J7 _ _ _
  rw [<-B6] at Ek hfv;rw [<-hE] at hw
  obtain ⟨bb, oo, rfl⟩ := ((iv.of sF).at hw).nn (by rw [bX]; omega);refine z6 ?_;refine eY rfl aJ bf rfl rfl ⟨oM, oM⟩ ?_;refine bt rfl rfl (ar.many aD rfl (by rw [ez]; exact ((iv.of sF).at hw).at tU)) ?_;refine aF rfl eM hw rfl fun w b7 hw => ?_;refine z1 ?_;refine aT (cs := x.cells) (l' := x.cells) rfl tV rfl rfl aD rfl (ln (me.of sF) hw) hw pK sM rfl rfl fun w hw => ?_;rw [WJ] at hw;refine z4 ?_;refine lD au hw ?_;refine z3 ?_;refine pS (fun e w => e = [(1, pQ b1), (3, pQ b3), (4, .func (.func 174) #[] #[pQ b3]), (5, av), (7, pQ b7), (28, .slice (some ⟨bb, oo, none⟩) p.l.length c1), (29, iQ p.l.length), (30, iQ k)] /\ an G (ah b3 [iQ (fst E (fst (s6 p.kind k x.it) (yS p.kind k ab x.it)))] 41 :: ah b7 [.slice ak x.it.key.length ck, .slice av2 x.it.value.length cv2, iQ x.it.child, iQ x.it.size] 198 :: ah b1 [iQ p.kind, iQ p.level, .slice (some ⟨bb, oo, none⟩) p.l.length c1, .slice a2 p.data.length c2, iQ p.next] 104 :: L) w) ?_ ?_
  ·
   refine z3 ?_;refine lD ag hw ?_;refine z2 ?_;refine cu (l1 := [4, 5, 6]) (l2 := []) rfl (d := 44) (p.kind = 2 /\ k = 0) rfl ?_ ?_
   ·
    refine ay (d := 41) rfl (fun h4 => ?_) fun h4 => ?_
    ·
     refine z4 ?_;refine cQ ?_;exact dC
    refine z4 ?_;refine cQ ?_;exact dC
   refine aC ?_;refine aE rfl (fun h5 => ?_) fun h5 => ?_
   ·
    refine z4 ?_;refine fc rfl rfl cI rfl rfl (cY (q := (x.it.key.length : Int) = 0) (er := 7) (hw.pick (A := ah b3 _ _) pK)) rfl fun w v48 hv => ?_;obtain ⟨-, hw⟩ := hv;refine aC ?_;have e1 : fst (s6 p.kind k x.it) (yS p.kind k ab x.it) = vA ((x.it.key.length : Int) = 0) 7 := by
     unfold s6 yS; rw [ao h5, ao h5, Mw]; exact pJ oM
    rw [e1];exact ⟨[(1, _), (3, _), (4, _), (5, _), (7, _), (28, _), (29, _), (30, _)], sB, rfl, hw.b [ah b3 _ _, ah b7 _ _, ah b1 _ _]⟩
   refine z6 ?_;refine cu (l1 := [4, 5, 6]) (l2 := [7]) rfl (d := 55) (1 <= (x.it.key.length : Int) /\ (x.it.key.length : Int) <= 24) rfl ?_ ?_
   ·
    refine ay (d := 52) rfl (fun h6 => ?_) fun h6 => ?_
    ·
     refine z4 ?_;refine cQ ?_;exact dC
    refine z4 ?_;refine cQ ?_;exact dC
   refine fc rfl rfl cI rfl rfl (cY (q := 1 <= (x.it.key.length : Int) /\ (x.it.key.length : Int) <= 24) (er := 7) (hw.pick (A := ah b3 _ _) pK)) rfl fun w v56 hv => ?_;obtain ⟨-, hw⟩ := hv;refine z6 ?_;refine zU (l1 := [4, 5, 6, 7, 8, 9]) (l2 := [10]) rfl (d := 66) (k = 0 \/ 0 < dI x.it.key ab) (fun w => an G (ah b3 [iQ (fst E (vA (1 <= (x.it.key.length : Int) /\ (x.it.key.length : Int) <= 24) 7))] 41 :: ah b7 [.slice ak x.it.key.length ck, .slice av2 x.it.value.length cv2, iQ x.it.child, iQ x.it.size] 198 :: ah b1 [iQ p.kind, iQ p.level, .slice (some ⟨bb, oo, none⟩) p.l.length c1, .slice a2 p.data.length c2, iQ p.next] 104 :: L) w) rfl ?_ ?_
   ·
    refine ay (d := 60) rfl (fun h7 => ?_) fun h7 => ?_
    ·
     refine z7 ?_;refine ⟨hw, congrArg some (congrArg Value.bool ?_)⟩;exact dC
    refine z1 ?_;refine lD au hw ?_;refine z1 ?_;refine al rfl dZ rfl (eG hw (Bt.of sF) (Ek.of sF)) rfl fun w v64 hv => ?_;obtain ⟨rfl, hw⟩ := hv;refine z3 ?_;refine ⟨hw, congrArg some (congrArg Value.bool ?_)⟩;exact dC
   clear hw; intro w hw;refine fc rfl rfl cI rfl rfl (cY (q := k = 0 \/ 0 < dI x.it.key ab) (er := 11) (hw.pick (A := ah b3 _ _) pK)) rfl fun w v67 hv => ?_;obtain ⟨-, hw⟩ := hv;refine aC ?_;have e1 : fst (s6 p.kind k x.it) (yS p.kind k ab x.it) = fst (vA (1 <= (x.it.key.length : Int) /\ (x.it.key.length : Int) <= 24) 7) (vA (k = 0 \/ 0 < dI x.it.key ab) 11) := by
    unfold s6 yS; rw [aj h5, aj h5]; exact congr (congrArg fst (pJ oM)) (pJ oM)
   rw [e1, <-lM];exact ⟨[(1, _), (3, _), (4, _), (5, _), (7, _), (28, _), (29, _), (30, _)], sB, rfl, hw.b [ah b3 _ _, ah b7 _ _, ah b1 _ _]⟩
  clear hw;rintro e w ⟨rfl, hw⟩;refine z3 ?_;refine lD au hw ?_;refine z6 ?_;refine lD ag hw ?_;refine z2 ?_;refine aE rfl (fun h8 => ?_) fun h8 => ?_
  ·
   refine z4 ?_;refine lD au hw ?_;refine z3 ?_;refine cu (l1 := [6, 7, 8, 9]) (l2 := [10]) rfl (d := 82) ((x.it.value.length : Int) = 0 /\ x.it.size = 0) rfl ?_ ?_
   ·
    refine ay (d := 78) rfl (fun h9 => ?_) fun h9 => ?_
    ·
     refine z1 ?_;refine lD ag hw ?_;refine z3 ?_;refine cQ ?_;exact dC
    refine z5 ?_;refine cQ ?_;exact dC
   refine fc rfl rfl cI rfl rfl (cY (q := (x.it.value.length : Int) = 0 /\ x.it.size = 0) (er := 8) (hw.pick (A := ah b3 _ _) pK)) rfl fun w VW hv => ?_;obtain ⟨-, hw⟩ := hv;refine z5 ?_;refine lD ag hw ?_;refine al rfl lg rfl (mj hw) rfl fun w v87 hv => ?_;obtain ⟨rfl, hw⟩ := hv;refine fc rfl rfl cI rfl rfl (cY (q := iI x.it.child) (er := 15) (hw.pick (A := ah b3 _ _) pK)) rfl fun w v88 hv => ?_;obtain ⟨-, hw⟩ := hv;refine z6 ?_;refine ⟨p.l.length - (k + 1), oM, [(1, _), (3, _), (4, _), (5, _), (28, _), (29, _), (30, iQ (k + 1 : Nat))], sB, k + 1, _, oM, rfl, rfl, by rw [hL1]; exact Bt, ?_⟩;rw [Xa];simp only [lM, w7, rV] at hw;unfold yi yO Cs;rw [ao h8, ao h8]
   try simp only [lM, w7, rV]
   exact (hw.b [ah b7 _ _, ah b3 _ _, ah b1 _ _]).tail
  refine z5 ?_;refine lD ag hw ?_;refine z2 ?_;refine cu (l1 := [5, 6, 7, 8]) (l2 := [9]) rfl (d := 97) (0 <= x.it.size /\ x.it.size <= 3840) rfl ?_ ?_
  ·
   refine ay (d := 93) rfl (fun uV => ?_) fun uV => ?_
   ·
    refine z1 ?_;refine lD ag hw ?_;refine z3 ?_;refine cQ ?_;exact dC
   refine z5 ?_;refine cQ ?_;exact dC
  refine fc rfl rfl cI rfl rfl (cY (q := 0 <= x.it.size /\ x.it.size <= 3840) (er := 8) (hw.pick (A := ah b3 _ _) pK)) rfl fun w v98 hv => ?_;obtain ⟨-, hw⟩ := hv;refine z4 ?_;refine lD ag hw ?_;refine z2 ?_;refine aE rfl (fun Hp => ?_) fun Hp => ?_
  ·
   refine z4 ?_;refine lD au hw ?_;refine z2 ?_;refine lD ag hw ?_;refine z1 ?_;refine fc rfl rfl cI rfl rfl (cY (q := (x.it.value.length : Int) = x.it.size) (er := 8) (hw.pick (A := ah b3 _ _) pK)) rfl fun w adP hv => ?_;obtain ⟨-, hw⟩ := hv;refine z4 ?_;refine lD ag hw ?_;refine z1 ?_;refine fc rfl rfl cI rfl rfl (cY (q := x.it.child = 0) (er := 15) (hw.pick (A := ah b3 _ _) pK)) rfl fun w adO hv => ?_;obtain ⟨-, hw⟩ := hv;refine z5 ?_;refine ⟨p.l.length - (k + 1), oM, [(1, _), (3, _), (4, _), (5, _), (28, _), (29, _), (30, iQ (k + 1 : Nat))], sB, k + 1, _, oM, rfl, rfl, by rw [hL1]; exact Bt, ?_⟩;rw [Xa];simp only [lM, w7, rV] at hw;unfold yi yO Cs;rw [aj h8, ao Hp, aj h8, ao Hp]
   try simp only [lM, w7, rV]
   exact (hw.b [ah b7 _ _, ah b3 _ _, ah b1 _ _]).tail
  refine z4 ?_;refine lD au hw ?_;refine z2 ?_;refine fc rfl rfl cI rfl rfl (cY (q := (x.it.value.length : Int) = 0) (er := 8) (hw.pick (A := ah b3 _ _) pK)) rfl fun w abV hv => ?_;obtain ⟨-, hw⟩ := hv;refine z4 ?_;refine lD ag hw ?_;refine al rfl lg rfl (mj hw) rfl fun w adL hv => ?_;obtain ⟨rfl, hw⟩ := hv;refine fc rfl rfl cI rfl rfl (cY (q := iI x.it.child) (er := 15) (hw.pick (A := ah b3 _ _) pK)) rfl fun w adK hv => ?_;obtain ⟨-, hw⟩ := hv;refine z5 ?_;refine ⟨p.l.length - (k + 1), oM, [(1, _), (3, _), (4, _), (5, _), (28, _), (29, _), (30, iQ (k + 1 : Nat))], sB, k + 1, _, oM, rfl, rfl, by rw [hL1]; exact Bt, ?_⟩;rw [Xa];simp only [lM, w7, rV] at hw;unfold yi yO Cs;rw [aj h8, aj Hp, aj h8, aj Hp]
  try simp only [lM, w7, rV]
  exact (hw.b [ah b7 _ _, ah b3 _ _, ah b1 _ _]).tail
 refine z5 ?_;refine lD ag hw ?_;refine z2 ?_;refine zU (l1 := [5, 6, 7, 8]) (l2 := [9]) rfl (d := 135) (p.next = 0 \/ iI p.next) (fun w => an G (ah b3 [iQ (il p.kind 0 [] ((p.l.map bO.it).take k))] 41 :: ah b1 [iQ p.kind, iQ p.level, .slice a1 p.l.length c1, .slice a2 p.data.length c2, iQ p.next] 104 :: L) w) rfl ?_ ?_
 ·
  refine ay (d := 131) rfl (fun OL => ?_) fun OL => ?_
  ·
   refine z5 ?_;refine ⟨hw, congrArg some (congrArg Value.bool ?_)⟩
   first | exact (decide_eq_true (Or.inl OL)).symm | exact cd.2 ⟨.inr, fun h => h.resolve_left OL⟩
  refine z1 ?_;refine lD ag hw ?_;refine al rfl lg rfl (mj hw) rfl fun w adI hv => ?_;obtain ⟨rfl, hw⟩ := hv;refine z2 ?_;refine ⟨hw, congrArg some (congrArg Value.bool ?_)⟩
  first | exact (decide_eq_true (Or.inl OL)).symm | exact cd.2 ⟨.inr, fun h => h.resolve_left OL⟩
 clear hw; intro w hw;refine fc rfl rfl cI rfl rfl (cY (q := p.next = 0 \/ iI p.next) (er := 15) (hw.pick (A := ah b3 _ _) pK)) rfl fun w adH hv => ?_;obtain ⟨-, hw⟩ := hv;refine z3 ?_;refine lD aB hw ?_;refine z3 ?_;exact aK rfl rfl rfl ⟨by
 rw [Ju, hF, Ep, show (p.l.map bO.it).take k = p.l.map bO.it from oF (by rw [bX]; omega)], hw.tail.tail⟩
end
end Go.Proofs.YtjbkgbilbnccnaaGreatDoor.X
