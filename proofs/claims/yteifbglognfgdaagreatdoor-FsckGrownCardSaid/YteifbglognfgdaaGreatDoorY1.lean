/- The ground and the walks of this claim, part 1: XRegion XCode XMem XPure XLd XRange XMore XMap XBase XBytes XPage XPage2 XPage3 XCmp XPage4 XPage5 XPage6 XPage7 XSpan. -/
import Derived.Deep.Quiet
import Derived.Tactics
import Derived.OrdersIn
import Derived.RangeFuncRecord
import Derived.Scope
import Derived.WalkKit
import Derived.Test.YteifbglognfgdaaGreatDoorRows
import Derived.Laws.IdiomCopy
import Derived.Lib.AppendZeros
import Derived.Laws.StructEq
import Derived.ChangeKeysEq
import Derived.OpenShut
import Derived.ReadAgain
import Derived.HandedShaped
import Derived.Test.YteifbglognfgdaaGreatDoorTie
import Derived.Test.YteifbglognfgdaaGreatDoorCards
import Derived.ProofKit
import Derived.LaidMore
import Derived.SevenTiedAt
namespace Go.Proofs.YteifbglognfgdaaGreatDoor.X
open _root_.Go.Proofs.Tryz _root_.Go.Proofs.YteifbglognfgdaaGreatDoor.Tryz
set_option linter.unusedVariables false
set_option linter.unusedSimpArgs false
set_option maxRecDepth 20000
set_option maxHeartbeats 8000000
abbrev pQ (b : Nat) : Value := .pointer (some ⟨b, 0, none⟩)
abbrev sQ (b m c : Nat) : Value := .slice (some ⟨b, 0, none⟩) m c
abbrev nQ : Value := .slice none 0 0
abbrev iQ (x : Int) : Value := .int .i64 x
abbrev gQ (l : List Value) : Value := .agg l.toArray
theorem tV : True := True.intro
theorem oM {p : Prop} (h : p := by omega) : p := h
theorem kR {p : Prop} (h : p := by kernel_rfl) : p := h
theorem sM {p : Prop} (h : p := by simp) : p := h
theorem dM {p : Prop} (h : p := by decide) : p := h
theorem mL {p : Prop} (h : p := by simp only [maxLen]; omega) : p := h
abbrev bA := @List.length_map
abbrev cV := @List.getElem?_eq_getElem
abbrev cj := @List.length_append
abbrev bB := @List.mem_cons
abbrev cJ := @Decidable.not_not
abbrev cW := @List.not_mem_nil
abbrev ed := @List.mem_of_getElem?
abbrev dB := @List.getElem?_map
abbrev cG := @List.map_cons
abbrev dd := @List.mem_map
abbrev fp := @List.mem_cons_self
abbrev eu := @List.mem_append
abbrev gF := @List.mem_cons_of_mem
abbrev fQ := @Int.toNat_natCast
abbrev fK := @List.length_take
abbrev jt := @List.length_singleton
abbrev iC := @List.length_drop
abbrev je := @List.append_assoc
abbrev il := @List.map_append
abbrev nU := @List.getElem?_eq_some_iff
abbrev eW := @Nat.le_refl
abbrev fo := @Nat.zero_le
abbrev ku := @List.flatMap_cons
abbrev jO := @List.length_cons
abbrev j4 := @List.cons_append
abbrev jG := @List.nil_append
abbrev qW := @List.getD_eq_getElem?_getD
abbrev sO := @Array.getElem?_eq_some_iff
abbrev oT := @List.mem_append_left
abbrev qd := @List.take_append_drop
abbrev sN := @Decidable.byContradiction
abbrev pB := @List.mem_map_of_mem
abbrev j3 := @List.map_nil
abbrev my := @List.append_nil
abbrev qV := @List.mem_append_right
abbrev yS := @List.eq_nil_of_length_eq_zero
abbrev r9 := @List.mem_of_mem_take
abbrev oS := @List.map_toArray
abbrev xI := @List.getElem?_append_right
abbrev u0 := @List.drop_eq_nil_of_le
abbrev vN := @List.take_of_length_le
abbrev qD := @Bool.and_eq_true
abbrev lV := @Int.le_refl
abbrev qC := @List.length_set
abbrev uZ := @List.take_length
abbrev sL := @List.mem_range
abbrev Ad := @List.mem_of_mem_drop
abbrev By := @List.contains_iff_mem
abbrev Ac := @List.flatMap_append
abbrev Lb := @List.set_eq_take_append_cons_drop
abbrev vM := @List.length_nil
abbrev r8 := @Nat.zero_add
abbrev yR := @List.all_eq_true
abbrev xH := @List.nodup_cons
abbrev tS := @List.map_set
abbrev C9 := @List.flatten_cons
abbrev Jm := @List.getElem?_eq_none
abbrev G3 := @List.filter_append
abbrev La := @Option.map_eq_some_iff
abbrev Nj := @Array.getElem?_eq_getElem
abbrev K9 := @List.set_append_right
abbrev Ab := @Nat.sub_self
abbrev PX := @List.dropLast_concat_getLast
abbrev yQ := @Nat.add_mul
abbrev Jl := @List.pairwise_cons
abbrev Jj := @List.mem_singleton
abbrev G2 := @List.mem_flatMap
abbrev K8 := @List.flatten_append
abbrev G1 := @List.mem_filter
abbrev PW := @List.drop_eq_getElem_cons
abbrev Ni := @List.length_replicate
abbrev Nh := @List.length_filter_le
abbrev K7 := @List.getElem?_drop
abbrev PV := @List.eq_of_mem_replicate
abbrev Ji := @List.filter_cons
abbrev Ng := @List.getElem?_of_mem
abbrev Sb := @Array.getD_eq_getD_getElem?
abbrev Sa := @List.mem_or_eq_of_mem_set
abbrev UO := @Array.getElem?_setIfInBounds_ne
abbrev UN := @Array.getElem_setIfInBounds_ne
abbrev Nf := @List.nodup_append
abbrev UM := @List.count_eq_zero_of_not_mem
abbrev PU := @List.map_congr_left
abbrev K6 := @List.take_zero
abbrev R9 := @Array.getElem?_eq_none
abbrev R8 := @List.append_eq_nil_iff
abbrev R7 := @List.drop_of_length_le
abbrev PS := @List.append_of_mem
abbrev PR := @List.set_cons_succ
abbrev Nd := @List.find?_cons
abbrev Nc := @Nat.min_eq_left
abbrev K5 := @List.map_take
abbrev K4 := @List.map_drop
abbrev K3 := @List.sum_cons
abbrev PQ := @List.take_add_one
abbrev UL := @List.mem_of_find?_eq_some
abbrev UK := @List.exists_mem_of_ne_nil
abbrev K2 := @Nat.lt_or_ge
abbrev Xx := @Array.all_eq_true_iff_forall_mem
abbrev PO := @List.drop_append
abbrev PN := @List.drop_length
abbrev K1 := @Nat.le_trans
abbrev PM := @List.getElem_mem
abbrev K0 := @Int.add_zero
abbrev R6 := @List.getD_cons_zero
abbrev R5 := @List.take_succ_cons
abbrev R4 := @List.drop_succ_cons
abbrev R3 := @List.getElem?_range
abbrev PL := @List.foldl_cons
abbrev R2 := @List.length_modify
abbrev KZ := @Nat.mul_one
abbrev R0 := @List.length_range
abbrev UJ := @List.modify_succ_cons
abbrev UI := @List.singleton_append
abbrev UH := @Nat.mul_le_mul_right
abbrev RZ := @Array.mem_filter
abbrev RY := @List.take_append
abbrev RX := @Option.getD_some
abbrev Xw := @Option.ne_none_iff_exists'
abbrev UG := @List.length_pos_iff
abbrev RW := @Option.map_some
abbrev UF := @List.mem_filterMap
abbrev UE := @Array.empty_append
abbrev PK := @List.map_map
abbrev UD := @List.find?_eq_none
abbrev UC := @List.set_cons_zero
abbrev PJ := @Nat.add_zero
abbrev UB := @List.count_pos_iff
abbrev UA := @Nat.add_sub_cancel
abbrev ae := @if_neg
abbrev ah := @if_pos
abbrev cZ := @decide_eq_decide
def dv (R : Value -> World -> Prop) : Ending -> World -> Prop := fun e w => ∃ v, e = .returned v /\ R v w
def ek (P : Program) : Op -> Nat
 | .move _ | .assign _ | .pick .. | .fieldAddr .. | .field .. | .unOp .. | .extract .. | .nilCheck _ | .slice .. | .indexAddr .. | .index ..
 | .makeInterface .. | .makeFunc .. | .build .. | .typeAssert .. => 0
 | .binOp op t x y _ =>
  if op matches .eql | .neq then
   match P.underlying t with
   | some (.pointer _) | some (.interface _) => if Region.isConst x || Region.isConst y then 0 else 1
   | _ => 0
  else 0
 | .convert s d _ => match P.underlying s, P.underlying d with | some (.int _), some (.int _) => 0 | some (.string), some (.string) => 0 | _, _ => 2
 | .load .. | .lookup .. | .entry _ | .waits _ => 1
 | .call { callee := .builtin b, argTypes, .. } => match b with
  | .len | .cap => match (argTypes[0]?).bind P.underlying with | some (.map ..) | some (.chan ..) => 1 | _ => 0
  | .min | .max | .complex | .real | .imag => 0
  | _ => 2
 | _ => 2
def Fw (ro : Option Nat) : Fence := { Fence.wide with round := ro }
theorem DU (ro : Option Nat) (m : Nat) : (Fw ro).room m := fun d hd => by cases hd
def zD (P : Program) (l : Nat) (f : FuncId) (tmps : Array Value) (assign body : Code) (w : World) (R : Ending -> World -> Prop) : Prop := RoundIn (Fw none) 0 P l f tmps assign body w R
theorem zD.fw {P : Program} {l : Nat} {f : FuncId} {tmps : Array Value} {assign body : Code} {w : World} {R : Ending -> World -> Prop} (h : zD P l f tmps assign body w R) (ro : Option Nat) (n : Nat) : RoundIn (Fw ro) n P l f tmps assign body w R :=
 ⟨trivial, fun c cs _ => h.2 c cs (DU _ _)⟩
theorem Calls.fw {P : Program} {f : FuncId} {args : Array Value} {w : World} {R : Ending -> World -> Prop} (h : Calls P f args w R) (ro : Option Nat) (n : Nat) : CallsIn (Fw ro) n P f args w R :=
 ⟨trivial, fun cs _ => (callsIn_wide (n := 0).2 h).2 cs (DU none _)⟩
theorem zD.ex {P : Program} {l : Nat} {f : FuncId} {tmps : Array Value} {assign body : Code} {w : World} {V : Value -> World -> Prop} (h : zD P l f tmps assign body w (dv V)) : ∃ v w', V v w' := by
 obtain ⟨e, w', ⟨v, _, hv⟩, _⟩ := h.2 default [] (DU none _); exact ⟨_, _, hv⟩
section
variable {P : Program} {ops : Array Oper} {md : Region.Mode}
def xG (P : Program) (s : Sem Next) (k : Nat) (w : World) (V : Value -> World -> Prop) : Prop :=
 match k with
 | 0 => ∃ v, (∀ w', s.run P w' = .ok (.value v) w') /\ V v w
 | 1 => ∃ v, s.run P w = .ok (.value v) w /\ V v w
 | _ => match s.run P w with
  | .ok (.value v) w' => V v w'
  | .ok .skip w' => V undef w'
  | .ok (.enter f args) w' => Calls P f args w' (dv V)
  | .ok (.round l f tmps assign body) w' => zD P l f tmps assign body w' (dv V)
  | _ => False
theorem jD {s : Sem Next} {k : Nat} {w : World} {V V' : Value -> World -> Prop} (h : ∀ v w', V v w' -> V' v w') (hh : xG P s k w V) : xG P s k w V' := by
 unfold xG at *
 match k with
 | 0 => obtain ⟨v, h1, h2⟩ := hh; exact ⟨v, h1, h _ _ h2⟩
 | 1 => obtain ⟨v, h1, h2⟩ := hh; exact ⟨v, h1, h _ _ h2⟩
 | k + 2 =>
  simp only at hh ⊢
  generalize s.run P w = r at *
  cases r with
  | ok n w' =>
   cases n <;> simp only at hh ⊢
   case value v => exact h _ _ hh
   case skip => exact h _ _ hh
   case enter f args => exact hh.mono fun e MM ⟨v, he, hv⟩ => ⟨v, he, h _ _ hv⟩
   case round => exact RoundIn.mono hh fun e MM ⟨v, he, hv⟩ => ⟨v, he, h _ _ hv⟩
  | halt x w' => exact hh.elim
theorem OA {s : Sem Next} {k : Nat} {w : World} {V : Value -> World -> Prop} (hh : xG P s k w V) : ∃ v w', V v w' := by
 unfold xG at hh
 match k with
 | 0 => obtain ⟨v, _, h2⟩ := hh; exact ⟨_, _, h2⟩
 | 1 => obtain ⟨v, _, h2⟩ := hh; exact ⟨_, _, h2⟩
 | k + 2 =>
  simp only at hh
  generalize s.run P w = r at *
  cases r with
  | ok n w' =>
   cases n <;> simp only at hh
   case value v => exact ⟨_, _, hh⟩
   case skip => exact ⟨_, _, hh⟩
   case enter f args => obtain ⟨e, MM, fr, ⟨v, _, hv⟩, _⟩ := hh []; exact ⟨_, _, hv⟩
   case round => exact hh.ex
  | halt x w' => exact hh.elim
def MZ (P : Program) (ops : Array Oper) (o : Oper) (K : Act -> World -> Prop) (a : Act) (w : World) : Prop :=
 if Region.wanted o (yielded ops a.tmps) then xG P (execOp a.eval o) (ek P o.op) w (fun v w' => K (a.put o.dst v) w') else K (a.put o.dst undef) w
theorem GG {o : Oper} {K K' : Act -> World -> Prop} {a : Act} {w : World} (h : ∀ v w', K (a.put o.dst v) w' -> K' (a.put o.dst v) w') (hh : MZ P ops o K a w) : MZ P ops o K' a w := by
 unfold MZ at *;split
 ·rename_i hw; rw [ah hw] at hh; exact jD (fun v w' => h v w') hh
 rename_i hw; rw [ae hw] at hh; exact h _ _ hh
theorem Zb {o : Oper} {K : Act -> World -> Prop} {a : Act} {w : World} (hh : MZ P ops o K a w) : ∃ v w', K (a.put o.dst v) w' := by
 unfold MZ at hh;split at hh
 ·exact OA hh
 exact ⟨_, _, hh⟩
def si (md : Region.Mode) (ops : Array Oper) (i : Nat) : List Nat :=
 (List.range ops.size).foldl (fun s j => if s.contains j then s else match ops[j]? with
  | some o => if o.after.any (fun e => Region.binds md e && s.contains e.on) then j :: s else s
  | none => s) [i]
structure kS (md : Region.Mode) (ops : Array Oper) (listed : Array Bool) : Prop where
 size : listed.size = ops.size
 Sd : ∀ j o, ops[j]? = some o -> listed.getD j false = true -> ∀ e ∈ o.after, Region.binds md e = true -> listed.getD e.on false = true
theorem Mg (i : Nat) : ∀ j ∈ si md ops i, j = i \/ ∃ o, ops[j]? = some o /\ ∃ e ∈ o.after, Region.binds md e = true /\ e.on ∈ si md ops i ∧
  ∀ listed, kS md ops listed -> listed.getD i false = false -> listed.getD e.on false = false := by
 unfold si
 suffices h : ∀ (l : List Nat) (s : List Nat),
   (∀ j ∈ s, j = i \/ ∃ o, ops[j]? = some o /\ ∃ e ∈ o.after, Region.binds md e = true /\ e.on ∈ s /\ ∀ listed, kS md ops listed -> listed.getD i false = false -> listed.getD e.on false = false) →
   (∀ j ∈ (l.foldl (fun s j => if s.contains j then s else match ops[j]? with
    | some o => if o.after.any (fun e => Region.binds md e && s.contains e.on) then j :: s else s
    | none => s) s), j = i \/ ∃ o, ops[j]? = some o /\ ∃ e ∈ o.after, Region.binds md e = true /\ e.on ∈ (l.foldl (fun s j => if s.contains j then s else match ops[j]? with
    | some o => if o.after.any (fun e => Region.binds md e && s.contains e.on) then j :: s else s
    | none => s) s) /\ ∀ listed, kS md ops listed -> listed.getD i false = false -> listed.getD e.on false = false) from
  h _ [i] sM
 intro l
 induction l with
 | nil => intro s hs; exact hs
 | cons k l ih =>
  intro s hs;simp only [PL];refine ih _ ?_;split
  ·exact hs
  split
  ·rename_i o ho;split
   ·rename_i acA;obtain ⟨e, he, hb⟩ := Array.any_eq_true'.1 acA;simp only [qD, By] at hb;intro j hj;rcases bB.1 hj with rfl | hj
    ·refine .inr ⟨o, ho, e, he, hb.1, gF _ hb.2, fun listed hc hi => ?_⟩;rcases hs _ hb.2 with h1 | ⟨o', S7, e', Qz, L5, _, jv⟩
     ·rw [h1]; exact hi
     cases hl : listed.getD e.on false with
     | false => rfl
     | true => have := hc.Sd _ _ S7 hl e' Qz L5; rw [jv listed hc hi] at this; cases this
    rcases hs j hj with h1 | ⟨o', S7, e', Qz, L5, hm, jv⟩
    ·exact .inl h1
    exact .inr ⟨o', S7, e', Qz, L5, gF _ hm, jv⟩
   exact hs
  exact hs
theorem Hu {i j : Nat} {listed : Array Bool} (hc : kS md ops listed) (hi : listed.getD i false = false) (hj : j ∈ si md ops i) : listed.getD j false = false := by
 rcases Mg i j hj with h | ⟨o, ho, e, he, hb, _, jv⟩
 ·rw [h]; exact hi
 cases hl : listed.getD j false with
 | false => rfl
 | true => have := hc.Sd _ _ ho hl e he hb; rw [jv listed hc hi] at this; cases this
theorem qJ {i j : Nat} {listed : Array Bool} (hc : kS md ops listed) (hi : listed.getD i false = false) (hj : j ∈ si md ops i) (ly : j ≠ i) : j ∉ Region.ready md ops listed := by
 intro hr;obtain ⟨_, o, ho, jv⟩ := mem_ready.1 hr;rcases Mg i j hj with h | ⟨o', S7, e, he, hb, _, OU⟩
 ·exact ly h
 have : o' = o := Option.some.inj (S7.symm.trans ho);subst this;have h1 := jv e he hb;rw [OU listed hc hi] at h1; cases h1
theorem unl {listed : Array Bool} {i : Nat} (h : listed.getD i true = false) : listed.getD i false = false := by
 rcases K2 i listed.size with h' | h'
 ·simp [h'] at h ⊢; exact h
 simp [R9 h'] at h
theorem kS.set {listed : Array Bool} {i : Nat} (hc : kS md ops listed) (hi : i ∈ Region.ready md ops listed) : kS md ops (listed.setIfInBounds i true) := by
 obtain ⟨_, oi, S6, jv⟩ := mem_ready.1 hi;refine ⟨by simp [hc.size], fun j oj hj hl e he hb => ?_⟩
 by_cases hij : i = j
 ·subst hij;have : oj = oi := Option.some.inj (hj.symm.trans S6);subst this;exact getD_set_true (jv e he hb)
 rw [getD_set_ne false hij] at hl;exact getD_set_true (hc.Sd j oj hj hl e he hb)
def QM (k1 k2 : Nat) : Bool := k1 == 0 || k2 == 0 || k1 == 1
def pb (P : Program) (md : Region.Mode) (ops : Array Oper) (q i : Nat) : Bool :=
 match ops[q]?, ops[i]? with
 | some oq, some oi => Nat.ble 2 (ek P oi.op) && ek P oq.op == 1 && !(si md ops q).contains i
 | _, _ => false
def Wf (P : Program) (ops : Array Oper) (o : Oper) (a : Act) (w : World) : Prop :=
 Region.wanted o (yielded ops a.tmps) = true -> ∃ v, (execOp a.eval o).run P w = .ok (.value v) w /\ ∀ d, o.dst = some d -> a.tmps.getD d undef = v
def MK (P : Program) (md : Region.Mode) (ops : Array Oper) (done : List Nat) (i : Nat) (a : Act) (w : World) : Prop :=
 ∀ q ∈ done, pb P md ops q i = true -> ∀ o, ops[q]? = some o -> Wf P ops o a w
def me (P : Program) (md : Region.Mode) (ops : Array Oper) (done : List Nat) (i : Nat) (o : Oper) (K : Act -> World -> Prop) (a : Act) (w : World) : Prop :=
 if Region.wanted o (yielded ops a.tmps) then
  xG P (execOp a.eval o) (ek P o.op) w (fun v w' => MK P md ops done i (a.put o.dst v) w' /\ K (a.put o.dst v) w')
 else K (a.put o.dst undef) w
theorem MJ {done : List Nat} {i : Nat} {o : Oper} {K : Act -> World -> Prop} {a : Act} {w : World} (h : me P md ops done i o K a w) : MZ P ops o K a w := by
 unfold me at h; unfold MZ;split
 ·rename_i hw; rw [ah hw] at h; exact jD (fun v w' h => h.2) h
 rename_i hw; rw [ae hw] at h; exact h
theorem hG {done : List Nat} {i : Nat} {o : Oper} {K K' : Act -> World -> Prop} {a : Act} {w : World} (h : ∀ v w', K (a.put o.dst v) w' -> K' (a.put o.dst v) w') (hh : me P md ops done i o K a w) :
  me P md ops done i o K' a w := by
 unfold me at *;split
 ·rename_i hw; rw [ah hw] at hh; exact jD (fun v w' hk => ⟨hk.1, h v w' hk.2⟩) hh
 rename_i hw; rw [ae hw] at hh; exact h _ _ hh
theorem Pu {oq oi : Oper} (hs : ∀ cs b, oq.op ≠ .select cs b) (gJ : ∀ d, oi.dst = some d -> d ∉ oq.looksAt ops /\ oq.dst ≠ some d) {a : Act} {w : World} {v : Value} :
  Wf P ops oq (a.put oi.dst v) w ↔ Wf P ops oq a w := by
 unfold Wf;rw [wanted_put oq a oi.dst v fun d hd => (gJ d hd).1, execOp_put oq hs a oi.dst v fun d hd => (gJ d hd).1];have e : ∀ d, oq.dst = some d -> (a.put oi.dst v).tmps.getD d undef = a.tmps.getD d undef := fun d hd => by
  cases hi : oi.dst with
  | none => rfl
  | some c =>
   have ly : c ≠ d := fun hcd => (gJ c hi).2 (by rw [hd, hcd])
   simp [Act.put, UO ly]
 constructor <;> intro h hw <;> obtain ⟨u, h1, h2⟩ := h hw <;> refine ⟨u, h1, fun d hd => ?_⟩
 ·rw [<-e d hd]; exact h2 d hd
 rw [e d hd]; exact h2 d hd
theorem xg {q i : Nat} {oq oi : Oper} (hq : ops[q]? = some oq) (hi : ops[i]? = some oi) (h : pb P md ops q i = true) : 2 <= ek P oi.op /\ ek P oq.op = 1 /\ i ∉ si md ops q := by
 unfold pb at h; rw [hq, hi] at h
 simpa [and_assoc] using h
theorem QU {done : List Nat} {i j : Nat} {oi oj : Oper} (hi : ops[i]? = some oi) (hj : ops[j]? = some oj)
  (hap : oi.apart ops oj = true) (Vm : ∀ (j : Nat) (o : Oper) cs b, ops[j]? = some o -> o.op ≠ .select cs b)
  (hc : QM (ek P oi.op) (ek P oj.op) = true) (GQ : j ∉ si md ops i) (n4 : ek P oi.op = 1 -> ∀ d, oi.dst = some d -> d ∉ oi.looksAt ops) {n : Nat} (Q7 : ∀ d, oi.dst = some d -> d < n) {K : Act -> World -> Prop} {a : Act} {w : World} (dm : a.tmps.size = n)
  (hci : ∀ q ∈ done, ∀ oq, ops[q]? = some oq -> ek P oq.op = 1 -> ∀ d, oi.dst = some d -> d ∉ oq.looksAt ops /\ oq.dst ≠ some d)
  (hcj : ∀ q ∈ done, ∀ oq, ops[q]? = some oq -> ek P oq.op = 1 -> ∀ d, oj.dst = some d -> d ∉ oq.looksAt ops /\ oq.dst ≠ some d)
  (h : me P md ops done i oi (me P md ops (i :: done) j oj K) a w) : me P md ops done j oj (me P md ops (j :: done) i oi K) a w := by
 have T4 : ∀ cs b, oi.op ≠ .select cs b := fun cs b => Vm i oi cs b hi
 have hsj : ∀ cs b, oj.op ≠ .select cs b := fun cs b => Vm j oj cs b hj
 obtain ⟨h1, h2, h3⟩ := Oper.apart_spec hap;have wj : ∀ v, Region.wanted oj (yielded ops (a.put oi.dst v).tmps) = Region.wanted oj (yielded ops a.tmps) := fun v => wanted_put oj a oi.dst v h1
 have ej : ∀ v, execOp (a.put oi.dst v).eval oj = execOp a.eval oj := fun v => execOp_put oj hsj a oi.dst v h1
 have wi : ∀ u, Region.wanted oi (yielded ops (a.put oj.dst u).tmps) = Region.wanted oi (yielded ops a.tmps) := fun v => wanted_put oi a oj.dst v h3
 have ei : ∀ u, execOp (a.put oj.dst u).eval oi = execOp a.eval oi := fun v => execOp_put oi T4 a oj.dst v h3
 have pc : ∀ v u, (a.put oi.dst v).put oj.dst u = (a.put oj.dst u).put oi.dst v := fun v u => Act.put_comm a v u h2
 have chI : ∀ q ∈ done, ∀ oq, ops[q]? = some oq -> ek P oq.op = 1 -> ∀ (b : Act) v w', Wf P ops oq (b.put oi.dst v) w' ↔ Wf P ops oq b w' := fun q hq oq CP hk b v w' =>
  Pu (Vm q oq · · CP) (hci q hq oq CP hk)
 have chJ : ∀ q ∈ done, ∀ oq, ops[q]? = some oq -> ek P oq.op = 1 -> ∀ (b : Act) v w', Wf P ops oq (b.put oj.dst v) w' ↔ Wf P ops oq b w' := fun q hq oq CP hk b v w' =>
  Pu (Vm q oq · · CP) (hcj q hq oq CP hk)
 have reJ : ∀ v u w', MK P md ops (i :: done) j ((a.put oi.dst v).put oj.dst u) w' -> MK P md ops done j (a.put oj.dst u) w' := fun v u w' hr q hq hp oq CP => by
  obtain ⟨_, hk, _⟩ := xg CP hj hp;have := hr q (gF _ hq) hp oq CP;rw [pc] at this;exact (chI q hq oq CP hk _ v w').1 this
 have reI : ∀ v u w', MK P md ops done i (a.put oi.dst v) w' -> MK P md ops (j :: done) i ((a.put oj.dst u).put oi.dst v) w' := fun v u w' hr q hq hp oq CP => by
  obtain ⟨iX, hk, _⟩ := xg CP hi hp;rcases bB.1 hq with rfl | hq
  ·have : oq = oj := Option.some.inj (CP.symm.trans hj);subst this;simp [QM, hk] at hc; omega
  rw [<-pc]; exact (chJ q hq oq CP hk _ u w').2 (hr q hq hp oq CP)
 by_cases Qk : Region.wanted oi (yielded ops a.tmps) = true
 case neg =>
  unfold me at h; rw [ae Qk, wj] at h
  unfold me
  by_cases OS : Region.wanted oj (yielded ops a.tmps) = true
  ·rw [ah OS, ej] at h; rw [ah OS];refine jD (fun u w' ⟨hr, hK⟩ => ⟨reJ undef u w' hr, ?_⟩) h;rw [wi, ae Qk, <-pc]; exact hK
  rw [ae OS] at h; rw [ae OS, wi, ae Qk, <-pc]; exact h
 by_cases OS : Region.wanted oj (yielded ops a.tmps) = true
 case neg =>
  unfold me at h; rw [ah Qk] at h
  unfold me; rw [ae OS, wi, ah Qk, ei];refine jD (fun v w' ⟨hr, hK⟩ => ⟨reI v undef w' hr, ?_⟩) h;rw [wj, ae OS, pc] at hK; exact hK
 by_cases ki : ek P oi.op = 0
 ·unfold me at h; rw [ah Qk, ki] at h
  obtain ⟨v, hv, Vn, hK⟩ := h;rw [wj, ah OS, ej] at hK;unfold me; rw [ah OS];refine jD (fun u w' ⟨hr, hK'⟩ => ⟨reJ v u w' hr, ?_⟩) hK;rw [wi, ah Qk, ei, ki];refine ⟨v, hv, fun q hq hp oq CP => ?_, by rw [<-pc]; exact hK'⟩;obtain ⟨iX, _⟩ := xg CP hi hp; omega
 by_cases kj : ek P oj.op = 0
 ·unfold me at h; rw [ah Qk] at h
  obtain ⟨v0, w0, _, h0⟩ := OA h;rw [wj, ah OS, ej, kj] at h0;obtain ⟨u, hu, _⟩ := h0;unfold me; rw [ah OS, kj];refine ⟨u, hu, fun q hq hp oq CP => ?_, ?_⟩
  ·obtain ⟨iX, _⟩ := xg CP hj hp; omega
  rw [wi, ah Qk, ei];refine jD (fun v w' ⟨hr, hK⟩ => ⟨reI v u w' hr, ?_⟩) h;rw [wj, ah OS, ej, kj] at hK;obtain ⟨u', OV, _, hK⟩ := hK;have : u' = u := by have := (OV w').symm.trans (hu w'); simpa using this
  subst this;rw [<-pc]; exact hK
 have hk : ek P oi.op = 1 := by simpa [QM, ki, kj] using hc
 unfold me at h; rw [ah Qk, hk] at h
 obtain ⟨v, hv, _, h⟩ := h;rw [wj, ah OS, ej] at h;unfold me; rw [ah OS]
 by_cases kj1 : ek P oj.op = 1
 ·rw [kj1] at h ⊢;obtain ⟨u, hu, hr, hK⟩ := h;refine ⟨u, hu, reJ v u w hr, ?_⟩;rw [wi, ah Qk, ei, hk];refine ⟨v, hv, fun q hq hp oq CP => ?_, by rw [<-pc]; exact hK⟩;obtain ⟨iX, _⟩ := xg CP hi hp; omega
 refine jD (fun u w' ⟨hr, hK⟩ => ⟨reJ v u w' hr, ?_⟩) h;rw [wi, ah Qk, ei, hk];have hp : pb P md ops i j = true := by unfold pb; simp only [hi, hj]; simp [hk, GQ]; omega
 have qU := hr i (fp ..) hp oi hi;have abE : Region.wanted oi (yielded ops ((a.put oi.dst v).put oj.dst u).tmps) = true := by rw [pc, wanted_put oi _ oi.dst v (n4 hk), wi]; exact Qk
 obtain ⟨v', h4, h5⟩ := qU abE;rw [pc, execOp_put oi T4 _ oi.dst v (n4 hk), ei] at h4;refine ⟨v', h4, fun q hq hp oq CP => ?_, ?_⟩
 ·obtain ⟨iX, _⟩ := xg CP hi hp; omega
 rw [pc] at hK;cases hd : oi.dst with
 | none => rw [hd] at hK; exact hK
 | some d =>
  have e1 := h5 d hd;have e2 : ((a.put oi.dst v).put oj.dst u).tmps.getD d undef = v := by
   rw [pc, hd];have vw : (a.put oj.dst u).tmps.size = n := by cases oj.dst <;> simp [Act.put, dm]
   have iD := Q7 d hd
   generalize a.put oj.dst u = b at vw
   simp [Act.put, vw, iD]
  rw [e2] at e1; subst e1;rw [hd] at hK; exact hK
def Ck (P : Program) (md : Region.Mode) (ops : Array Oper) (Q : Act -> World -> Prop) : Nat -> Array Bool -> List Nat -> Act -> World -> Prop
 | 0, listed, _, a, w => Region.ready md ops listed = [] /\ Q a w
 | fuel + 1, listed, done, a, w =>
  (Region.ready md ops listed = [] -> Q a w) /\ ∀ i ∈ Region.ready md ops listed, ∀ o, ops[i]? = some o -> me P md ops done i o (Ck P md ops Q fuel (listed.setIfInBounds i true) (i :: done)) a w
theorem P6 {o : Oper} {ρ : Operand -> Value} {w : World} {V : Value -> World -> Prop} (h : xG P (execOp ρ o) (ek P o.op) w V) : ∀ c, o.op ≠ .defer c := by
 intro c hc;have hk : ek P o.op = 2 := by rw [hc]; rfl
 rw [hk] at h;unfold xG at h
 unfold execOp at h;rw [hc] at h
 simp only [Sem.run_bind] at h
 generalize (resolve ρ c o.type).run P w = r at h
 cases r with
 | ok d w' => simp [Result.andThen] at h
 | halt x w' => simp [Result.andThen] at h
theorem oO {ro : Option Nat} {i : Nat} {o : Oper} (ho : ops[i]? = some o) {a : Act} {w : World} {K K' : Act -> World -> Prop} {Q' : Exit -> Act -> World -> Prop} (h : ∀ a w', K a w' -> K' a w') (hh : MZ P ops o K a w) : wpOpIn (Fw ro) 0 P ops Q' i K' a w := by
 unfold wpOpIn;simp only [ho];unfold MZ at hh;split
 ·rename_i hw;rw [ah hw] at hh;refine ⟨fun _ _ => trivial, ?_⟩;rw [Oper.semAt_eq _ _ _ (P6 hh)];unfold xG at hh
  split at hh
  ·obtain ⟨v, hv, hK⟩ := hh; rw [hv w]; exact h _ _ hK
  ·obtain ⟨v, hv, hK⟩ := hh; rw [hv]; exact h _ _ hK
  generalize (execOp a.eval o).run P w = r at *
  cases r with
  | ok n w' =>
   cases n <;> simp only [Oper.uponIn] at hh ⊢
   case value v => exact h _ _ hh
   case skip => exact h _ _ hh
   case enter f args => exact ⟨(fun hd => by cases hd), Calls.fw (Calls.mono hh fun e MM ⟨v, he, hv⟩ => by subst he; exact h _ _ hv) _ _⟩
   case round => exact ⟨(fun hd => by cases hd), zD.fw (RoundIn.mono hh fun e MM ⟨v, he, hv⟩ => by subst he; exact h _ _ hv) _ _⟩
  | halt x w' => exact hh.elim
 rename_i hw; rw [ae hw] at hh; exact ⟨fun _ _ => trivial, h _ _ hh⟩
theorem oz {ro : Option Nat} {Q : Act -> World -> Prop} {Q' : Exit -> Act -> World -> Prop} (hQ : ∀ a w, Q a w -> Q' .normal a w) : ∀ (fuel : Nat) (listed : Array Bool) (done : List Nat) (a : Act) (w : World),
  Ck P md ops Q fuel listed done a w -> wpAnyIn (Fw ro) 0 P md ops Q' fuel listed a w
 | 0, _, _, _, _, h => ⟨h.1, hQ _ _ h.2⟩
 | fuel + 1, _, _, _, _, h => ⟨fun h0 => hQ _ _ (h.1 h0), fun i hi => by
   obtain ⟨_, o, ho, _⟩ := mem_ready.1 hi;exact oO ho (fun a' w' => oz hQ fuel _ _ a' w') (MJ (h.2 i hi o ho))⟩
structure Co (P : Program) (md : Region.Mode) (ops : Array Oper) (n : Nat) : Prop where
 sel : ∀ (j : Nat) (o : Oper) cs b, ops[j]? = some o -> o.op ≠ .select cs b
 dst : ∀ (j : Nat) (o : Oper), ops[j]? = some o -> ∀ d, o.dst = some d -> d < n
 reads : ∀ (q : Nat) (oq : Oper), ops[q]? = some oq -> ek P oq.op = 1 -> ∀ (i : Nat) (oi : Oper), ops[i]? = some oi -> (∀ d, oi.dst = some d -> d ∉ oq.looksAt ops /\ (i = q \/ oq.dst ≠ some d)) \/ (i ≠ q /\ q ∈ si md ops i)
theorem sP {a : Act} {n : Nat} (h : a.tmps.size = n) (d : Option Tmp) (v : Value) : (a.put d v).tmps.size = n := by cases d <;> simp [Act.put, h]
theorem xB {d1 d2 : List Nat} (h : ∀ q ∈ d2, q ∈ d1) {i : Nat} {o : Oper} {K : Act -> World -> Prop} {a : Act} {w : World} (hh : me P md ops d1 i o K a w) : me P md ops d2 i o K a w := by
 unfold me at *;split
 ·rename_i hw; rw [ah hw] at hh; exact jD (fun v w' hk => ⟨fun q hq => hk.1 q (h q hq), hk.2⟩) hh
 rename_i hw; rw [ae hw] at hh; exact hh
theorem IW {Q : Act -> World -> Prop} : ∀ (fuel : Nat) (listed : Array Bool) (d1 d2 : List Nat) (a : Act) (w : World), (∀ q ∈ d2, q ∈ d1) -> Ck P md ops Q fuel listed d1 a w -> Ck P md ops Q fuel listed d2 a w
 | 0, _, _, _, _, _, _, h => h
 | fuel + 1, listed, d1, d2, a, w, hs, h => ⟨h.1, fun i hi o ho => xB hs (hG (fun v w' h' => IW fuel _ (i :: d1) (i :: d2) _ _ (fun q hq => by
   rcases bB.1 hq with rfl | hq
   ·exact fp ..
   ·exact gF _ (hs q hq)) h') (h.2 i hi o ho))⟩
theorem GH {n : Nat} (gJ : Co P md ops n) {Q : Act -> World -> Prop} {i : Nat} {oi : Oper} (hi : ops[i]? = some oi) :
  ∀ (fuel : Nat) (listed : Array Bool) (done : List Nat) (a : Act) (w : World), a.tmps.size = n -> kS md ops listed -> (∀ q ∈ done, listed.getD q false = true) →
   (∀ j oj, ops[j]? = some oj -> j ≠ i -> listed.getD j true = false -> j ∉ si md ops i -> oi.apart ops oj = true /\ QM (ek P oi.op) (ek P oj.op) = true) →
   i ∈ Region.ready md ops listed -> me P md ops done i oi (Ck P md ops Q fuel (listed.setIfInBounds i true) (i :: done)) a w -> Ck P md ops Q (fuel + 1) listed done a w := by
 have clean : ∀ (listed : Array Bool) (done : List Nat), kS md ops listed -> (∀ q ∈ done, listed.getD q false = true) -> ∀ i oi, ops[i]? = some oi -> listed.getD i true = false →
   ∀ q ∈ done, ∀ oq, ops[q]? = some oq -> ek P oq.op = 1 -> ∀ d, oi.dst = some d -> d ∉ oq.looksAt ops /\ oq.dst ≠ some d := by
  intro listed done hc hd i oi hi OU q hq oq CP hk d Q7;have hqi : i ≠ q := fun e => by subst e; have := hd _ hq; rw [unl OU] at this; cases this
  rcases gJ.reads q oq CP hk i oi hi with h | ⟨_, h⟩
  ·exact ⟨(h d Q7).1, (h d Q7).2.resolve_left hqi⟩
  have := Hu hc (unl OU) h; rw [hd _ hq] at this; cases this
 intro fuel
 induction fuel with
 | zero =>
  intro listed done a w dm hc hd _ hr H;refine ⟨fun h => (by rw [h] at hr; cases hr), fun j hj oj Q4 => ?_⟩
  by_cases Fm : j = i
  ·subst Fm;have : oj = oi := Option.some.inj (Q4.symm.trans hi);subst this; exact H
  have := ready_mono hj Fm;obtain ⟨_, _, h0⟩ := Zb (MJ H);rw [h0.1] at this;cases this
 | succ fuel ih =>
  intro listed done a w dm hc hd WS hr H;refine ⟨fun h => (by rw [h] at hr; cases hr), fun j hj oj Q4 => ?_⟩
  by_cases Fm : j = i
  ·subst Fm;have : oj = oi := Option.some.inj (Q4.symm.trans hi);subst this; exact H
  obtain ⟨Yv, _⟩ := mem_ready.1 hj;obtain ⟨aaS, _⟩ := mem_ready.1 hr;have GQ : j ∉ si md ops i := fun h => qJ hc (unl aaS) h Fm hj
  obtain ⟨hap, yl⟩ := WS j oj Q4 Fm Yv GQ;have hH : me P md ops done i oi (me P md ops (i :: done) j oj (Ck P md ops Q fuel ((listed.setIfInBounds i true).setIfInBounds j true) (j :: i :: done))) a w :=
   hG (fun v w' h => h.2 j (ready_mono hj Fm) oj Q4) H
  have n4 : ek P oi.op = 1 -> ∀ d, oi.dst = some d -> d ∉ oi.looksAt ops := fun hk d yk => by
   rcases gJ.reads i oi hi hk i oi hi with h | ⟨h, _⟩
   ·exact (h d yk).1
   exact absurd rfl h
  have hS := QU hi Q4 hap gJ.sel yl GQ n4 (gJ.dst i oi hi) dm (clean listed done hc hd i oi hi aaS) (clean listed done hc hd j oj Q4 Yv) hH;have YA : ∀ k ok, ops[k]? = some ok -> k ≠ i -> (listed.setIfInBounds j true).getD k true = false -> k ∉ si md ops i →
    oi.apart ops ok = true /\ QM (ek P oi.op) (ek P ok.op) = true := fun k ok hk NL OU MU => by
   refine WS k ok hk NL ?_ MU
   by_cases LZ : j = k
   ·subst LZ; exact Yv
   rw [getD_set_ne true LZ] at OU; exact OU
  have yk : ∀ q ∈ j :: done, (listed.setIfInBounds j true).getD q false = true := fun q hq => by
   rcases bB.1 hq with rfl | hq
   ·have iD : q < listed.size := by rw [hc.size]; exact (sO.1 Q4).1
    simp [iD]
   exact getD_set_true (hd q hq)
  refine hG (fun u w' h => ?_) hS;refine ih (listed.setIfInBounds j true) (j :: done) _ w' (sP dm _ _) (hc.set hj) yk YA (ready_mono hr (Ne.symm Fm)) ?_;rw [Array.setIfInBounds_comm _ _ Fm];refine hG (fun v MM h => ?_) h;exact IW fuel _ (j :: i :: done) (i :: j :: done) _ _ (fun q hq => by simp at hq ⊢; rcases hq with h | h | h <;> simp [h]) h
def SL (P : Program) (ops : Array Oper) (Q : Act -> World -> Prop) : List Nat -> List Nat -> Act -> World -> Prop
 | _, [] => Q
 | done, i :: r => fun a w => match ops[i]? with
  | none => False
  | some o => me P .any ops done i o (SL P ops Q (i :: done) r) a w
def WX (P : Program) (ops : Array Oper) (listed : Array Bool) (i : Nat) : Bool :=
 (List.range ops.size).all fun j => j == i || listed.getD j true || (si .any ops i).contains j ||
  (match ops[i]?, ops[j]? with
   | some oi, some oj => oi.apart ops oj && QM (ek P oi.op) (ek P oj.op)
   | _, _ => false)
def G4 (P : Program) (ops : Array Oper) : List Nat -> Array Bool -> Bool
 | [], listed => (Region.ready .any ops listed).isEmpty
 | i :: r, listed => (Region.ready .any ops listed).contains i && WX P ops listed i && G4 P ops r (listed.setIfInBounds i true)
def VK (n : Nat) (ops : Array Oper) : Bool := ops.all fun o => match o.dst with | some d => Nat.blt d n | none => true
def Jh (P : Program) (ops : Array Oper) : Bool :=
 (List.range ops.size).all fun q => match ops[q]? with
  | some oq => !(ek P oq.op == 1) || (List.range ops.size).all fun i => match ops[i]? with
   | some oi => (match oi.dst with
    | some d => (!(oq.looksAt ops).contains d && (i == q || !(oq.dst == some d))) || (!(i == q) && (si .any ops i).contains q)
    | none => true)
   | none => true
  | none => true
def Xt (P : Program) (ops : Array Oper) (n : Nat) (perm : List Nat) : Bool :=
 Region.noSelect ops && VK n ops && Jh P ops && perm.length == ops.size && G4 P ops perm (Array.replicate ops.size false)
theorem Ge {n : Nat} (h1 : Region.noSelect ops = true) (h2 : VK n ops = true) (h3 : Jh P ops = true) : Co P .any ops n where
 sel := Region.noSelect_spec h1
 dst := fun j o ho d hd => by
  have := Xx.1 h2 o (Array.mem_of_getElem? ho);rw [hd] at this; simpa using this
 reads := fun q oq hq hk i oi hi => by
  have MR : q < ops.size := (sO.1 hq).1;have CR : i < ops.size := (sO.1 hi).1;have a1 := yR.1 h3 q (sL.2 MR);simp only [hq, hk, beq_self_eq_true, Bool.not_true, Bool.false_or] at a1;have a2 := yR.1 a1 i (sL.2 CR);simp only [hi] at a2
  cases hd : oi.dst with
  | none => exact .inl fun d h => by cases h
  | some d =>
   simp only [hd, Bool.or_eq_true, qD, Bool.not_eq_true', beq_iff_eq, By, beq_eq_false_iff_ne] at a2;rcases a2 with ⟨h4, h5⟩ | ⟨h4, h5⟩
   ·refine .inl fun d' yk => ?_
    cases yk;refine ⟨fun hm => ?_, h5⟩;have : (oq.looksAt ops).contains d = true := By.2 hm;rw [this] at h4; cases h4
   exact .inr ⟨h4, h5⟩
theorem A7 {n : Nat} (gJ : Co P .any ops n) {Q : Act -> World -> Prop} : ∀ (perm : List Nat) (listed : Array Bool) (done : List Nat) (a : Act) (w : World), a.tmps.size = n -> kS .any ops listed →
  (∀ q ∈ done, listed.getD q false = true) -> G4 P ops perm listed = true -> SL P ops Q done perm a w -> Ck P .any ops Q perm.length listed done a w
 | [], _, _, _, _, _, _, _, hB, h => ⟨by simpa [G4] using hB, h⟩
 | i :: r, listed, done, a, w, dm, hc, hd, hB, h => by
  simp only [G4, qD] at hB;obtain ⟨⟨hr, hf⟩, hB'⟩ := hB;have JK : i ∈ Region.ready .any ops listed := by simpa using hr
  obtain ⟨_, oi, S6, _⟩ := mem_ready.1 JK;simp only [SL, S6] at h;refine GH gJ S6 r.length listed done a w dm hc hd (fun j oj hj Fm OU GQ => ?_) JK ?_
  ·have iD : j < ops.size := (sO.1 hj).1;have h1 := yR.1 hf j (sL.2 iD);have hb : (j == i) = false := by simpa using Fm
   have Be : (si .any ops i).contains j = false := by
    cases hx : (si .any ops i).contains j with
    | false => rfl
    | true => exact absurd (By.1 hx) GQ
   simp only [hb, OU, Be, Bool.false_or, S6, hj, qD] at h1;exact h1
  refine hG (fun v w' h' => A7 gJ r _ _ _ _ (sP dm _ _) (hc.set JK) (fun q hq => ?_) hB' h') h;rcases bB.1 hq with rfl | hq
  ·have iD : q < listed.size := by rw [hc.size]; exact (sO.1 S6).1
   simp [iD]
  exact getD_set_true (hd q hq)
theorem Ei {ro : Option Nat} {n : Nat} (perm : List Nat) {id : Nat} {Q : Exit -> Act -> World -> Prop} {a : Act} {w : World} (hm : P.follows .mixedOrders = true) (hB : Xt P ops n perm = true) (dm : a.tmps.size = n)
  (h : SL P ops (Q .normal) [] perm a { w with drawn := w.drawn + 1 }) : (Code.region id ops true).wpIn (Fw ro) 0 P Q a w := by
 simp only [Xt, qD, beq_iff_eq] at hB;obtain ⟨⟨⟨⟨h1, h2⟩, h3⟩, h4⟩, h5⟩ := hB;refine wpIn_region_any hm (oz (Q := Q .normal) (fun _ _ h => h) _ _ [] _ _ ?_);rw [<-h4] at h5 ⊢
 refine A7 (Ge h1 h2 h3) perm _ [] a _ dm ⟨by simp [h4], fun j o ho hl => ?_⟩ (fun q hq => by cases hq) h5 h;exfalso;rcases K2 j perm.length with h' | h'
 ·simp [h'] at hl
 simp [R9 (show (Array.replicate perm.length false).size <= j by simpa using h')] at hl
def SN (P : Program) (ops : Array Oper) (Q : Act -> World -> Prop) : List Nat -> Act -> World -> Prop
 | [] => Q
 | i :: r => fun a w => match ops[i]? with
  | none => False
  | some o => MZ P ops o (SN P ops Q r) a w
theorem Cs {ro : Option Nat} {Q : Exit -> Act -> World -> Prop} : ∀ (l : List Nat) (a : Act) (w : World), SN P ops (Q .normal) l a w -> wpOpsIn (Fw ro) 0 P ops Q l a w
 | [], _, _, h => h
 | i :: r, a, w, h => by
  rw [wpOpsIn_cons];simp only [SN] at h;cases ho : ops[i]? with
  | none => rw [ho] at h; exact h.elim
  | some o =>
   rw [ho] at h;exact oO ho (fun a' w' h' => Cs r a' w' h') h
theorem C4 {ro : Option Nat} {id : Nat} {Q : Exit -> Act -> World -> Prop} {a : Act} {w : World} (h : SN P ops (Q .normal) (List.range ops.size) a w) : (Code.region id ops false).wpIn (Fw ro) 0 P Q a w :=
 wpIn_region (Cs _ a w h)
end
abbrev gj := List (Nat × Value)
def get : gj -> Nat -> Option Value
 | [], _ => none
 | (k, v) :: r, t => cond (Nat.beq k t && !Nat.beq t 1000000000) (some v) (get r t)
def marks : gj -> List Value
 | [] => []
 | (k, v) :: r => cond (Nat.beq k 1000000000) (v :: marks r) (marks r)
def YX : Value -> Deferred
 | .pointer (some a) => { target := .collected a.block, args := #[] }
 | .func fn first captured => { target := .fn fn captured, args := first }
 | _ => { target := .nil, args := #[] }
theorem uH {k t : Nat} (h : k ≠ t) : Nat.beq k t = false := by cases hb : Nat.beq k t with | false => rfl | true => exact absurd (Nat.eq_of_beq_eq_true hb) h
theorem wh {e : gj} {v : Value} {t : Nat} (h : get e t = some v) : t ≠ 1000000000 := by
 induction e with
 | nil => cases h
 | cons x r ih =>
  obtain ⟨k, u⟩ := x;rintro rfl;simp only [get, Nat.beq_refl, Bool.not_true, Bool.and_false, cond] at h;exact ih h rfl
theorem lj {e : gj} {k t : Nat} {u v : Value} (h : get ((k, u) :: e) t = some v) : (k = t /\ u = v) \/ (k ≠ t /\ get e t = some v) := by
 have ht := wh h;simp only [get, uH ht, Bool.not_false, Bool.and_true] at h
 by_cases hk : k = t
 ·subst hk; simp at h; exact .inl ⟨rfl, h⟩
 rw [uH hk] at h; exact .inr ⟨hk, h⟩
theorem j5 {e : gj} {k : Nat} {v : Value} (h : k ≠ 1000000000) : marks ((k, v) :: e) = marks e := by simp only [marks, uH h, cond]
def ev (e : gj) : Operand -> Option Value
 | .tmp t => get e t
 | .const v => some v
 | .global g => some (pQ g)
 | .func f => some (.func (.func f) #[] #[])
def qX (e : gj) : Option Tmp -> Value -> gj
 | some d, v => (d, v) :: e
 | none, _ => e
structure dT (n : Nat) (e : gj) (a : Act) : Prop where
 defers : a.defers = (marks e).map YX
 size : a.tmps.size = n
 small : n <= 1000000
 get : ∀ t v, get e t = some v -> a.tmps.getD t undef = v
def hC (e' e : gj) : Prop := ∀ t v, get e' t = some v -> get e t = some v
theorem hC.nil (e : gj) : hC [] e := fun _ _ h => by cases h
theorem hC.mark {e' e : gj} {v : Value} (h : hC e' e) : hC ((1000000000, v) :: e') e := fun t u hu => by
 rcases lj hu with ⟨h1, _⟩ | ⟨_, h2⟩
 ·exact absurd h1.symm (wh hu)
 exact h t u h2
theorem hC.cons {e' e : gj} {k : Nat} {v : Value} (h : X.get e k = some v) (h' : hC e' e) : hC ((k, v) :: e') e := fun t u hu => by
 rcases lj hu with ⟨rfl, rfl⟩ | ⟨_, h2⟩
 ·exact h
 exact h' t u h2
structure kK (e' e : gj) : Prop where
 get : hC e' e
 marks : marks e' = marks e
theorem kK.refl (e : gj) : kK e e := ⟨fun _ _ h => h, rfl⟩
theorem kK.cons {e' e : gj} {k : Nat} {v : Value} (h : X.get e k = some v) (h' : kK e' e) : kK ((k, v) :: e') e := ⟨hC.cons h h'.get, (j5 (wh h)).trans h'.marks⟩
theorem dT.sub {n : Nat} {e e' : gj} {a : Act} (h : dT n e a) (hs : kK e' e) : dT n e' a := ⟨by rw [hs.marks]; exact h.defers, h.size, h.small, fun t v hv => h.get t v (hs.get t v hv)⟩
theorem dT.put {n : Nat} {e : gj} {a : Act} (h : dT n e a) {d : Nat} (hd : d < n) (v : Value) : dT n ((d, v) :: e) (a.put (some d) v) := by
 have hs := h.small;refine ⟨by rw [j5 oM]; exact h.defers, by simp [Act.put, h.size], hs, fun t u hu => ?_⟩;rcases lj hu with ⟨rfl, rfl⟩ | ⟨hk, hu⟩
 ·simp [Act.put, h.size, hd]
 have := h.get t u hu;simp only [Act.put, Sb, UO hk]
 simpa using this
theorem dT.ev {n : Nat} {e : gj} {a : Act} (h : dT n e a) {x : Operand} {v : Value} (hx : X.ev e x = some v) : a.eval x = v := by
 cases x with
 | tmp t => exact h.get t v hx
 | _ => simp [X.ev] at hx; simp [Act.eval, hx]
def cS (n : Nat) (o : Oper) : Bool := (match o.dst with | some d => Nat.blt d n | none => true) && (match o.op with | .select .. => false | _ => true)
theorem QL {n : Nat} {o : Oper} (h : cS n o = true) : ∀ cs b, o.op ≠ .select cs b := by
 intro cs b he; unfold cS at h; rw [he] at h; simp at h
theorem dT.qX {n : Nat} {e : gj} {a : Act} (h : dT n e a) {o : Oper} (ho : cS n o = true) (v : Value) : dT n (X.qX e o.dst v) (a.put o.dst v) := by
 unfold cS at ho;cases hd : o.dst with
 | none => exact h
 | some d => rw [hd] at ho; simp only [qD] at ho; exact h.put (by simpa using ho.1) v
def XL (P : Program) (n : Nat) (ops : Array Oper) (dr : Bool) (done l : List Nat) (K : gj -> World -> Prop) (e : gj) (w : World) : Prop :=
 ∀ a, dT n e a -> cond dr (SL P ops (fun a' w' => ∃ e', dT n e' a' /\ K e' w') done l a w) (SN P ops (fun a' w' => ∃ e', dT n e' a' /\ K e' w') l a w)
def Gd (ops : Array Oper) (e : gj) : Option (Nat × Bool) -> Prop
 | none => True
 | some (j, want) => ∃ d, (ops[j]?).bind (·.dst) = some d /\ get e d = some (.bool want)
def iI (P : Program) (ops : Array Oper) (dr : Bool) (done : List Nat) (i : Nat) : List Nat := cond dr (done.filter fun q => pb P .any ops q i) []
def vt (P : Program) (n : Nat) (ops : Array Oper) (q : Nat) (e : gj) (w : World) : Prop := ∀ o, ops[q]? = some o -> ∀ a, dT n e a -> Wf P ops o a w
section
variable {P : Program} {n : Nat} {ops : Array Oper} {dr : Bool} {done r : List Nat} {K : gj -> World -> Prop} {e : gj} {w : World} {o : Oper}
theorem aH (h : K e w) : XL P n ops dr done [] K e w := fun a ha => by cases dr <;> exact ⟨e, ha, h⟩
theorem D' {Q Q' : Act -> World -> Prop} (h : ∀ a w, Q a w -> Q' a w) : ∀ (l : List Nat) (a : Act) (w : World), SN P ops Q l a w -> SN P ops Q' l a w
 | [], a, w, hh => h a w hh
 | i :: l, a, w, hh => by
  simp only [SN] at hh ⊢;split
  ·rename_i ho; rw [ho] at hh; exact hh
  rename_i o ho; rw [ho] at hh; exact GG (fun v w' => D' h l _ w') hh
theorem rV {Q Q' : Act -> World -> Prop} (h : ∀ a w, Q a w -> Q' a w) : ∀ (l done : List Nat) (a : Act) (w : World), SL P ops Q done l a w -> SL P ops Q' done l a w
 | [], _, a, w, hh => h a w hh
 | i :: l, done, a, w, hh => by
  simp only [SL] at hh ⊢;split
  ·rename_i ho; rw [ho] at hh; exact hh
  rename_i o ho; rw [ho] at hh; exact hG (fun v w' => rV h l _ _ w') hh
theorem ee {e' : gj} (hs : kK e' e) (h : XL P n ops dr done r K e' w) : XL P n ops dr done r K e w := fun a ha => h a (ha.sub hs)
theorem yG {a : Act} (ha : dT n e a) {j d : Nat} (hj : (ops[j]?).bind (·.dst) = some d) {b : Bool} (hd : get e d = some (.bool b)) : yielded ops a.tmps j = some b := by
 have h1 := ha.get d _ hd;unfold yielded;rw [hj];have h2 : a.tmps[d]? = some (.bool b) := by
  cases h3 : a.tmps[d]? with
  | none => simp [Sb, h3, undef] at h1
  | some v => simp [Sb, h3] at h1; rw [h1]
 simp [h2]
theorem KB {a : Act} (ha : dT n e a) {j d : Nat} (hj : (ops[j]?).bind (·.dst) = some d) (hd : get e d = some undef) : yielded ops a.tmps j = none := by
 have h1 := ha.get d _ hd;unfold yielded;rw [hj];cases h3 : a.tmps[d]? with
 | none => simp [h3]
 | some v => simp [Sb, h3] at h1; simp [h3, h1, undef]
theorem HU {a : Act} (ha : dT n e a) (hg : Gd ops e o.guard) : Region.wanted o (yielded ops a.tmps) = true := by
 unfold Region.wanted;cases hgd : o.guard with
 | none => rfl
 | some jw =>
  obtain ⟨j, want⟩ := jw;rw [hgd] at hg;obtain ⟨d, h1, h2⟩ := hg;simp [yG ha h1 h2]
theorem xd {i : Nat} (ho : ops[i]? = some o) (hd : cS n o = true) (hg : Gd ops e o.guard) {ρ : Operand -> Value} (SH : ∀ x ∈ o.op.operands, ev e x = some (ρ x))
  (h : xG P (execOp ρ o) (ek P o.op) w fun v w' => (∀ q ∈ iI P ops dr done i, vt P n ops q (qX e o.dst v) w') /\ XL P n ops dr (i :: done) r K (qX e o.dst v) w') :
  XL P n ops dr done (i :: r) K e w := by
 intro a ha;have he : execOp a.eval o = execOp ρ o := execOp_congr o (QL hd) fun x hx => ha.ev (SH x hx)
 cases dr
 ·simp only [SN, ho, cond];unfold MZ;rw [ah (HU ha hg), he];exact jD (fun v w' h' => h'.2 _ (ha.qX hd v)) h
 simp only [SL, ho, cond];unfold me;rw [ah (HU ha hg), he];refine jD (fun v w' h' => ⟨fun q hq hb oq CP => h'.1 q (G1.2 ⟨hq, hb⟩) oq CP _ (ha.qX hd v), h'.2 _ (ha.qX hd v)⟩) h
theorem eO {i : Nat} (ho : ops[i]? = some o) (hd : cS n o = true) (hg : Gd ops e o.guard) {ρ : Operand -> Value} (SH : ∀ x ∈ o.op.operands, ev e x = some (ρ x)) (hk : ek P o.op = 0) {v : Value}
  (hv : ∀ w', (execOp ρ o).run P w' = .ok (.value v) w') (h : XL P n ops dr (i :: done) r K (qX e o.dst v) w) : XL P n ops dr done (i :: r) K e w := by
 refine xd ho hd hg SH ?_;rw [hk];refine ⟨v, hv, fun q hq => ?_, h⟩;cases dr
 ·cases hq
 obtain ⟨_, hb⟩ := G1.1 hq;unfold pb at hb;rw [ho] at hb
 split at hb
 ·rename_i oq oi h1 h2; cases h2; simp [hk] at hb
 cases hb
theorem DQ {i : Nat} (ho : ops[i]? = some o) (hd : cS n o = true) (hg : Gd ops e o.guard) {ρ : Operand -> Value} (SH : ∀ x ∈ o.op.operands, ev e x = some (ρ x)) (hk : ek P o.op = 1) {v : Value}
  (hv : (execOp ρ o).run P w = .ok (.value v) w) (h : XL P n ops dr (i :: done) r K (qX e o.dst v) w) : XL P n ops dr done (i :: r) K e w := by
 refine xd ho hd hg SH ?_;rw [hk];refine ⟨v, hv, fun q hq => ?_, h⟩;cases dr
 ·cases hq
 obtain ⟨_, hb⟩ := G1.1 hq;unfold pb at hb;rw [ho] at hb
 split at hb
 ·rename_i oq oi h1 h2; cases h2; simp [hk] at hb
 cases hb
theorem iY {i : Nat} (ho : ops[i]? = some o) (hd : cS n o = true) (hg : Gd ops e o.guard) {ρ : Operand -> Value} (SH : ∀ x ∈ o.op.operands, ev e x = some (ρ x)) (hk : ek P o.op = 2) {v : Value} {w' : World}
  (hv : (execOp ρ o).run P w = .ok (.value v) w') (hp : ∀ q ∈ iI P ops dr done i, vt P n ops q (qX e o.dst v) w') (h : XL P n ops dr (i :: done) r K (qX e o.dst v) w') : XL P n ops dr done (i :: r) K e w := by
 refine xd ho hd hg SH ?_;rw [hk]
 show match (execOp ρ o).run P w with | _ => _
 unfold xG;rw [hv];exact ⟨hp, h⟩
theorem DR {i : Nat} (ho : ops[i]? = some o) (hd : cS n o = true) (hg : Gd ops e o.guard) {ρ : Operand -> Value} (SH : ∀ x ∈ o.op.operands, ev e x = some (ρ x)) (hk : ek P o.op = 2) {w' : World}
  (hv : (execOp ρ o).run P w = .ok .skip w') (hp : ∀ q ∈ iI P ops dr done i, vt P n ops q (qX e o.dst undef) w') (h : XL P n ops dr (i :: done) r K (qX e o.dst undef) w') : XL P n ops dr done (i :: r) K e w := by
 refine xd ho hd hg SH ?_;rw [hk];unfold xG;rw [hv];exact ⟨hp, h⟩
theorem Od {i : Nat} (ho : ops[i]? = some o) (hd : cS n o = true) (hg : Gd ops e o.guard) {ρ : Operand -> Value} (SH : ∀ x ∈ o.op.operands, ev e x = some (ρ x)) (hk : ek P o.op = 2) {f : FuncId} {args : Array Value}
  (hv : (execOp ρ o).run P w = .ok (.enter f args) w) {R : Value -> World -> Prop} (hc : Calls P f args w (dv R))
  (h : ∀ v w', R v w' -> (∀ q ∈ iI P ops dr done i, vt P n ops q (qX e o.dst v) w') /\ XL P n ops dr (i :: done) r K (qX e o.dst v) w') : XL P n ops dr done (i :: r) K e w := by
 refine xd ho hd hg SH ?_;rw [hk];unfold xG;rw [hv];exact hc.mono fun e w' ⟨v, he, hR⟩ => ⟨v, he, h v w' hR⟩
theorem ZT {i j d : Nat} {want b : Bool} (ho : ops[i]? = some o) (hd : cS n o = true) (hg : o.guard = some (j, want)) (hj : (ops[j]?).bind (·.dst) = some d) (hv : get e d = some (.bool b)) (hb : b = !want)
  (h : XL P n ops dr (i :: done) r K (qX e o.dst undef) w) : XL P n ops dr done (i :: r) K e w := by
 intro a ha;have hw : Region.wanted o (yielded ops a.tmps) = false := by simp [Region.wanted, hg, yG ha hj hv, hb]
 cases dr
 ·simp only [SN, ho, cond];unfold MZ; rw [ae (by simp [hw])];exact h _ (ha.qX hd undef)
 simp only [SL, ho, cond];unfold me; rw [ae (by simp [hw])];exact h _ (ha.qX hd undef)
theorem Uk {i j d : Nat} {want : Bool} (ho : ops[i]? = some o) (hd : cS n o = true) (hg : o.guard = some (j, want)) (hj : (ops[j]?).bind (·.dst) = some d) (hv : get e d = some undef)
  (h : XL P n ops dr (i :: done) r K (qX e o.dst undef) w) : XL P n ops dr done (i :: r) K e w := by
 intro a ha;have hw : Region.wanted o (yielded ops a.tmps) = false := by simp [Region.wanted, hg, KB ha hj hv]
 cases dr
 ·simp only [SN, ho, cond];unfold MZ; rw [ae (by simp [hw])];exact h _ (ha.qX hd undef)
 simp only [SL, ho, cond];unfold me; rw [ae (by simp [hw])];exact h _ (ha.qX hd undef)
theorem Oa {Q : Act -> World -> Prop} : ∀ (l1 l2 : List Nat) (a : Act) (w : World), SN P ops (SN P ops Q l2) l1 a w -> SN P ops Q (l1 ++ l2) a w
 | [], _, _, _, h => h
 | i :: l1, l2, a, w, h => by
  simp only [SN, j4] at h ⊢;split
  ·rename_i ho; rw [ho] at h; exact h
  rename_i o ho; rw [ho] at h; exact GG (fun v w' => Oa l1 l2 _ w') h
theorem Ob {Q : Act -> World -> Prop} : ∀ (l1 l2 done : List Nat) (a : Act) (w : World), SL P ops (SL P ops Q (l1.reverse ++ done) l2) done l1 a w -> SL P ops Q done (l1 ++ l2) a w
 | [], _, _, _, _, h => h
 | i :: l1, l2, done, a, w, h => by
  simp only [SL, j4, List.reverse_cons, je, jG] at h ⊢;split
  ·rename_i ho; rw [ho] at h; exact h
  rename_i o ho; rw [ho] at h; exact hG (fun v w' => Ob l1 l2 _ _ w') h
structure Kp (S : List Nat) (a a' : Act) : Prop where
 defers : a'.defers = a.defers
 size : a'.tmps.size = a.tmps.size
 same : ∀ t, S.contains t = false -> a'.tmps.getD t undef = a.tmps.getD t undef
theorem Kp.refl (S : List Nat) (a : Act) : Kp S a a := ⟨rfl, rfl, fun _ _ => rfl⟩
theorem Kp.trans {S : List Nat} {a b c : Act} (h : Kp S a b) (h' : Kp S b c) : Kp S a c := ⟨h'.defers.trans h.defers, h'.size.trans h.size, fun t ht => (h'.same t ht).trans (h.same t ht)⟩
theorem Kp.put {S : List Nat} {a : Act} {d : Option Tmp} (v : Value) (h : ∀ t, d = some t -> S.contains t = true) : Kp S a (a.put d v) := by
 cases d with
 | none => exact Kp.refl S a
 | some t =>
  refine ⟨rfl, by simp [Act.put], fun u hu => ?_⟩;have ly : t ≠ u := fun e => by subst e; rw [h t rfl] at hu; cases hu
  simp [Act.put, UO ly]
def DB (ops : Array Oper) (l : List Nat) : List Nat := l.filterMap fun i => (ops[i]?).bind (·.dst)
theorem AE {l : List Nat} {i : Nat} {o : Oper} (hi : i ∈ l) (ho : ops[i]? = some o) : ∀ t, o.dst = some t -> (DB ops l).contains t = true := fun t ht => by
 rw [By];exact UF.2 ⟨i, hi, by rw [ho]; exact ht⟩
theorem Kj {Q : Act -> World -> Prop} {S : List Nat} : ∀ (l : List Nat) (a : Act) (w : World), (∀ i ∈ l, ∀ o, ops[i]? = some o -> ∀ t, o.dst = some t -> S.contains t = true) -> SN P ops Q l a w -> SN P ops (fun a' w' => Q a' w' /\ Kp S a a') l a w
 | [], a, w, _, h => ⟨h, Kp.refl S a⟩
 | i :: l, a, w, hS, h => by
  simp only [SN] at h ⊢;split
  ·rename_i ho; rw [ho] at h; exact h
  rename_i o ho;rw [ho] at h;exact GG (fun v w' hx => D' (fun a' MM hy => ⟨hy.1, (Kp.put v (hS i (fp ..) o ho)).trans hy.2⟩) _ _ _ (Kj l _ w' (fun j hj => hS j (gF _ hj)) hx)) h
theorem A5 {Q : Act -> World -> Prop} {S : List Nat} : ∀ (l done : List Nat) (a : Act) (w : World), (∀ i ∈ l, ∀ o, ops[i]? = some o -> ∀ t, o.dst = some t -> S.contains t = true) -> SL P ops Q done l a w -> SL P ops (fun a' w' => Q a' w' /\ Kp S a a') done l a w
 | [], _, a, w, _, h => ⟨h, Kp.refl S a⟩
 | i :: l, done, a, w, hS, h => by
  simp only [SL] at h ⊢;split
  ·rename_i ho; rw [ho] at h; exact h
  rename_i o ho;rw [ho] at h;exact hG (fun v w' hx => rV (fun a' MM hy => ⟨hy.1, (Kp.put v (hS i (fp ..) o ho)).trans hy.2⟩) _ _ _ _ (A5 l _ _ w' (fun j hj => hS j (gF _ hj)) hx)) h
def Fy (S : List Nat) (e : gj) : Bool := e.all fun x => !S.contains x.1
theorem ug {S : List Nat} {e : gj} {t : Nat} {v : Value} (h : Fy S e = true) (hg : get e t = some v) : S.contains t = false := by
 induction e with
 | nil => cases hg
 | cons x r ih =>
  obtain ⟨k, u⟩ := x;simp only [Fy, List.all_cons, qD] at h;rcases lj hg with ⟨rfl, _⟩ | ⟨_, hg⟩
  ·simpa using h.1
  exact ih h.2 hg
theorem bY {l l1 l2 : List Nat} (hl : l = l1 ++ l2) {d : Nat} (q : Prop) [Decidable q] (hf : Fy (DB ops l1) e = true) (h1 : XL P n ops dr done l1 (fun e' w' => w' = w /\ get e' d = some (.bool (decide q))) e w)
  (h2 : XL P n ops dr (l1.reverse ++ done) l2 K ((d, .bool (decide q)) :: e) w) : XL P n ops dr done l K e w := by
 subst hl;intro a ha;have h := h1 a ha;have key : ∀ (a' : Act) (w' : World), (∃ e', dT n e' a' /\ w' = w /\ get e' d = some (.bool (decide q))) -> Kp (DB ops l1) a a' -> dT n ((d, .bool (decide q)) :: e) a' /\ w' = w := fun a' w' ⟨e', Hh, hw, hg⟩ hk => by
  refine ⟨⟨by rw [j5 (wh hg), hk.defers]; exact ha.defers, hk.size.trans ha.size, ha.small, fun t v hv => ?_⟩, hw⟩;rcases lj hv with ⟨rfl, rfl⟩ | ⟨_, hv⟩
  ·exact Hh.get _ _ hg
  rw [hk.same t (ug hf hv)]; exact ha.get t v hv
 have hS : ∀ i ∈ l1, ∀ o, ops[i]? = some o -> ∀ t, o.dst = some t -> (DB ops l1).contains t = true := fun i hi o ho => AE hi ho
 cases dr
 ·exact Oa l1 l2 a w (D' (fun a' w' hx => by obtain ⟨h3, rfl⟩ := key a' w' hx.1 hx.2; exact h2 a' h3) _ _ _ (Kj _ _ _ hS h))
 exact Ob l1 l2 done a w (rV (fun a' w' hx => by obtain ⟨h3, rfl⟩ := key a' w' hx.1 hx.2; exact h2 a' h3) _ _ _ _ (A5 _ _ _ _ hS h))
theorem aE {d : Nat} {p : Prop} [Decidable p] (hv : get e d = some (.bool (decide p))) (ht : p -> XL P n ops dr done r K ((d, .bool true) :: e) w) (hf : ¬ p -> XL P n ops dr done r K ((d, .bool false) :: e) w) :
  XL P n ops dr done r K e w := by
 by_cases hp : p
 ·exact ee (kK.cons (by rw [hv]; simp [hp]) (kK.refl e)) (ht hp)
 exact ee (kK.cons (by rw [hv]; simp [hp]) (kK.refl e)) (hf hp)
end
abbrev mK := gj -> World -> Prop
def uQ : List (Nat × mK) -> Nat -> Option mK
 | [], _ => none
 | (k, K) :: r, t => cond (Nat.beq k t) (some K) (uQ r t)
def rE (K : mK) (E : List (Nat × mK)) (F : mK) (n : Nat) : Exit -> Act -> World -> Prop
 | .normal, a, w => ∃ e, dT n e a /\ K e w
 | .ret, a, w => ∃ e, dT n e a /\ F e w
 | .exit id, a, w => ∃ K', uQ E id = some K' /\ ∃ e, dT n e a /\ K' e w
 | _, _, _ => False
def X (P : Program) (n : Nat) (ro : Option Nat) (c : Code) (K : mK) (E : List (Nat × mK)) (F : mK) (e : gj) (w : World) : Prop := ∀ a, dT n e a -> c.wpIn (Fw ro) 0 P (rE K E F n) a w
section
variable {P : Program} {n : Nat} {ro : Option Nat} {c x y : Code} {K F : mK} {E : List (Nat × mK)} {e : gj} {w : World}
theorem Rk {e' : gj} (hs : kK e' e) (h : X P n ro c K E F e' w) : X P n ro c K E F e w := fun a ha => h a (ha.sub hs)
theorem Xd {K' F' : mK} (h : X P n ro c K E F e w) (hn : ∀ e w, K e w -> K' e w) (hr : ∀ e w, F e w -> F' e w) : X P n ro c K' E F' e w := fun a ha =>
 wpIn_mono (h a ha) fun ex a w hq => by
  cases ex <;> simp only [rE] at hq ⊢
  case normal => obtain ⟨e, h1, h2⟩ := hq; exact ⟨e, h1, hn _ _ h2⟩
  case ret => obtain ⟨e, h1, h2⟩ := hq; exact ⟨e, h1, hr _ _ h2⟩
  case exit id => exact hq
theorem eH (h : K e w) : X P n ro .skip K E F e w := fun a ha => wpIn_skip ⟨e, ha, h⟩
theorem Uo {l : Nat} (h : K e w) : X P n ro (.label l) K E F e w := fun a ha => wpIn_label ⟨e, ha, h⟩
theorem rm (h : F e w) : X P n ro .ret K E F e w := fun a ha => wpIn_ret ⟨e, ha, h⟩
theorem Xe {id : Nat} {K' : mK} (hk : uQ E id = some K') (h : K' e w) : X P n ro (.exit id) K E F e w := fun a ha => wpIn_exit ⟨K', hk, e, ha, h⟩
theorem zL (h : X P n ro x (X P n ro y K E F) E F e w) : X P n ro (.seq x y) K E F e w := fun a ha =>
 wpIn_seq (wpIn_mono (h a ha) fun ex a w hq => by
  cases ex <;> simp only [rE] at hq <;> simp only [Exit.then]
  case normal => obtain ⟨e, h1, h2⟩ := hq; exact h2 a h1
  case ret => exact hq
  case exit id => exact hq)
theorem mZ (J : mK) (h : X P n ro x (fun e w => ∃ e', kK e' e /\ J e' w) E F e w) (h' : ∀ e w, J e w -> X P n ro y K E F e w) : X P n ro (.seq x y) K E F e w :=
 zL (Xd h (fun _ _ ⟨_, hs, hj⟩ => Rk hs (h' _ _ hj)) (fun _ _ h => h))
theorem fm {TF : Operand} {t : Bool} (hc : ev e TF = some (.bool t)) (ht : t = true -> X P n ro x K E F e w) (hf : t = false -> X P n ro y K E F e w) : X P n ro (.cond TF x y) K E F e w := fun a ha =>
 wpIn_cond_split (ha.ev hc) (fun h => ht h a ha) (fun h => hf h a ha)
theorem eg {TF : Operand} (hc : ev e TF = some (.bool true)) (ht : X P n ro x K E F e w) : X P n ro (.cond TF x y) K E F e w := fm hc (fun _ => ht) (fun h => by cases h)
theorem nb {TF : Operand} (hc : ev e TF = some (.bool false)) (hf : X P n ro y K E F e w) : X P n ro (.cond TF x y) K E F e w := fm hc (fun h => by cases h) (fun _ => hf)
theorem aS {TF : Operand} {p : Prop} [Decidable p] (hc : ev e TF = some (.bool (decide p))) (ht : p -> X P n ro x K E F e w) (hf : ¬ p -> X P n ro y K E F e w) : X P n ro (.cond TF x y) K E F e w :=
 fm hc (fun h => ht (of_decide_eq_true h)) (fun h => hf (of_decide_eq_false h))
theorem Ur {id : Nat} (h : X P n ro x K ((id, K) :: E) F e w) : X P n ro (.block id x) K E F e w := fun a ha =>
 wpIn_block (wpIn_mono (h a ha) fun ex a w hq => by
  cases ex <;> simp only [rE] at hq <;> simp only [Exit.inBlock]
  case normal => exact hq
  case ret => exact hq
  case exit id' =>
   obtain ⟨K', hk, e, h1, h2⟩ := hq;simp only [uQ] at hk
   by_cases hid : id = id'
   ·subst hid; simp at hk; subst hk; rw [ah rfl]; exact ⟨e, h1, h2⟩
   ·rw [uH hid] at hk;rw [ae (fun h => hid h.symm)];exact ⟨K', hk, e, h1, h2⟩)
theorem Ul (h : X P n ro x K E F e w) : X P n ro (.scope x) K E F e w := fun a ha b k cs CO hb hr => by
 have h0 : (lone (b.atR a (.code (.scope x) :: k)) cs w).fenced P (Fw ro) := fenced_calm hb hr rfl;have s1 : step P (lone (b.atR a (.code (.scope x) :: k)) cs w) = .next (lone (b.atR a (.code x :: .inScope x :: k)) cs w) := step_lone_go (by simp [stepG, stepG.exec, Frame.atR]);have s2 : ∀ (a : Act) (w : World), step P (lone (b.atR a (.inScope x :: k)) cs w) = .next (lone (b.atR a k) cs w) := fun a w => step_lone_go (by simp [stepG, stepG.exec, Frame.atR])
 obtain ⟨ex, A3, xC, hq, BR⟩ := h a ha b (.inScope x :: k) cs CO hb hr;cases ex with
 | normal => exact ⟨.normal, A3, xC, hq, .head h0 s1 (StepsIn.trans BR (.one (fenced_calm hb hr rfl) (s2 _ _)))⟩
 | exit id =>
  have hx : exitTo id (.inScope x :: k) = exitTo id k := by simp [exitTo]
  exact ⟨.exit id, A3, xC, hq, fun k' hk => .head h0 s1 (BR.1 k' (by rw [hx]; exact hk)), fun hs hk => let ⟨k₁, h1, h2⟩ := BR.2 hs (by rw [hx]; exact hk); ⟨k₁, h1, .head h0 s1 h2⟩⟩
 | goto l => exact hq.elim
 | ret => exact ⟨.ret, A3, xC, hq, ArrivesIn.of_steps (e := .ret) (.one h0 s1) BR⟩
 | panic ch => exact hq.elim
 | outgrown => exact hq.elim
theorem Pw {a : Act} {Q : Exit -> Act -> World -> Prop} (I : Nat -> Act -> World -> Prop) {m : Nat} (XJ : I m a w)
  (round : ∀ m a w, I m a w -> c.wpIn (Fw ro) 0 P (Exit.then (fun a' w' => ∃ m', m' < m /\ I m' a' w') Q) a w) : (Code.loop c).wpIn (Fw ro) 0 P Q a w := by
 intro b k cs CO hb hr;have key : ∀ m a w, I m a w →
   ∃ e a' w', Q e a' w' /\ ArrivesIn (Machine.fenced P (Fw ro)) P (lone (b.atR a (.code c :: .inLoop c :: k)) cs w) b k cs e a' w' := by
  intro m
  induction m using Nat.strongRecOn with
  | _ m ih =>
   intro a w hI;obtain ⟨e, A3, xC, hq, BR⟩ := round m a w hI b (.inLoop c :: k) cs CO hb hr;cases e with
   | normal =>
    obtain ⟨m', iD, aa7⟩ := hq;obtain ⟨acL, Y9, Bh, aax, VC⟩ := ih m' iD A3 xC aa7;exact ⟨acL, Y9, Bh, aax, .of_steps (StepsIn.trans BR (.one (fenced_calm hb hr rfl) stepR_inLoop)) VC⟩
   | exit id => exact ⟨_, A3, xC, hq, .pass (x := .inLoop c) rfl (fun _ _ => .inl sM) BR⟩
   | goto l => exact ⟨_, A3, xC, hq, .pass (x := .inLoop c) rfl (fun _ _ => .inl sM) BR⟩
   | ret => exact ⟨_, A3, xC, hq, .pass (x := .inLoop c) rfl (fun _ _ => .inl sM) BR⟩
   | panic ch => exact ⟨_, A3, xC, hq, .pass (x := .inLoop c) rfl (fun _ _ => .inl sM) BR⟩
   | outgrown => exact ⟨_, A3, xC, hq, .pass (x := .inLoop c) rfl (fun _ _ => .inl sM) BR⟩
 obtain ⟨e, a', w', hq, BR⟩ := key m a w XJ;exact ⟨e, a', w', hq, .of_steps (.one (fenced_calm hb hr rfl) stepR_loop) BR⟩
theorem cO (I : Nat -> mK) {m : Nat} {e₀ : gj} (hs : kK e₀ e) (XJ : I m e₀ w)
  (round : ∀ m e w, I m e w -> X P n ro c (fun e' w' => ∃ m', m' < m /\ ∃ Ht, kK Ht e' /\ I m' Ht w') E F e w) : X P n ro (.loop c) K E F e w := fun a ha =>
 Pw (fun m a w => ∃ e, dT n e a /\ I m e w) (m := m) ⟨e₀, ha.sub hs, XJ⟩ fun m a w ⟨e, ha, hI⟩ =>
  wpIn_mono (round m e w hI a ha) fun ex a w hq => by
   cases ex <;> simp only [rE] at hq <;> simp only [Exit.then]
   case normal => obtain ⟨e', h1, m', hm, Ht, hs, hI⟩ := hq; exact ⟨m', hm, Ht, h1.sub hs, hI⟩
   case ret => exact hq
   case exit id => exact hq
theorem Ro {id : Nat} {ops : Array Oper} {l : List Nat} (hl : List.range ops.size = l) (h : XL P n ops false [] l K e w) : X P n ro (.region id ops false) K E F e w := fun a ha =>
 C4 (by rw [hl]; exact h a ha)
theorem bu {id : Nat} {ops : Array Oper} (perm : List Nat) (hm : P.follows .mixedOrders = true) (hB : Xt P ops n perm = true) (h : XL P n ops true [] perm K e { w with drawn := w.drawn + 1 }) :
  X P n ro (.region id ops true) K E F e w := fun a ha => Ei perm hm hB ha.size (h a ha)
theorem Of {id : Nat} {o : Oper} {d : Nat} {fs : FuncId} {t' : TypeId} {p p' : String} {af ZQ : Array Edge} {ts : Array TypeId} {fn : Fn} {first captured : Array Value} {hm : o = ⟨some d, o.op, o.type, p, af, none⟩}
  (hd : Nat.blt d n = true) (h : XL P n #[o] false [] [0] (fun e' w' => get e' d = some (.func fn first captured) /\ K ((1000000000, .func fn first captured) :: e') w') e w) :
  X P n none (.region id #[o, ⟨none, .defer ⟨.value (.tmp d), #[], ts⟩, t', p', ZQ, none⟩] false) K E F e w := fun a ha => by
 refine wpIn_region ?_;have h1 := h a ha;simp only [cond] at h1;have sY : ∀ i : Nat, i < 1 -> (#[o, (⟨none, .defer ⟨.value (.tmp d), #[], ts⟩, t', p', ZQ, none⟩ : Oper)] : Array Oper)[i]? = (#[o] : Array Oper)[i]? := fun i hi => by
  have : i = 0 := oM;subst this; rfl
 show wpOpsIn (Fw none) 0 P _ (rE K E F n) [0, 1] a w
 rw [wpOpsIn_cons];have h2 : MZ P #[o] o (fun a' w' => ∃ e', dT n e' a' /\ get e' d = some (.func fn first captured) /\ K ((1000000000, .func fn first captured) :: e') w') a w := h1;have Yy : o.guard = none := by rw [hm]
 have h3 : MZ P #[o, ⟨none, .defer ⟨.value (.tmp d), #[], ts⟩, t', p', ZQ, none⟩] o (fun a' w' => ∃ e', dT n e' a' /\ get e' d = some (.func fn first captured) /\ K ((1000000000, .func fn first captured) :: e') w') a w := by
  unfold MZ at h2 ⊢;have hw : ∀ y, Region.wanted o y = true := fun y => by simp [Region.wanted, Yy]
  rw [ah (hw _)] at h2 ⊢; exact h2
 refine oO rfl (fun a' w' h' => ?_) h3;obtain ⟨e', Hh, hg, hK⟩ := h';rw [wpOpsIn_cons];unfold wpOpIn;refine (show (if Region.wanted _ _ = true then _ else _ : Prop) from ?_);rw [ah (by simp [Region.wanted])];refine ⟨fun _ _ => trivial, ?_⟩;have hev : a'.eval (.tmp d) = .func fn first captured := Hh.ev (x := .tmp d) hg
 have G9 : ∀ w', (execOp a'.eval (⟨none, .defer ⟨.value (.tmp d), #[], ts⟩, t', p', ZQ, none⟩ : Oper)).run P w' = .ok (.defer (YX (.func fn first captured))) w' := fun w' => by
  simp [execOp, resolve, hev, Deferred.ofValue, YX]
 show Oper.uponIn (Fw none) 0 P (⟨none, .defer ⟨.value (.tmp d), #[], ts⟩, t', p', ZQ, none⟩ : Oper) a' _ _ ((execOp a'.eval (⟨none, .defer ⟨.value (.tmp d), #[], ts⟩, t', p', ZQ, none⟩ : Oper)).run P _)
 rw [G9, Oper.uponIn_defer];refine ⟨_, ⟨?_, Hh.size, Hh.small, fun t v hv => ?_⟩, hK⟩
 ·simp [marks, Hh.defers, Act.put]
 rcases lj hv with ⟨h1, _⟩ | ⟨_, h2⟩
 ·exact absurd h1.symm (wh hv)
 exact Hh.get t v h2
end
def We (P : Program) (f : FuncId) (args : Array Value) (w : World) (R : Value -> World -> Prop) : Prop := CallsDIn (Fw none) 0 P f args .returning w fun en u w' => u = .returning /\ dv R en w'
def qj (P : Program) (n : Nat) (fn : Func) (R : Value -> World -> Prop) : mK := fun e w =>
 ∀ a, dT n e a -> LeavesInM (Fw none) 0 P fn a.tmps (dv R) a.defers .returning w
def zB : Nat -> List Value -> gj
 | _, [] => []
 | k, v :: r => (k, v) :: zB (k + 1) r
theorem Ft : ∀ (l : List Value) (k t : Nat) (v : Value), get (zB k l) t = some v -> k <= t /\ l[t - k]? = some v
 | [], _, _, _, h => by cases h
 | u :: l, k, t, v, h => by
  rcases lj h with ⟨rfl, rfl⟩ | ⟨hk, h⟩
  ·simp
  obtain ⟨h1, h2⟩ := Ft l (k + 1) t v h;refine ⟨oM, ?_⟩;rw [show t - k = (t - (k + 1)) + 1 by omega]
  simpa using h2
theorem Ai : ∀ (l : List Value) (k : Nat), k + l.length <= 1000000 -> marks (zB k l) = []
 | [], _, _ => rfl
 | u :: l, k, h => by
  simp only [zB];rw [j5 (by simp at h; omega)];exact Ai l (k + 1) (by simp at h; omega)
theorem GA {args : List Value} {n : Nat} (hle : Nat.ble args.length n = true) (hs : Nat.ble n 1000000 = true) : dT n (zB 0 args) { tmps := args.toArray ++ Array.replicate (n - args.toArray.size) undef, defers := [] } := by
 have adp : args.length <= n := by simpa using hle
 have MQ : n <= 1000000 := by simpa using hs
 refine ⟨by rw [Ai args 0 oM]; rfl, by simp; omega, MQ, fun t v hv => ?_⟩;obtain ⟨_, h2⟩ := Ft args 0 t v hv;have iD : t < args.length := by
  rcases K2 t args.length with h' | h'
  ·exact h'
  simp [Jm h'] at h2
 simp only [Sb];rw [Array.getElem?_append_left (by simpa using iD)];simp at h2 ⊢;simp [h2]
theorem al {P : Program} {f : FuncId} {fn : Func} {c : Code} {args : List Value} {w : World} {R : Value -> World -> Prop} {n : Nat}
  (hf : P.funcs[f]? = some fn) (hb : fn.body = some c) (hn : fn.ntmps = n) (hle : Nat.ble args.length n = true) (hs : Nat.ble n 1000000 = true)
  (h : X P n none c (qj P n fn R) [] (qj P n fn R) (zB 0 args) w) : Calls P f args.toArray w (dv R) := by
 refine callsIn_wide (n := 0).1 (callsIn_of_wp_marks (F := Fw none) hf hb trivial ?_);refine wpIn_mono (h _ (by rw [hn]; exact GA hle hs)) fun ex a w hq => ?_
 cases ex <;> simp only [rE, uQ, qj] at hq <;> simp only [bodyPostM]
 case normal => obtain ⟨e, ha, h1⟩ := hq; exact h1 a ha
 case ret => obtain ⟨e, ha, h1⟩ := hq; exact h1 a ha
 case exit => obtain ⟨K, hk, _⟩ := hq; cases hk
def aj (P : Program) (w : World) (t : TypeId) (a : Addr) (v : Value) : Prop := (loadVar t a).run P w = .ok v w
def lS (P : Program) (e : gj) (w : World) : ResultVar -> Value -> Prop
 | .tmp t, v => get e t = some v
 | .cell t ty, v => ∃ a, get e t = some (.pointer (some a)) /\ aj P w ty a v
section
variable {P : Program} {n : Nat} {fn : Func} {R : Value -> World -> Prop} {e : gj} {w : World}
def p8 (P : Program) (n : Nat) (fn : Func) (R : Value -> World -> Prop) (e : gj) (ds : List Value) (w : World) : Prop :=
 ∀ a, dT n e a -> LeavesInM (Fw none) 0 P fn a.tmps (dv R) (ds.map YX) .returning w
theorem bX {ds : List Value} (hm : marks e = ds) (h : p8 P n fn R e ds w) : qj P n fn R e w := fun a ha => by rw [ha.defers, hm]; exact h a ha
theorem p8.ER {v : Value} (h : ∀ a, dT n e a -> (results fn a.tmps).run P w = .ok v w) (hR : R v w) : p8 P n fn R e [] w := fun a ha => ⟨v, h a ha, v, rfl, hR⟩
theorem y7 (hr : fn.results = #[]) (h : R (.tuple #[]) w) : p8 P n fn R e [] w := .ER (fun a _ => by simp [results, hr]) h
def EC (a : Act) : ResultVar -> Sem Value
 | .tmp t => pure (a.tmps.getD t undef)
 | .cell x t => do loadVar t (<-asAddr (a.tmps.getD x undef))
theorem M8 {r : ResultVar} {v : Value} {a : Act} (h : lS P e w r v) (ha : dT n e a) : (EC a r).run P w = .ok v w := by
 cases r with
 | tmp t => simp only [EC, ha.get t v h]; rfl
 | cell x ty =>
  obtain ⟨q, h1, h2⟩ := h;have NT : (loadVar ty q).run P w = .ok v w := h2;simp [EC, ha.get x _ h1, asAddr, NT]
inductive GI (P : Program) (e : gj) (w : World) : List ResultVar -> List Value -> Prop where
 | nil : GI P e w [] []
 | cons {r : ResultVar} {v : Value} {rs : List ResultVar} {vs : List Value} (h : lS P e w r v) (h' : GI P e w rs vs) : GI P e w (r :: rs) (v :: vs)
theorem M9 {rs : List ResultVar} {vs : List Value} {a : Act} (h : GI P e w rs vs) (ha : dT n e a) : (rs.mapM (EC a)).run P w = .ok vs w := by
 induction h with
 | nil => rfl
 | cons h _ ih => simp [M8 h ha, ih]
theorem rC {rs : List ResultVar} {vs : List Value} {a : Act} (hr : fn.results = rs.toArray) (h : GI P e w rs vs) (ha : dT n e a) : (results fn a.tmps).run P w = .ok (if h : vs.toArray.size = 1 then vs.toArray[0] else .tuple vs.toArray) w := by
 have h1 := M9 h ha;have h2 : results fn a.tmps = (do let vs <-rs.toArray.mapM (EC a); pure (if h : vs.size = 1 then vs[0] else .tuple vs)) := by
  unfold results; rw [hr]; rfl
 rw [h2];simp only [List.mapM_toArray, bind_map_left, Sem.run_bind, h1, Result.andThen_ok, Sem.run_pure]
theorem Jy {r : ResultVar} {v : Value} (hr : fn.results = #[r]) (hv : lS P e w r v) (h : R v w) : p8 P n fn R e [] w := .ER (fun a ha => rC (rs := [r]) (vs := [v]) hr (.cons hv .nil) ha) h
theorem y6 {r r' : ResultVar} {v v' : Value} (hr : fn.results = #[r, r']) (hv : lS P e w r v) (OT : lS P e w r' v') (h : R (.tuple #[v, v']) w) : p8 P n fn R e [] w := .ER (fun a ha => rC (rs := [r, r']) (vs := [v, v']) hr (.cons hv (.cons OT .nil)) ha) h
theorem Jw {r r' Wn : ResultVar} {v v' Zj : Value} (hr : fn.results = #[r, r', Wn]) (hv : lS P e w r v) (OT : lS P e w r' v') (XV : lS P e w Wn Zj) (h : R (.tuple #[v, v', Zj]) w) : p8 P n fn R e [] w := .ER (fun a ha => rC (rs := [r, r', Wn]) (vs := [v, v', Zj]) hr (.cons hv (.cons OT (.cons XV .nil))) ha) h
theorem XG {r1 r2 r3 r4 : ResultVar} {v1 v2 v3 v4 : Value} (hr : fn.results = #[r1, r2, r3, r4]) (h1 : lS P e w r1 v1) (h2 : lS P e w r2 v2) (h3 : lS P e w r3 v3) (h4 : lS P e w r4 v4) (h : R (.tuple #[v1, v2, v3, v4]) w) : p8 P n fn R e [] w := .ER (fun a ha => rC (rs := [r1, r2, r3, r4]) (vs := [v1, v2, v3, v4]) hr (.cons h1 (.cons h2 (.cons h3 (.cons h4 .nil)))) ha) h
theorem tY {fn' : FuncId} {first captured : Array Value} {ds : List Value} {Q : Value -> World -> Prop} (hb : (∃ f, P.funcs[fn']? = some f /\ (f.name == "runtime.NumGoroutine") = false /\ f.body.isNone = false))
  (hc : We P fn' (first ++ captured) w Q) (h : ∀ v w', Q v w' -> p8 P n fn R e ds w') : p8 P n fn R e (.func (.func fn') first captured :: ds) w := fun a ha => by
 refine ⟨by simp, .inr ⟨(fun hd => by cases hd), .func fn', captured, fn', first ++ captured, rfl, ?_, fun _ _ => trivial, hc.1, fun c cs hm hr => ?_⟩⟩
 ·obtain ⟨f, h1, h2, h3⟩ := hb;simp only [YX, invoke, callFunc, Sem.run_bind, Sem.run_pure, Result.andThen_ok, program, Sem.run, h1, h2, h3];simp
 obtain ⟨en, u', w', fr, ⟨hu, v, hv, hQ⟩, hs, hk, hf, hg⟩ := hc.2 c cs hm (DU none _);subst hv;exact ⟨_, u', w', fr, by subst hu; exact h v w' hQ a ha, hs, hk, hf, hg⟩
theorem Nr {D : Nat} {ds : List Value} (hD : w.heap[D]? = some (.deferred (some []))) (h : p8 P n fn R e ds (w.putObj D (.deferred none))) : p8 P n fn R e (pQ D :: ds) w := fun a ha =>
 ⟨by simp, .inl ⟨D, _, rfl, run_takeDeferred hD, h a ha⟩⟩
theorem j7 (hr : fn.results = #[]) (hm : marks e = []) (h : R (.tuple #[]) w) : qj P n fn R e w := bX hm (y7 hr h)
theorem br {r : ResultVar} {v : Value} (hr : fn.results = #[r]) (hm : marks e = []) (hv : lS P e w r v) (h : R v w) : qj P n fn R e w := bX hm (Jy hr hv h)
theorem eK {r r' : ResultVar} {v v' : Value} (hr : fn.results = #[r, r']) (hm : marks e = []) (hv : lS P e w r v) (OT : lS P e w r' v') (h : R (.tuple #[v, v']) w) : qj P n fn R e w := bX hm (y6 hr hv OT h)
theorem xQ {r r' Wn : ResultVar} {v v' Zj : Value} (hr : fn.results = #[r, r', Wn]) (hm : marks e = []) (hv : lS P e w r v) (OT : lS P e w r' v') (XV : lS P e w Wn Zj) (h : R (.tuple #[v, v', Zj]) w) : qj P n fn R e w := bX hm (Jw hr hv OT XV h)
theorem zk {r1 r2 r3 r4 : ResultVar} {v1 v2 v3 v4 : Value} (hr : fn.results = #[r1, r2, r3, r4]) (hm : marks e = []) (h1 : lS P e w r1 v1) (h2 : lS P e w r2 v2) (h3 : lS P e w r3 v3) (h4 : lS P e w r4 v4) (h : R (.tuple #[v1, v2, v3, v4]) w) : qj P n fn R e w := bX hm (XG hr h1 h2 h3 h4 h)
end
theorem sG {e' e : gj} (h : hC e' e := by repeat (first | exact hC.nil _ | refine hC.mark ?_ | refine hC.cons rfl ?_)) : hC e' e := h
theorem sB {e' e : gj} (h : hC e' e := by repeat (first | exact hC.nil _ | refine hC.mark ?_ | refine hC.cons rfl ?_)) (h' : marks e' = marks e := by exact rfl) : kK e' e := ⟨h, h'⟩
abbrev sE := Nat -> Option Obj
abbrev az := sE -> Prop
structure Gh where
 os : Os
 tape : Nat -> Question -> Nat
 output : Array (Nat × ByteArray)
def YT (w : World) : Gh := ⟨w.os, w.tape, w.output⟩
def pt (b : Nat) (o : Obj) : az := fun h => h b = some o
def Cg (h1 h2 : sE) : Prop := ∀ b, h1 b = none \/ h2 b = none
def qA (h1 h2 : sE) : sE := fun b => (h1 b).or (h2 b)
def all : List az -> az
 | [], _ => True
 | A :: r, h => ∃ h1 h2, Cg h1 h2 /\ (∀ b o, (qA h1 h2) b = some o -> h b = some o) /\ A h1 /\ all r h2
def ar (g : Gh) (L : List az) (w : World) : Prop := YT w = g /\ ∃ h : sE, (∀ b o, h b = some o -> w.heap[b]? = some o) /\ all L h
inductive dg (A : az) : List az -> List az -> Prop where
 | here {R} : dg A (A :: R) R
 | there {B L R} (h : dg A L R) : dg A (B :: L) (B :: R)
theorem pK {A : az} {L R : List az} (h : dg A L R := by repeat (first | with_reducible exact dg.here | apply dg.there)) : dg A L R := h
theorem MF {L : List az} {h h' : sE} (hh : ∀ b o, h b = some o -> h' b = some o) (ha : all L h) : all L h' := by
 cases L with
 | nil => trivial
 | cons A r => obtain ⟨h1, h2, hd, hu, h3, h4⟩ := ha; exact ⟨h1, h2, hd, fun b o hb => hh b o (hu b o hb), h3, h4⟩
theorem eI {h1 h2 : sE} {b : Nat} {o : Obj} (h : h1 b = some o) : qA h1 h2 b = some o := by simp [qA, h]
theorem eZ {h1 h2 : sE} (hd : Cg h1 h2) {b : Nat} {o : Obj} (h : h2 b = some o) : qA h1 h2 b = some o := by
 have : h1 b = none := (hd b).resolve_right (by simp [h]);simp [qA, this, h]
theorem eP {h1 h2 : sE} {b : Nat} {o : Obj} (h : qA h1 h2 b = some o) : h1 b = some o \/ h2 b = some o := by
 unfold qA at h;cases e : h1 b with
 | none => rw [e] at h; simp at h; exact .inr h
 | some x => rw [e] at h; simp at h; exact .inl (by rw [h])
theorem MD {A B : az} {R : List az} {h : sE} (ha : all (A :: B :: R) h) : all (B :: A :: R) h := by
 obtain ⟨h1, h2, hd, hu, hA, h3, h4, yk, OV, hB, hR⟩ := ha;have e : ∀ b o, h3 b = some o -> h2 b = some o := fun b o hb => OV b o (eI hb)
 have e' : ∀ b o, h4 b = some o -> h2 b = some o := fun b o hb => OV b o (eZ yk hb)
 have xi : ∀ {x y : sE}, (∀ b o, x b = some o -> y b = some o) -> ∀ b, y b = none -> x b = none := fun BN b hy => by
  cases hx : (_ : sE) b with
  | none => exact hx
  | some o => rw [BN b o hx] at hy; cases hy
 have d14 : Cg h1 h4 := fun b => (hd b).imp id (xi e' b)
 have d13 : Cg h1 h3 := fun b => (hd b).imp id (xi e b)
 refine ⟨h3, qA h1 h4, fun b => ?_, fun b o hb => ?_, hB, h1, h4, d14, fun b o hb => hb, hA, hR⟩
 ·cases x3 : h3 b with
  | none => exact .inl rfl
  | some o =>
   refine .inr ?_;have y1 : h1 b = none := (d13 b).resolve_right (by simp [x3]);have y4 : h4 b = none := (yk b).resolve_left (by simp [x3]);simp [qA, y1, y4]
 rcases eP hb with hb | hb
 ·exact hu b o (eZ hd (e b o hb))
 rcases eP hb with hb | hb
 ·exact hu b o (eI hb)
 exact hu b o (eZ hd (e' b o hb))
theorem Gy {A : az} {h : sE} (ha : A h) : all [A] h := by
 refine ⟨h, fun _ => none, fun b => .inr rfl, fun b o hb => ?_, ha, trivial⟩;rcases eP hb with h | h
 ·exact h
 cases h
theorem jk {A : az} {L L' : List az} (hh : ∀ h, all L h -> all L' h) {h : sE} (ha : all (A :: L) h) : all (A :: L') h := by
 obtain ⟨h1, h2, hd, hu, hA, hL⟩ := ha; exact ⟨h1, h2, hd, hu, hA, hh _ hL⟩
theorem ME {A : az} {L R : List az} (p : dg A L R) : ∀ h, all L h -> all (A :: R) h := by
 induction p with
 | here => exact fun _ h => h
 | there _ ih => exact fun h ha => MD (jk ih ha)
theorem N6 {A : az} {L R : List az} (p : dg A L R) : ∀ h, all (A :: R) h -> all L h := by
 induction p with
 | here => exact fun _ h => h
 | there _ ih => exact fun h ha => jk ih (MD ha)
section
variable {g : Gh} {L R L' : List az} {A B : az} {w : World} {b : Nat} {o : Obj}
theorem ar.mono (hh : ∀ h, all L h -> all L' h) (h : ar g L w) : ar g L' w := ⟨h.1, let ⟨x, h1, h2⟩ := h.2; ⟨x, h1, hh _ h2⟩⟩
theorem ar.pick (h : ar g L w) (p : dg A L R) : ar g (A :: R) w := h.mono (ME p)
inductive TP : List az -> List az -> List az -> Prop where
 | nil {L : List az} : TP [] L L
 | cons {A : az} {As L M R : List az} (h : dg A L M) (h' : TP As M R) : TP (A :: As) L R
theorem ar.yK (h : ar g (A :: R) w) (p : dg A L R) : ar g L w := h.mono (N6 p)
theorem ar.iL (hh : ∀ h, A h -> B h) (h : ar g (A :: R) w) : ar g (B :: R) w :=
 h.mono (L := A :: R) (L' := B :: R) fun _ ⟨h1, h2, hd, hu, hA, hR⟩ => ⟨h1, h2, hd, hu, hh _ hA, hR⟩
theorem ar.tail (h : ar g (A :: R) w) : ar g R w := ⟨h.1, let ⟨x, hx, h1, h2, hd, hu, _, hR⟩ := h.2; ⟨h2, fun b o hb => hx b o (hu b o (eZ hd hb)), hR⟩⟩
theorem ar.drop (h : ar g L w) (p : dg A L R) : ar g R w := (h.pick p).tail
theorem ar.head (h : ar g (A :: R) w) : ar g [A] w := ⟨h.1, let ⟨x, hx, h1, h2, hd, hu, hA, _⟩ := h.2
 ⟨h1, fun b o hb => hx b o (hu b o (eI hb)), Gy hA⟩⟩
theorem ar.eQ (h : ar g (pt b o :: R) w) : w.heap[b]? = some o := by
 obtain ⟨_, x, hx, h1, h2, hd, hu, hA, _⟩ := h;exact hx b o (hu b o (eI hA))
theorem ar.pt (h : ar g L w) (p : dg (X.pt b o) L R) : w.heap[b]? = some o := (h.pick p).eQ
theorem ar.ne {c : Nat} {o' : Obj} (h : ar g (X.pt b o :: X.pt c o' :: R) w) : b ≠ c := by
 obtain ⟨_, x, hx, h1, h2, hd, hu, hA, h3, h4, yk, OV, hB, _⟩ := h;rintro rfl;have h1b : h1 b = some o := hA;have h2b : h2 b = some o' := OV b o' (eI hB);rcases hd b with h | h
 ·rw [h1b] at h; cases h
 rw [h2b] at h; cases h
theorem ar.size (h : ar g (X.pt b o :: R) w) : b < w.heap.size := by
 have := h.eQ;exact (sO.1 this).1
theorem ar.drawn (h : ar g L w) (n : Nat) : ar g L { w with drawn := n } := h
theorem ar.push (h : ar g L w) (o : Obj) : ar g (X.pt w.heap.size o :: L) { w with heap := w.heap.push o } := by
 obtain ⟨hg, x, hx, hL⟩ := h;refine ⟨hg, fun b => if b = w.heap.size then some o else x b, fun b o' hb => ?_, fun b => if b = w.heap.size then some o else none, x, fun b => ?_, fun b o' hb => ?_, ?_, hL⟩
 ·simp only at hb;split at hb
  ·rename_i e; subst e; cases hb; simp
  have h1 := hx b o' hb;have h2 := (sO.1 h1).1;simp only;rw [Array.getElem?_push_lt oM]; rw [<-h1, Nj]
 ·by_cases e : b = w.heap.size
  ·refine .inr ?_;cases hb : x b with
   | none => rfl
   | some o' => have h1 := (sO.1 (hx b o' hb)).1; omega
  exact .inl (by simp [e])
 ·rcases eP hb with hb | hb
  ·simp only at hb ⊢; split at hb
   ·rename_i e; simp [e, hb]
   cases hb
  simp only; split
  ·rename_i e; have h1 := (sO.1 (hx b o' hb)).1; omega
  exact hb
 simp [X.pt]
theorem ar.set (h : ar g (X.pt b o :: R) w) (o' : Obj) : ar g (X.pt b o' :: R) { w with heap := w.heap.setIfInBounds b o' } := by
 have iD := h.size;obtain ⟨hg, x, hx, h1, h2, hd, hu, hA, hR⟩ := h;have h2b : h2 b = none := (hd b).resolve_left (by have : h1 b = some o := hA; simp [this]);refine ⟨hg, fun k => if k = b then some o' else h2 k, fun k u hk => ?_, fun k => if k = b then some o' else none, h2, fun k => ?_, fun k u hk => ?_, by simp [X.pt], hR⟩
 ·simp only at hk;split at hk
  ·rename_i e; subst e; cases hk; simp [iD]
  rename_i e;simp only;rw [UO (fun e' => e e'.symm)];exact hx k u (hu k u (eZ hd hk))
 ·by_cases e : k = b
  ·exact .inr (by rw [e]; exact h2b)
  exact .inl (by simp [e])
 rcases eP hk with hk | hk
 ·simp only at hk ⊢; split at hk
  ·rename_i e; simp [e, hk]
  cases hk
 simp only; split
 ·rename_i e; rw [e, h2b] at hk; cases hk
 exact hk
def Rh (w0 : World) : az := fun h => ∀ b o, w0.heap[b]? = some o -> h b = some o
theorem ar.start (w : World) : ar (YT w) [Rh w] w :=
 ⟨rfl, fun b => w.heap[b]?, fun _ _ h => h, Gy fun _ _ h => h⟩
theorem ar.EO {w0 : World} (h : ar g (Rh w0 :: R) w) {b : Nat} {o : Obj} (hb : w0.heap[b]? = some o) : w.heap[b]? = some o := by
 obtain ⟨_, x, hx, h1, h2, hd, hu, hA, _⟩ := h;exact hx b o (hu b o (eI (hA b o hb)))
def ex {α : Sort _} (F : α -> az) : az := fun h => ∃ x, F x h
def dH (p : Prop) (A : az) : az := fun h => p /\ A h
def aT (M : List az) : az := all M
theorem ar.iv {α : Sort _} {F : α -> az} (h : ar g (ex F :: R) w) : ∃ x, ar g (F x :: R) w := by
 obtain ⟨hg, x, hx, h1, h2, hd, hu, ⟨y, hA⟩, hR⟩ := h;exact ⟨y, hg, x, hx, h1, h2, hd, hu, hA, hR⟩
theorem ar.jq {α : Sort _} {F : α -> az} (x : α) (h : ar g (F x :: R) w) : ar g (ex F :: R) w := h.iL fun _ h => ⟨x, h⟩
theorem ar.dx {p : Prop} (h : ar g (dH p A :: R) w) : p /\ ar g (A :: R) w := by
 obtain ⟨hg, x, hx, h1, h2, hd, hu, ⟨hp, hA⟩, hR⟩ := h;exact ⟨hp, hg, x, hx, h1, h2, hd, hu, hA, hR⟩
theorem ar.iR {p : Prop} (hp : p) (h : ar g (A :: R) w) : ar g (dH p A :: R) w := h.iL fun _ h => ⟨hp, h⟩
theorem kg : ∀ (M : List az) (R : List az) (h : sE), all (aT M :: R) h ↔ all (M ++ R) h
 | [], R, h => ⟨fun ⟨h1, h2, hd, hu, _, hR⟩ => MF (fun b o hb => hu b o (eZ hd hb)) hR,
   fun hR => ⟨fun _ => none, h, fun b => .inl rfl, fun b o hb => by rcases eP hb with h | h <;> first | cases h | exact h, trivial, hR⟩⟩
 | A :: M, R, h => by
  constructor
  ·rintro ⟨h1, h2, hd, hu, ⟨h3, h4, yk, OV, hA, hM⟩, hR⟩;have e3 : ∀ b o, h3 b = some o -> h1 b = some o := fun b o hb => OV b o (eI hb)
   have e4 : ∀ b o, h4 b = some o -> h1 b = some o := fun b o hb => OV b o (eZ yk hb)
   have xi : ∀ {x y : sE}, (∀ b o, x b = some o -> y b = some o) -> ∀ b, y b = none -> x b = none := fun BN b hy => by
    cases hx : (_ : sE) b with
    | none => exact hx
    | some o => rw [BN b o hx] at hy; cases hy
   have d42 : Cg h4 h2 := fun b => (hd b).imp (xi e4 b) id
   refine ⟨h3, qA h4 h2, fun b => ?_, fun b o hb => ?_, hA, (kg M R _).1 ⟨h4, h2, d42, fun _ _ h => h, hM, hR⟩⟩
   ·cases x3 : h3 b with
    | none => exact .inl rfl
    | some o =>
     refine .inr ?_;have y4 : h4 b = none := (yk b).resolve_left (by simp [x3]);have y2 : h2 b = none := (hd b).resolve_left (by simp [e3 b o x3]);simp [qA, y2, y4]
   rcases eP hb with hb | hb
   ·exact hu b o (eI (e3 b o hb))
   rcases eP hb with hb | hb
   ·exact hu b o (eI (e4 b o hb))
   exact hu b o (eZ hd hb)
  rintro ⟨h3, h5, hd, hu, hA, hMR⟩;obtain ⟨h4, h2, yk, OV, hM, hR⟩ := (kg M R h5).2 hMR;have e4 : ∀ b o, h4 b = some o -> h5 b = some o := fun b o hb => OV b o (eI hb)
  have e2 : ∀ b o, h2 b = some o -> h5 b = some o := fun b o hb => OV b o (eZ yk hb)
  have xi : ∀ {x y : sE}, (∀ b o, x b = some o -> y b = some o) -> ∀ b, y b = none -> x b = none := fun BN b hy => by
   cases hx : (_ : sE) b with
   | none => exact hx
   | some o => rw [BN b o hx] at hy; cases hy
  have d34 : Cg h3 h4 := fun b => (hd b).imp id (xi e4 b)
  refine ⟨qA h3 h4, h2, fun b => ?_, fun b o hb => ?_, ⟨h3, h4, d34, fun _ _ h => h, hA, hM⟩, hR⟩
  ·cases x2 : h2 b with
   | none => exact .inr rfl
   | some o =>
    refine .inl ?_;have y4 : h4 b = none := (yk b).resolve_right (by simp [x2]);have y3 : h3 b = none := (hd b).resolve_right (by simp [e2 b o x2]);simp [qA, y3, y4]
  rcases eP hb with hb | hb
  ·rcases eP hb with hb | hb
   ·exact hu b o (eI hb)
   exact hu b o (eZ hd (e4 b o hb))
  exact hu b o (eZ hd (e2 b o hb))
theorem ar.cD {M : List az} (h : ar g (aT M :: R) w) : ar g (M ++ R) w := h.mono fun _ => (kg M R _).1
theorem ar.bH {M : List az} (h : ar g (M ++ R) w) : ar g (aT M :: R) w := h.mono fun _ => (kg M R _).2
theorem rT {A : az} {M R : List az} {w : World} {G : Gh} (h : ar G (M ++ R) w) (f : ∀ h, all M h -> A h) : ar G (A :: R) w := (ar.bH h).iL f
theorem iA {A : az} {R : List az} {w : World} {G : Gh} (h : ar G (A :: R) w) : ∃ hh, A hh /\ ∀ M, all M hh -> ar G (M ++ R) w := by
 obtain ⟨hg, x, hx, h1, h2, hd, hu, hA, hR⟩ := h;exact ⟨h1, hA, fun M hM => ar.cD ⟨hg, x, hx, h1, h2, hd, hu, hM, hR⟩⟩
inductive uY : List az -> List az -> List az -> Prop where
 | nil {L : List az} : uY [] L L
 | cons {A : az} {As L M O : List az} (h : dg A L M) (h' : uY As M O) : uY (A :: As) L (A :: O)
theorem bR {As L M : List az} (h : uY As L M := by repeat (first | exact uY.nil | (apply uY.cons; repeat (first | with_reducible exact dg.here | apply dg.there)))) : uY As L M := h
theorem IQ {As L O : List az} (p : uY As L O) : ∀ h, all L h -> all O h := by
 induction p with
 | nil => exact fun _ h => h
 | cons h _ ih => exact fun x ha => jk ih (ME h x ha)
theorem ar.AZ {As L O : List az} (h : ar g L w) (p : uY As L O) : ar g O w := h.mono (IQ p)
def aX (L : List az) (p : World -> Prop) : Prop := ∀ g w, ar g L w -> p w
theorem aX.at {p : World -> Prop} (k : aX L p) (h : ar g L w) : p w := k g w h
theorem aX.cons {p : World -> Prop} (k : aX L p) (A : az) : aX (A :: L) p := fun g w h => k g w h.tail
theorem aX.head {p : World -> Prop} (k : aX [A] p) (R : List az) : aX (A :: R) p := fun g w h => k g w h.head
theorem aX.pick {p : World -> Prop} (k : aX (A :: R) p) (q : dg A L R) : aX L p := fun g w h => k g w (h.pick q)
inductive Ps : List az -> List az -> Prop where
 | refl (L : List az) : Ps L L
 | cons {L L' : List az} {A : az} (h : Ps L L') : Ps L (A :: L')
theorem sF {L L' : List az} (h : Ps L L' := by repeat (first | exact Ps.refl _ | apply Ps.cons)) : Ps L L' := h
theorem aX.of {p : World -> Prop} (k : aX L p) (s : Ps L L') : aX L' p := by
 induction s with
 | refl => exact k
 | cons _ ih => exact aX.cons ih _
end
theorem ar.b {g : Gh} {L O : List az} {w : World} (h : ar g L w) (As : List az) (p : uY As L O := by repeat (first | exact uY.nil | (apply uY.cons; repeat (first | with_reducible exact dg.here | apply dg.there)))) : ar g O w := h.mono (IQ p)
def rh (e : gj) : Operand -> Value := fun x => (ev e x).getD undef
theorem bO {e : gj} {x : Operand} {v : Value} (h : ev e x = some v) : rh e x = v := by simp [rh, h]
theorem RT {e : gj} {x : Operand} {v : Value} (h : ev e x = some v) : ev e x = some (rh e x) := by simp [rh, h]
theorem GL {e : gj} {x : Operand} {v : Value} (hx : ev e x = some v) {z : Operand} (hz : z = x) : ev e z = some (rh e z) := by subst hz; exact RT hx
theorem Da {e : gj} {x y : Operand} {v u : Value} (hx : ev e x = some v) (hy : ev e y = some u) {z : Operand} (hz : z = x \/ z = y) : ev e z = some (rh e z) := hz.elim (GL hx) (GL hy)
theorem oh3 {e : gj} {x y c : Operand} {v u s : Value} (hx : ev e x = some v) (hy : ev e y = some u) (hc : ev e c = some s) {z : Operand} (hz : z = x \/ z = y \/ z = c) : ev e z = some (rh e z) := hz.elim (GL hx) (Da hy hc)
def Pe (e : gj) : List Operand -> Option (List Value)
 | [] => some []
 | x :: r => match ev e x, Pe e r with
  | some v, some vs => some (v :: vs)
  | _, _ => none
theorem uk {e : gj} : ∀ {xs : List Operand} {vs : List Value}, Pe e xs = some vs -> (∀ z ∈ xs, ev e z = some (rh e z)) /\ xs.map (rh e) = vs
 | [], _, h => by simp [Pe] at h; subst h; simp
 | x :: r, vs, h => by
  simp only [Pe] at h;split at h
  ·rename_i v vs' h1 h2;cases h;obtain ⟨h3, h4⟩ := uk h2;refine ⟨fun z hz => ?_, by simp [bO h1, h4]⟩;rcases bB.1 hz with rfl | hz
   ·exact RT h1
   exact h3 z hz
  cases h
theorem Eg {x : Int} (h : -9223372036854775808 <= x /\ x <= 9223372036854775807) : IntKind.i64.wrap x = x := by rw [IntKind.wrap_i64]; omega
section
variable {P : Program} {n : Nat} {ops : Array Oper} {dr : Bool} {done r : List Nat} {K : gj -> World -> Prop} {e : gj} {w : World} {i d : Nat} {t : TypeId} {p : String} {af : Array Edge} {g : Option (Nat × Bool)}
theorem Un {x : Operand} {v : Value} (ho : ops[i]? = some ⟨some d, .move x, t, p, af, g⟩) (hx : ev e x = some v)
  (h : XL P n ops dr (i :: done) r K ((d, v) :: e) w) (hd : Nat.blt d n = true := by exact rfl) (hg : Gd ops e g := by first | trivial | exact ⟨_, rfl, rfl⟩) : XL P n ops dr done (i :: r) K e w :=
 eO ho (by simpa [cS] using hd) hg (ρ := rh e) (by intro z hZ; simp [Op.operands] at hZ; exact GL hx hZ) rfl (v := v) (fun w' => by simp [execOp, bO hx]) h
theorem abj {x : Operand} {v : Value} (ho : ops[i]? = some ⟨some d, .assign x, t, p, af, g⟩) (hx : ev e x = some v)
  (h : XL P n ops dr (i :: done) r K ((d, v) :: e) w) (hd : Nat.blt d n = true := by exact rfl) (hg : Gd ops e g := by first | trivial | exact ⟨_, rfl, rfl⟩) : XL P n ops dr done (i :: r) K e w :=
 eO ho (by simpa [cS] using hd) hg (ρ := rh e) (by intro z hZ; simp [Op.operands] at hZ; exact GL hx hZ) rfl (v := v) (fun w' => by simp [execOp, bO hx]) h
theorem Rr {c a b : Operand} {q : Bool} {va vb : Value} (ho : ops[i]? = some ⟨some d, .pick c a b, t, p, af, g⟩) (hc : ev e c = some (.bool q)) (ha : ev e a = some va) (hb : ev e b = some vb)
  (h : XL P n ops dr (i :: done) r K ((d, cond q va vb) :: e) w) (hd : Nat.blt d n = true := by exact rfl) (hg : Gd ops e g := by first | trivial | exact ⟨_, rfl, rfl⟩) : XL P n ops dr done (i :: r) K e w :=
 eO ho (by simpa [cS] using hd) hg (ρ := rh e) (by intro z hZ; simp [Op.operands] at hZ; exact oh3 hc ha hb hZ) rfl (v := cond q va vb)
  (fun w' => by cases q <;> simp [execOp, bO hc, bO ha, bO hb, asBool]) h
theorem zM {c a b : Operand} {va vb : Value} (ho : ops[i]? = some ⟨some d, .pick c a b, t, p, af, g⟩) (hc : ev e c = some (.bool true)) (ha : ev e a = some va) (hb : ev e b = some vb)
  (h : XL P n ops dr (i :: done) r K ((d, va) :: e) w) (hd : Nat.blt d n = true := by exact rfl) (hg : Gd ops e g := by first | trivial | exact ⟨_, rfl, rfl⟩) : XL P n ops dr done (i :: r) K e w := Rr (hd := hd) (hg := hg) ho hc ha hb h
theorem zN {c a b : Operand} {va vb : Value} (ho : ops[i]? = some ⟨some d, .pick c a b, t, p, af, g⟩) (hc : ev e c = some (.bool false)) (ha : ev e a = some va) (hb : ev e b = some vb)
  (h : XL P n ops dr (i :: done) r K ((d, vb) :: e) w) (hd : Nat.blt d n = true := by exact rfl) (hg : Gd ops e g := by first | trivial | exact ⟨_, rfl, rfl⟩) : XL P n ops dr done (i :: r) K e w := Rr (hd := hd) (hg := hg) ho hc ha hb h
theorem qx {op : BinOp} {s u : TypeId} {x y : Operand} {vx vy v : Value} (ho : ops[i]? = some ⟨some d, .binOp op s x y u, t, p, af, g⟩) (hk : ek P (.binOp op s x y u) = 0)
  (hx : ev e x = some vx) (hy : ev e y = some vy) (hr : ∀ w', (do eqGuard op s x y vx vy; binOp op s vx vy : Sem Value).run P w' = .ok v w')
  (h : XL P n ops dr (i :: done) r K ((d, v) :: e) w) (hd : Nat.blt d n = true := by exact rfl) (hg : Gd ops e g := by first | trivial | exact ⟨_, rfl, rfl⟩) : XL P n ops dr done (i :: r) K e w :=
 eO ho (by simpa [cS] using hd) hg (ρ := rh e) (by intro z hZ; simp [Op.operands] at hZ; exact Da hx hy hZ) hk (v := v)
  (fun w' => by
   have := hr w';simp only [execOp, bO hx, bO hy];rw [Sem.run_bind, this]; rfl) h
theorem dJ {op : BinOp} {s : TypeId} {x y : Operand} {k k' : IntKind} {a b : Int} {w : World} : (eqGuard op s x y (.int k a) (.int k' b)).run P w = .ok () w := by
 unfold eqGuard; cases op <;> simp
theorem bk {op : BinOp} {s u : TypeId} {x y : Operand} (h : (op matches .eql | .neq) = false) : ek P (.binOp op s x y u) = 0 := by
 unfold ek; cases op <;> first | rfl | (simp at h)
variable {s u : TypeId} {x y : Operand} {k : IntKind} {a b : Int}
theorem Oi (ho : ops[i]? = some ⟨some d, .binOp .add s x y u, t, p, af, g⟩) (hx : ev e x = some (.int k a)) (hy : ev e y = some (.int k b))
  (h : XL P n ops dr (i :: done) r K ((d, .int k (k.wrap (a + b))) :: e) w) (hd : Nat.blt d n = true := by exact rfl) (hg : Gd ops e g := by first | trivial | exact ⟨_, rfl, rfl⟩) : XL P n ops dr done (i :: r) K e w :=
 qx (hd := hd) (hg := hg) ho (bk rfl) hx hy (fun w' => by simp [dJ, binOp, Op.intArith]) h
theorem Rl (ho : ops[i]? = some ⟨some d, .binOp .sub s x y u, t, p, af, g⟩) (hx : ev e x = some (.int k a)) (hy : ev e y = some (.int k b))
  (h : XL P n ops dr (i :: done) r K ((d, .int k (k.wrap (a - b))) :: e) w) (hd : Nat.blt d n = true := by exact rfl) (hg : Gd ops e g := by first | trivial | exact ⟨_, rfl, rfl⟩) : XL P n ops dr done (i :: r) K e w :=
 qx (hd := hd) (hg := hg) ho (bk rfl) hx hy (fun w' => by simp [dJ, binOp, Op.intArith]) h
theorem ZZ (ho : ops[i]? = some ⟨some d, .binOp .mul s x y u, t, p, af, g⟩) (hx : ev e x = some (.int k a)) (hy : ev e y = some (.int k b))
  (h : XL P n ops dr (i :: done) r K ((d, .int k (k.wrap (a * b))) :: e) w) (hd : Nat.blt d n = true := by exact rfl) (hg : Gd ops e g := by first | trivial | exact ⟨_, rfl, rfl⟩) : XL P n ops dr done (i :: r) K e w :=
 qx (hd := hd) (hg := hg) ho (bk rfl) hx hy (fun w' => by simp [dJ, binOp, Op.intArith]) h
theorem ZW (ho : ops[i]? = some ⟨some d, .binOp .quo s x y u, t, p, af, g⟩) (hx : ev e x = some (.int k a)) (hy : ev e y = some (.int k b)) (hb : b ≠ 0)
  (h : XL P n ops dr (i :: done) r K ((d, .int k (k.wrap (a.tdiv b))) :: e) w) (hd : Nat.blt d n = true := by exact rfl) (hg : Gd ops e g := by first | trivial | exact ⟨_, rfl, rfl⟩) : XL P n ops dr done (i :: r) K e w :=
 qx (hd := hd) (hg := hg) ho (bk rfl) hx hy (fun w' => by simp [dJ, binOp, Op.intDiv, hb]) h
theorem ZV (ho : ops[i]? = some ⟨some d, .binOp .rem s x y u, t, p, af, g⟩) (hx : ev e x = some (.int k a)) (hy : ev e y = some (.int k b)) (hb : b ≠ 0)
  (h : XL P n ops dr (i :: done) r K ((d, .int k (a.tmod b)) :: e) w) (hd : Nat.blt d n = true := by exact rfl) (hg : Gd ops e g := by first | trivial | exact ⟨_, rfl, rfl⟩) : XL P n ops dr done (i :: r) K e w :=
 qx (hd := hd) (hg := hg) ho (bk rfl) hx hy (fun w' => by simp [dJ, binOp, Op.intDiv, hb]) h
theorem yJ (ho : ops[i]? = some ⟨some d, .binOp .add s x y u, t, p, af, g⟩) (hx : ev e x = some (iQ a)) (hy : ev e y = some (iQ b)) (hb : -9223372036854775808 <= a + b /\ a + b <= 9223372036854775807)
  (h : XL P n ops dr (i :: done) r K ((d, iQ (a + b)) :: e) w) (hd : Nat.blt d n = true := by exact rfl) (hg : Gd ops e g := by first | trivial | exact ⟨_, rfl, rfl⟩) : XL P n ops dr done (i :: r) K e w := Oi (hd := hd) (hg := hg) ho hx hy (by rw [Eg hb]; exact h)
theorem IY (ho : ops[i]? = some ⟨some d, .binOp .sub s x y u, t, p, af, g⟩) (hx : ev e x = some (iQ a)) (hy : ev e y = some (iQ b)) (hb : -9223372036854775808 <= a - b /\ a - b <= 9223372036854775807)
  (h : XL P n ops dr (i :: done) r K ((d, iQ (a - b)) :: e) w) (hd : Nat.blt d n = true := by exact rfl) (hg : Gd ops e g := by first | trivial | exact ⟨_, rfl, rfl⟩) : XL P n ops dr done (i :: r) K e w := Rl (hd := hd) (hg := hg) ho hx hy (by rw [Eg hb]; exact h)
theorem Xc (ho : ops[i]? = some ⟨some d, .binOp .mul s x y u, t, p, af, g⟩) (hx : ev e x = some (iQ a)) (hy : ev e y = some (iQ b)) (hb : -9223372036854775808 <= a * b /\ a * b <= 9223372036854775807)
  (h : XL P n ops dr (i :: done) r K ((d, iQ (a * b)) :: e) w) (hd : Nat.blt d n = true := by exact rfl) (hg : Gd ops e g := by first | trivial | exact ⟨_, rfl, rfl⟩) : XL P n ops dr done (i :: r) K e w := ZZ (hd := hd) (hg := hg) ho hx hy (by rw [Eg hb]; exact h)
theorem Xa (ho : ops[i]? = some ⟨some d, .binOp .quo s x y u, t, p, af, g⟩) (hx : ev e x = some (iQ a)) (hy : ev e y = some (iQ b)) (ha : 0 <= a /\ a <= 9223372036854775807) (hb : 1 <= b)
  (h : XL P n ops dr (i :: done) r K ((d, iQ (a / b)) :: e) w) (hd : Nat.blt d n = true := by exact rfl) (hg : Gd ops e g := by first | trivial | exact ⟨_, rfl, rfl⟩) : XL P n ops dr done (i :: r) K e w := ZW (hd := hd) (hg := hg) ho hx hy oM (by
   have h1 : a.tdiv b = a / b := Int.tdiv_eq_ediv_of_nonneg ha.1;have h2 : 0 <= a / b := Int.ediv_nonneg ha.1 oM;have h3 : a / b <= a := Int.ediv_le_self b ha.1;rw [h1, Eg ⟨oM, oM⟩]; exact h)
theorem Z0 (ho : ops[i]? = some ⟨some d, .binOp .lss s x y u, t, p, af, g⟩) (hx : ev e x = some (.int k a)) (hy : ev e y = some (.int k b))
  (h : XL P n ops dr (i :: done) r K ((d, .bool (decide (a < b))) :: e) w) (hd : Nat.blt d n = true := by exact rfl) (hg : Gd ops e g := by first | trivial | exact ⟨_, rfl, rfl⟩) : XL P n ops dr done (i :: r) K e w :=
 qx (hd := hd) (hg := hg) ho (bk rfl) hx hy (fun w' => by simp [dJ, binOp, Op.intCmp]) h
theorem Z2 (ho : ops[i]? = some ⟨some d, .binOp .leq s x y u, t, p, af, g⟩) (hx : ev e x = some (.int k a)) (hy : ev e y = some (.int k b))
  (h : XL P n ops dr (i :: done) r K ((d, .bool (decide (a <= b))) :: e) w) (hd : Nat.blt d n = true := by exact rfl) (hg : Gd ops e g := by first | trivial | exact ⟨_, rfl, rfl⟩) : XL P n ops dr done (i :: r) K e w :=
 qx (hd := hd) (hg := hg) ho (bk rfl) hx hy (fun w' => by simp [dJ, binOp, Op.intCmp]) h
theorem Z4 (ho : ops[i]? = some ⟨some d, .binOp .gtr s x y u, t, p, af, g⟩) (hx : ev e x = some (.int k a)) (hy : ev e y = some (.int k b))
  (h : XL P n ops dr (i :: done) r K ((d, .bool (decide (b < a))) :: e) w) (hd : Nat.blt d n = true := by exact rfl) (hg : Gd ops e g := by first | trivial | exact ⟨_, rfl, rfl⟩) : XL P n ops dr done (i :: r) K e w :=
 qx (hd := hd) (hg := hg) ho (bk rfl) hx hy (fun w' => by simp [dJ, binOp, Op.intCmp]) h
theorem Z5 (ho : ops[i]? = some ⟨some d, .binOp .geq s x y u, t, p, af, g⟩) (hx : ev e x = some (.int k a)) (hy : ev e y = some (.int k b))
  (h : XL P n ops dr (i :: done) r K ((d, .bool (decide (b <= a))) :: e) w) (hd : Nat.blt d n = true := by exact rfl) (hg : Gd ops e g := by first | trivial | exact ⟨_, rfl, rfl⟩) : XL P n ops dr done (i :: r) K e w :=
 qx (hd := hd) (hg := hg) ho (bk rfl) hx hy (fun w' => by simp [dJ, binOp, Op.intCmp]) h
theorem Z9 (ho : ops[i]? = some ⟨some d, .binOp .eql s x y u, t, p, af, g⟩) (hk : ek P (.binOp .eql s x y u) = 0) (hx : ev e x = some (.int k a)) (hy : ev e y = some (.int k b))
  (h : XL P n ops dr (i :: done) r K ((d, .bool (decide (a = b))) :: e) w) (hd : Nat.blt d n = true := by exact rfl) (hg : Gd ops e g := by first | trivial | exact ⟨_, rfl, rfl⟩) : XL P n ops dr done (i :: r) K e w :=
 qx (hd := hd) (hg := hg) ho hk hx hy (fun w' => by simp [dJ, binOp, Op.intCmp]; by_cases h : a = b <;> simp [h]) h
theorem ZY (ho : ops[i]? = some ⟨some d, .binOp .neq s x y u, t, p, af, g⟩) (hk : ek P (.binOp .neq s x y u) = 0) (hx : ev e x = some (.int k a)) (hy : ev e y = some (.int k b))
  (h : XL P n ops dr (i :: done) r K ((d, .bool (decide (a ≠ b))) :: e) w) (hd : Nat.blt d n = true := by exact rfl) (hg : Gd ops e g := by first | trivial | exact ⟨_, rfl, rfl⟩) : XL P n ops dr done (i :: r) K e w :=
 qx (hd := hd) (hg := hg) ho hk hx hy (fun w' => by simp [dJ, binOp, Op.intCmp]; by_cases h : a = b <;> simp [h, bne]) h
theorem Bq {c : TypeId} {q : Option Addr} (hs : P.underlying s = some (.pointer c)) (w : World) : (Op.equal s (.pointer q) (.pointer none)).run P w = .ok q.isNone w := by
 have : ∀ m, (Op.equalIn (m + 1) s (.pointer q) (.pointer none)).run P w = .ok q.isNone w := fun m => by
  cases q <;> simp [Op.equalIn, run_underlying hs]
 exact this 9999
theorem Oe {c : TypeId} {q : Option Addr} (ho : ops[i]? = some ⟨some d, .binOp .eql s x (.const (.pointer none)) u, t, p, af, g⟩) (hk : ek P (.binOp .eql s x (.const (.pointer none)) u) = 0)
  (hs : P.underlying s = some (.pointer c)) (hx : ev e x = some (.pointer q))
  (h : XL P n ops dr (i :: done) r K ((d, .bool q.isNone) :: e) w) (hd : Nat.blt d n = true := by exact rfl) (hg : Gd ops e g := by first | trivial | exact ⟨_, rfl, rfl⟩) : XL P n ops dr done (i :: r) K e w :=
 qx (hd := hd) (hg := hg) ho hk hx (show ev e (.const (.pointer none)) = some (.pointer none) from rfl) (fun w' => by
  have h0 : (eqGuard .eql s x (.const (.pointer none)) (.pointer q) (.pointer none)).run P w' = .ok () w' := by simp [eqGuard]
  have h1 : (binOp .eql s (.pointer q) (.pointer none)).run P w' = .ok (.bool q.isNone) w' := by
   simp only [binOp, Sem.run_bind, Bq hs, Result.andThen_ok]; rfl
  simp only [Sem.run_bind, h0, h1, Result.andThen_ok]) h
theorem Ew {q q' : Bool} (hs : P.underlying s = some .bool) (w : World) : (Op.equal s (.bool q) (.bool q')).run P w = .ok (decide (q = q')) w := by
 have : ∀ m, (Op.equalIn (m + 1) s (.bool q) (.bool q')).run P w = .ok (decide (q = q')) w := fun m => by
  simp [Op.equalIn, run_underlying hs]; cases q <;> cases q' <;> rfl
 exact this 9999
theorem Rt {q q' : Bool} (ho : ops[i]? = some ⟨some d, .binOp .neq s x y u, t, p, af, g⟩) (hk : ek P (.binOp .neq s x y u) = 0) (hs : P.underlying s = some .bool) (hx : ev e x = some (.bool q)) (hy : ev e y = some (.bool q'))
  (h : XL P n ops dr (i :: done) r K ((d, .bool (decide (q ≠ q'))) :: e) w) (hd : Nat.blt d n = true := by exact rfl) (hg : Gd ops e g := by first | trivial | exact ⟨_, rfl, rfl⟩) : XL P n ops dr done (i :: r) K e w :=
 qx (hd := hd) (hg := hg) ho hk hx hy (fun w' => by
  have h0 : (eqGuard .neq s x y (.bool q) (.bool q')).run P w' = .ok () w' := by simp [eqGuard]
  have h1 : (binOp .neq s (.bool q) (.bool q')).run P w' = .ok (.bool (decide (q ≠ q'))) w' := by simp only [binOp, Sem.run_bind, Ew hs, Result.andThen_ok]; cases q <;> cases q' <;> rfl
  simp only [Sem.run_bind, h0, h1, Result.andThen_ok]) h
theorem nY {q : Bool} (ho : ops[i]? = some ⟨some d, .unOp .not s x, t, p, af, g⟩) (hx : ev e x = some (.bool q))
  (h : XL P n ops dr (i :: done) r K ((d, .bool (!q)) :: e) w) (hd : Nat.blt d n = true := by exact rfl) (hg : Gd ops e g := by first | trivial | exact ⟨_, rfl, rfl⟩) : XL P n ops dr done (i :: r) K e w :=
 eO ho (by simpa [cS] using hd) hg (ρ := rh e) (by intro z hZ; simp [Op.operands] at hZ; exact GL hx hZ) rfl (v := .bool (!q)) (fun w' => by simp [execOp, bO hx, Op.unary]) h
theorem jX {q : Prop} [Decidable q] (ho : ops[i]? = some ⟨some d, .unOp .not s x, t, p, af, g⟩) (hx : ev e x = some (.bool (decide q)))
  (h : XL P n ops dr (i :: done) r K ((d, .bool (decide (¬ q))) :: e) w) (hd : Nat.blt d n = true := by exact rfl) (hg : Gd ops e g := by first | trivial | exact ⟨_, rfl, rfl⟩) : XL P n ops dr done (i :: r) K e w :=
 nY (hd := hd) (hg := hg) ho hx (by rw [show (!decide q) = decide (¬ q) by simp]; exact h)
theorem ZX (ho : ops[i]? = some ⟨some d, .unOp .neg s x, t, p, af, g⟩) (hx : ev e x = some (.int k a))
  (h : XL P n ops dr (i :: done) r K ((d, .int k (k.wrap (0 - a))) :: e) w) (hd : Nat.blt d n = true := by exact rfl) (hg : Gd ops e g := by first | trivial | exact ⟨_, rfl, rfl⟩) : XL P n ops dr done (i :: r) K e w :=
 eO ho (by simpa [cS] using hd) hg (ρ := rh e) (by intro z hZ; simp [Op.operands] at hZ; exact GL hx hZ) rfl (v := .int k (k.wrap (0 - a))) (fun w' => by simp [execOp, bO hx, Op.unary, Op.intArith]) h
theorem I3 {k' : IntKind} {D : TypeDesc} (ho : ops[i]? = some ⟨some d, .convert s u x, t, p, af, g⟩) (hk : ek P (.convert s u x) = 0) (hs : P.underlying s = some D) (hu : P.underlying u = some (.int k')) (hx : ev e x = some (.int k a))
  (h : XL P n ops dr (i :: done) r K ((d, .int k' (k'.wrap a)) :: e) w) (hd : Nat.blt d n = true := by exact rfl) (hg : Gd ops e g := by first | trivial | exact ⟨_, rfl, rfl⟩) : XL P n ops dr done (i :: r) K e w :=
 eO ho (by simpa [cS] using hd) hg (ρ := rh e) (by intro z hZ; simp [Op.operands] at hZ; exact GL hx hZ) hk (v := .int k' (k'.wrap a))
  (fun w' => by simp [execOp, bO hx, convert, run_underlying hs, run_underlying hu, Conv.intToInt]) h
theorem C3 {q : Addr} (ho : ops[i]? = some ⟨some d, .nilCheck x, t, p, af, g⟩) (hx : ev e x = some (.pointer (some q)))
  (h : XL P n ops dr (i :: done) r K ((d, .pointer (some q)) :: e) w) (hd : Nat.blt d n = true := by exact rfl) (hg : Gd ops e g := by first | trivial | exact ⟨_, rfl, rfl⟩) : XL P n ops dr done (i :: r) K e w :=
 eO ho (by simpa [cS] using hd) hg (ρ := rh e) (by intro z hZ; simp [Op.operands] at hZ; exact GL hx hZ) rfl (v := .pointer (some q)) (fun w' => by simp [execOp, bO hx]) h
theorem Z8 {j : Nat} {vs : Array Value} {v : Value} (ho : ops[i]? = some ⟨some d, .extract x j, t, p, af, g⟩) (hx : ev e x = some (.tuple vs)) (hv : vs.toList[j]? = some v)
  (h : XL P n ops dr (i :: done) r K ((d, v) :: e) w) (hd : Nat.blt d n = true := by exact rfl) (hg : Gd ops e g := by first | trivial | exact ⟨_, rfl, rfl⟩) : XL P n ops dr done (i :: r) K e w :=
 eO ho (by simpa [cS] using hd) hg (ρ := rh e) (by intro z hZ; simp [Op.operands] at hZ; exact GL hx hZ) rfl (v := v) (fun w' => by
  have OT : vs[j]? = some v := by simpa using hv
  simp [execOp, bO hx, Instr.extract, OT]) h
theorem mO {f : Fn} {c1 c2 : Array Operand} {v1 v2 : Array Value} (ho : ops[i]? = some ⟨some d, .makeFunc f c1 c2, t, p, af, g⟩) (hx : ∀ z ∈ c1 ++ c2, ∃ v, ev e z = some v)
  (h1 : c1.map (rh e) = v1) (h2 : c2.map (rh e) = v2) (h : XL P n ops dr (i :: done) r K ((d, .func f v1 v2) :: e) w) (hd : Nat.blt d n = true := by exact rfl) (hg : Gd ops e g := by first | trivial | exact ⟨_, rfl, rfl⟩) : XL P n ops dr done (i :: r) K e w :=
 eO ho (by simpa [cS] using hd) hg (ρ := rh e) (by intro z hz; obtain ⟨v, hv⟩ := hx z hz; exact RT hv) rfl (v := .func f v1 v2) (fun w' => by simp [execOp, Instr.makeFunc, h1, h2]) h
theorem iV {b o k : Nat} : (⟨b, o, none⟩ : Addr).add k = ⟨b, o + k, none⟩ := by unfold Addr.add; split <;> simp_all
def bd (P : Program) (s : TypeId) (f : Nat) : Option Nat :=
 match P.underlying s with
 | some (.struct fs) => match fs[f]? with
  | some fl => match P.info? fl.type with
   | some inf => if inf.size = 0 then none else some fl.offset
   | none => none
  | none => none
 | _ => none
theorem KQ {f b o k : Nat} (hf : bd P s f = some k) (w : World) : (Instr.fieldAt s (.pointer (some ⟨b, o, none⟩)) f).run P w = .ok (.pointer (some ⟨b, o + k, none⟩)) w := by
 unfold bd at hf;split at hf
 ·rename_i fs hs;split at hf
  ·rename_i fl ud;split at hf
   ·rename_i inf acf;split at hf
    ·cases hf
    rename_i h0;cases hf;simp [Instr.fieldAt, run_underlying hs, ud, Instr.sureAddr, fieldPlace, sizeOf, typeInfo, acf, h0, iV]
   cases hf
  cases hf
 cases hf
theorem cy {f b o k : Nat} (ho : ops[i]? = some ⟨some d, .fieldAddr s x f, t, p, af, g⟩) (hf : bd P s f = some k) (hx : ev e x = some (.pointer (some ⟨b, o, none⟩)))
  (h : XL P n ops dr (i :: done) r K ((d, .pointer (some ⟨b, o + k, none⟩)) :: e) w) (hd : Nat.blt d n = true := by exact rfl) (hg : Gd ops e g := by first | trivial | exact ⟨_, rfl, rfl⟩) : XL P n ops dr done (i :: r) K e w :=
 eO ho (by simpa [cS] using hd) hg (ρ := rh e) (by intro z hZ; simp [Op.operands] at hZ; exact GL hx hZ) rfl (v := .pointer (some ⟨b, o + k, none⟩)) (fun w' => by simp only [execOp, bO hx, Sem.run_bind, KQ hf]; rfl) h
theorem Z6 {f b k : Nat} (ho : ops[i]? = some ⟨some d, .fieldAddr s x f, t, p, af, g⟩) (hf : bd P s f = some k) (hx : ev e x = some (pQ b))
  (h : XL P n ops dr (i :: done) r K ((d, .pointer (some ⟨b, k, none⟩)) :: e) w) (hd : Nat.blt d n = true := by exact rfl) (hg : Gd ops e g := by first | trivial | exact ⟨_, rfl, rfl⟩) : XL P n ops dr done (i :: r) K e w := cy (hd := hd) (hg := hg) ho hf hx (by rw [r8]; exact h)
theorem dD {c : TypeId} {b o len cap z : Nat} (ho : ops[i]? = some ⟨some d, .indexAddr s x y, t, p, af, g⟩) (hs : P.underlying s = some (.slice c)) (hz : (P.info? c).map (·.size) = some z)
  (hx : ev e x = some (.slice (some ⟨b, o, none⟩) len cap)) (hy : ev e y = some (.int k a)) (ha : 0 <= a /\ a < len)
  (h : XL P n ops dr (i :: done) r K ((d, .pointer (some ⟨b, o + a.toNat * z, none⟩)) :: e) w) (hd : Nat.blt d n = true := by exact rfl) (hg : Gd ops e g := by first | trivial | exact ⟨_, rfl, rfl⟩) : XL P n ops dr done (i :: r) K e w :=
 eO ho (by simpa [cS] using hd) hg (ρ := rh e) (by intro z hZ; simp [Op.operands] at hZ; exact Da hx hy hZ) rfl (v := .pointer (some ⟨b, o + a.toNat * z, none⟩)) (fun w' => by
  cases hi : P.info? c with
  | none => simp [hi] at hz
  | some inf =>
   have dm : inf.size = z := by simpa [hi] using hz
   simp [execOp, bO hx, bO hy, Instr.indexAt, asIntOf, run_underlying hs, ha.1, ha.2, sizeOf, typeInfo, hi, dm, iV]) h
theorem fk {c : TypeId} {b o len cap : Nat} (ho : ops[i]? = some ⟨some d, .indexAddr s x y, t, p, af, g⟩) (hs : P.underlying s = some (.slice c)) (hz : (P.info? c).map (·.size) = some 1)
  (hx : ev e x = some (.slice (some ⟨b, o, none⟩) len cap)) (hy : ev e y = some (.int k a)) (ha : 0 <= a /\ a < len)
  (h : XL P n ops dr (i :: done) r K ((d, .pointer (some ⟨b, o + a.toNat, none⟩)) :: e) w) (hd : Nat.blt d n = true := by exact rfl) (hg : Gd ops e g := by first | trivial | exact ⟨_, rfl, rfl⟩) : XL P n ops dr done (i :: r) K e w := dD (hd := hd) (hg := hg) ho hs hz hx hy ha (by rw [KZ]; exact h)
theorem dQ {c : TypeId} {q : Option Addr} {len cap : Nat} (ho : ops[i]? = some ⟨some d, .call ⟨.builtin .len, #[x], #[s]⟩, t, p, af, g⟩) (hk : ek P (.call ⟨.builtin .len, #[x], #[s]⟩) = 0) (hs : P.underlying s = some (.slice c))
  (hx : ev e x = some (.slice q len cap)) (h : XL P n ops dr (i :: done) r K ((d, iQ len) :: e) w) (hd : Nat.blt d n = true := by exact rfl) (hg : Gd ops e g := by first | trivial | exact ⟨_, rfl, rfl⟩) : XL P n ops dr done (i :: r) K e w :=
 eO ho (by simpa [cS] using hd) hg (ρ := rh e) (by intro z hZ; simp [Op.operands, Call.operands] at hZ; exact GL hx hZ) hk (v := iQ len)
  (fun w' => by simp [execOp, resolve, invoke, builtin, bO hx, Builtin.len_, run_underlying hs, goInt]) h
theorem yH {GU : Array TypeId} (ho : ops[i]? = some ⟨some d, .call ⟨.builtin .min, #[x, y], GU⟩, t, p, af, g⟩) (hx : ev e x = some (.int k a)) (hy : ev e y = some (.int k b))
  (h : XL P n ops dr (i :: done) r K ((d, .int k (min a b)) :: e) w) (hd : Nat.blt d n = true := by exact rfl) (hg : Gd ops e g := by first | trivial | exact ⟨_, rfl, rfl⟩) : XL P n ops dr done (i :: r) K e w :=
 eO ho (by simpa [cS] using hd) hg (ρ := rh e) (by intro z hZ; simp [Op.operands, Call.operands] at hZ; exact Da hx hy hZ) rfl (v := .int k (min a b))
  (fun w' => by simp [execOp, resolve, invoke, builtin, bO hx, bO hy, Builtin.min_, Builtin.min2]; split <;> omega) h
theorem M3 {GU : Array TypeId} (ho : ops[i]? = some ⟨some d, .call ⟨.builtin .max, #[x, y], GU⟩, t, p, af, g⟩) (hx : ev e x = some (.int k a)) (hy : ev e y = some (.int k b))
  (h : XL P n ops dr (i :: done) r K ((d, .int k (max a b)) :: e) w) (hd : Nat.blt d n = true := by exact rfl) (hg : Gd ops e g := by first | trivial | exact ⟨_, rfl, rfl⟩) : XL P n ops dr done (i :: r) K e w :=
 eO ho (by simpa [cS] using hd) hg (ρ := rh e) (by intro z hZ; simp [Op.operands, Call.operands] at hZ; exact Da hx hy hZ) rfl (v := .int k (max a b))
  (fun w' => by simp [execOp, resolve, invoke, builtin, bO hx, bO hy, Builtin.max_, Builtin.max2]; split <;> omega) h
theorem mP {k : IntKind} {v : Int} {y : Nat} {c : BoundsCode} (h0 : 0 <= v /\ v <= y) (w : World) : (Instr.sliceBound (.int k v) y c).run P w = .ok v.toNat w := by
 simp [Instr.sliceBound, asIntOf, h0.1, h0.2]
theorem aaa {c : TypeId} {b o len cap z : Nat} {lo hi : Int} {kl kh : IntKind} {l h' : Operand} (ho : ops[i]? = some ⟨some d, .slice s x (some l) (some h') none, t, p, af, g⟩) (hs : P.underlying s = some (.slice c)) (hz : (P.info? c).map (·.size) = some z)
  (hx : ev e x = some (.slice (some ⟨b, o, none⟩) len cap)) (hl : ev e l = some (.int kl lo)) (hh : ev e h' = some (.int kh hi)) (hb : 0 <= lo /\ lo <= hi /\ hi <= cap) (IB : lo < cap)
  (h : XL P n ops dr (i :: done) r K ((d, .slice (some ⟨b, o + lo.toNat * z, none⟩) (hi.toNat - lo.toNat) (cap - lo.toNat)) :: e) w) (hd : Nat.blt d n = true := by exact rfl) (hg : Gd ops e g := by first | trivial | exact ⟨_, rfl, rfl⟩) : XL P n ops dr done (i :: r) K e w :=
 eO ho (by simpa [cS] using hd) hg (ρ := rh e) (by intro z hZ; simp [Op.operands] at hZ; exact oh3 hx hl hh hZ) rfl
  (v := .slice (some ⟨b, o + lo.toNat * z, none⟩) (hi.toNat - lo.toNat) (cap - lo.toNat)) (fun w' => by
   cases uP : P.info? c with
   | none => simp [uP] at hz
   | some inf =>
    have dm : inf.size = z := by simpa [uP] using hz
    have h1 := mP (P := P) (k := kh) (v := hi) (y := cap) (c := .sliceAcap) ⟨oM, hb.2.2⟩ w';have h2 := mP (P := P) (k := kl) (v := lo) (y := hi.toNat) (c := .sliceB) ⟨hb.1, oM⟩ w';have ly : ¬ cap = lo.toNat := oM;simp [execOp, bO hx, bO hl, bO hh, Instr.sliceAt, Instr.slice, Instr.sliceBounds, run_underlying hs, h1, h2, sizeOf, typeInfo, uP, dm, ly, iV]) h
theorem rX {c : TypeId} {q : Option Addr} {len cap : Nat} {hi : Int} {kh : IntKind} {h' : Operand} (ho : ops[i]? = some ⟨some d, .slice s x none (some h') none, t, p, af, g⟩) (hs : P.underlying s = some (.slice c)) (hz : ((P.info? c).map (·.size)).isSome = true)
  (hx : ev e x = some (.slice q len cap)) (hq : ∀ a, q = some a -> a.spot = none) (hh : ev e h' = some (.int kh hi)) (hb : 0 <= hi /\ hi <= cap)
  (h : XL P n ops dr (i :: done) r K ((d, .slice q hi.toNat cap) :: e) w) (hd : Nat.blt d n = true := by exact rfl) (hg : Gd ops e g := by first | trivial | exact ⟨_, rfl, rfl⟩) : XL P n ops dr done (i :: r) K e w :=
 eO ho (by simpa [cS] using hd) hg (ρ := rh e) (by intro z hZ; simp [Op.operands] at hZ; exact Da hx hh hZ) rfl
  (v := .slice q hi.toNat cap) (fun w' => by
   cases uP : P.info? c with
   | none => simp [uP] at hz
   | some inf =>
    have h1 := mP (P := P) (k := kh) (v := hi) (y := cap) (c := .sliceAcap) hb w';cases q with
    | none => simp [execOp, bO hx, bO hh, Instr.sliceAt, Instr.slice, Instr.sliceBounds, run_underlying hs, h1, sizeOf, typeInfo, uP]
    | some a => simp [execOp, bO hx, bO hh, Instr.sliceAt, Instr.slice, Instr.sliceBounds, run_underlying hs, h1, sizeOf, typeInfo, uP, Addr.add]) h
theorem Rx {c : TypeId} {b o len cap z : Nat} {lo : Int} {kl : IntKind} {l : Operand} (ho : ops[i]? = some ⟨some d, .slice s x (some l) none none, t, p, af, g⟩) (hs : P.underlying s = some (.slice c)) (hz : (P.info? c).map (·.size) = some z)
  (hx : ev e x = some (.slice (some ⟨b, o, none⟩) len cap)) (hl : ev e l = some (.int kl lo)) (hb : 0 <= lo /\ lo <= len) (IB : lo < cap)
  (h : XL P n ops dr (i :: done) r K ((d, .slice (some ⟨b, o + lo.toNat * z, none⟩) (len - lo.toNat) (cap - lo.toNat)) :: e) w) (hd : Nat.blt d n = true := by exact rfl) (hg : Gd ops e g := by first | trivial | exact ⟨_, rfl, rfl⟩) : XL P n ops dr done (i :: r) K e w :=
 eO ho (by simpa [cS] using hd) hg (ρ := rh e) (by intro z hZ; simp [Op.operands] at hZ; exact Da hx hl hZ) rfl
  (v := .slice (some ⟨b, o + lo.toNat * z, none⟩) (len - lo.toNat) (cap - lo.toNat)) (fun w' => by
   cases uP : P.info? c with
   | none => simp [uP] at hz
   | some inf =>
    have dm : inf.size = z := by simpa [uP] using hz
    have h2 := mP (P := P) (k := kl) (v := lo) (y := len) (c := .sliceB) hb w';have ly : ¬ cap = lo.toNat := oM;simp [execOp, bO hx, bO hl, Instr.sliceAt, Instr.slice, Instr.sliceBounds, run_underlying hs, h2, sizeOf, typeInfo, uP, dm, ly, iV]) h
theorem aQ {ps : Array (Nat × Operand)} {vs : List Value} {v : Value} (ho : ops[i]? = some ⟨some d, .build s ps, t, p, af, g⟩) (hx : Pe e (ps.toList.map (·.2)) = some vs)
  (hr : ∀ w', (Instr.build s ((ps.toList.map (·.1)).zip vs).toArray).run P w' = .ok v w')
  (h : XL P n ops dr (i :: done) r K ((d, v) :: e) w) (hd : Nat.blt d n = true := by exact rfl) (hg : Gd ops e g := by first | trivial | exact ⟨_, rfl, rfl⟩) : XL P n ops dr done (i :: r) K e w := by
 obtain ⟨hk, hm⟩ := uk hx;refine eO ho (by simpa [cS] using hd) hg (ρ := rh e) (by intro z hz; exact hk z (by simpa [Op.operands] using hz)) rfl (v := v) (fun w' => ?_) h;have e1 : (ps.map fun (j, z) => (j, rh e z)) = ((ps.toList.map (·.1)).zip vs).toArray := by
  apply Array.ext';rw [<-hm];simp only [Array.toList_map]
  generalize ps.toList = q
  induction q with
  | nil => rfl
  | cons x q ih => obtain ⟨a, b⟩ := x; simp only [cG, List.zip_cons_cons, ih]
 simp only [execOp, e1, Sem.run_bind, hr]; rfl
end
def ag (b : Nat) (l : List Value) (T : TypeId) : az := pt b (.cells l.toArray T (0, 0))
def Rd (w : World) (a : Addr) (cs : List Value) : Prop := ∀ j u, cs[j]? = some u -> w.cell? (a.add j) = some u
def Kg (P : Program) (t : TypeId) : Bool := match P.underlying t with | some (.struct _) | some (.array _ _) => true | _ => false
def lE (P : Program) (t : TypeId) : Bool := (P.underlying t).isSome && !Kg P t && (P.info? t).any (·.size == 1)
def kV (P : Program) (t : TypeId) (z : Nat) : Bool := Kg P t && (P.info? t).any (·.size == z)
def cd (P : Program) (t : TypeId) : Option (Array Value) := (P.info? t).bind fun i => i.zero.map Value.cells
def rep (n : Nat) (v : Value) : List Value := List.replicate n v
@[simp] theorem yO (n : Nat) (v : Value) : (rep n v).length = n := Ni ..
section
variable {P : Program} {w : World} {t : TypeId} {a : Addr} {v : Value} {g : Gh} {L R : List az} {b o : Nat} {l : List Value} {T : TypeId}
theorem xf {x : Bool} (h : Kg P t = x) (hs : (P.underlying t).isSome = true) (w : World) : (isAgg t).run P w = .ok x w := by
 cases hu : P.underlying t with
 | none => rw [hu] at hs; cases hs
 | some d =>
  unfold Kg at h; rw [hu] at h
  unfold isAgg;rw [Sem.run_bind, run_underlying hu w];cases d <;> simp_all
theorem Ig (h : lE P t = true) : (P.underlying t).isSome = true /\ Kg P t = false /\ ∃ i, P.info? t = some i /\ i.size = 1 := by
 simp only [lE, qD, Bool.not_eq_true', Option.any_eq_true] at h;obtain ⟨⟨h1, h2⟩, i, hi, h3⟩ := h;exact ⟨h1, h2, i, hi, by simpa using h3⟩
theorem EV {z : Nat} (h : kV P t z = true) : (P.underlying t).isSome = true /\ Kg P t = true /\ ∃ i, P.info? t = some i /\ i.size = z := by
 simp only [kV, qD, Option.any_eq_true] at h;obtain ⟨h1, i, hi, h3⟩ := h;refine ⟨?_, h1, i, hi, by simpa using h3⟩;unfold Kg at h1
 cases hu : P.underlying t with
 | none => rw [hu] at h1; cases h1
 | some d => rfl
theorem wN (h : ar g L w) (p : dg (ag b l T) L R) : w.cell? ⟨b, o, none⟩ = l[o]? := by
 rw [cell_of_row w b o _ _ _ (h.pt p)]; simp
theorem Rd.gN (h : ar g L w) (p : dg (ag b l T) L R) : Rd w ⟨b, o, none⟩ (l.drop o) := fun j u hu => by
 rw [iV, wN h p]; simpa [K7] using hu
theorem Rd.take {cs : List Value} (h : Rd w a cs) (m : Nat) : Rd w a (cs.take m) := fun j u hu => by
 rw [List.getElem?_take] at hu;split at hu
 ·exact h j u hu
 cases hu
theorem Rd.drop {cs : List Value} {b o : Nat} (h : Rd w ⟨b, o, none⟩ cs) (m : Nat) : Rd w ⟨b, o + m, none⟩ (cs.drop m) := fun j u hu => by
 rw [iV, Nat.add_assoc, <-iV]; exact h (m + j) u (by simpa [K7] using hu)
theorem Rd.nil {a : Addr} : Rd w a [] := fun j u hu => by simp at hu
theorem aj.one (h : lE P t = true) (hc : w.cell? a = some v) : aj P w t a v := by
 obtain ⟨h1, h2, _⟩ := Ig h;unfold aj loadVar;rw [Sem.run_bind, xf h2 h1];simp [load, Sem.run, hc]
theorem aj.many {z : Nat} {cs : List Value} (h : kV P t z = true) (hz : cs.length = z) (hr : Rd w a cs) : aj P w t a (gQ cs) := by
 obtain ⟨h1, h2, i, hi, hs⟩ := EV h;unfold aj loadVar;rw [Sem.run_bind, xf h2 h1];have hl := run_loadCells_list (P := P) w a cs hr;simp [sizeOf, typeInfo, hi, hs, <-hz, hl]
theorem aj.bx (h : lE P t = true) (hw : ar g L w) (p : dg (ag b l T) L R) (hv : l[o]? = some v) : aj P w t ⟨b, o, none⟩ v := aj.one h (by rw [wN hw p]; exact hv)
theorem aj.Kb {z : Nat} {cs : List Value} (h : kV P t z = true) (hw : ar g L w) (p : dg (ag b l T) L R) (hv : (l.drop o).take z = cs) (hz : cs.length = z) : aj P w t ⟨b, o, none⟩ (gQ cs) :=
 aj.many h hz (by rw [<-hv]; exact (Rd.gN hw p).take z)
theorem aj.cw {z : Nat} (h : kV P t z = true) (hw : ar g L w) (p : dg (ag b l T) L R) (hz : l.length = z) : aj P w t ⟨b, 0, none⟩ (gQ l) :=
 aj.many h hz (by have := Rd.gN (o := 0) hw p; simpa using this)
def jN (cs : List Value) : Prop := ∀ u ∈ cs, u.oneCell' = true
theorem PD (h : w.heap[b]? = some (.cells l.toArray T (0, 0))) (c : Array Value) : w.setRow b c = { w with heap := w.heap.setIfInBounds b (.cells c T (0, 0)) } := by
 have iD := (sO.1 h).1;have sY : w.heap[b] = .cells l.toArray T (0, 0) := by simpa [Nj iD] using h
 unfold World.setRow
 congr 1
 apply Array.ext
 ·simp
 intro i h1 h2
 by_cases e : b = i
 ·subst e; simp [Array.getElem_modify, sY]
 rw [Array.getElem_modify, ae e, Array.getElem_setIfInBounds, ae e]
theorem ar.Eu (h : ar g L w) (p : dg (ag b l T) L R) (l' : List Value) : ar g (ag b l' T :: R) (w.setRow b l'.toArray) := by
 have h1 := h.pick p;rw [PD h1.eQ];exact h1.set _
theorem zY (h : ar g L w) (p : dg (ag b l T) L R) {cs : List Value} (h1 : jN cs) (hl : o + cs.length <= l.length) :
  (storeCells ⟨b, o, none⟩ cs).run P w = .ok () (w.setRow b (l.take o ++ cs ++ l.drop (o + cs.length)).toArray) := by
 have := run_storeCells_at P b o T cs 0 l.toArray w (h.pt p) (by simpa using hl) h1
 simpa using this
end
section
variable {P : Program} {n : Nat} {ops : Array Oper} {dr : Bool} {done r : List Nat} {K : gj -> World -> Prop} {e : gj} {w : World} {i d : Nat} {t : TypeId} {p : String} {af : Array Edge} {g : Option (Nat × Bool)}
variable {G : Gh} {L R : List az} {s T : TypeId} {x y : Operand} {b o : Nat} {l : List Value} {v : Value}
theorem gx {dst : Option Tmp} {v : Value} {w' : World} (hp : iI P ops dr done i = []) : ∀ q ∈ iI P ops dr done i, vt P n ops q (qX e dst v) w' := fun q hq => by rw [hp] at hq; cases hq
theorem a9 {q : Nat} {l : List Nat} (h : iI P ops dr done i = l) (hq : q ∈ iI P ops dr done i) : q ∈ l := h ▸ hq
theorem aV {q d : Nat} {a : Addr} {gq : Option (Nat × Bool)} {pq : String} {aq : Array Edge} {tq : TypeId} (ho : ops[q]? = some ⟨some d, .load s x, tq, pq, aq, gq⟩) (hx : ev e x = some (.pointer (some a))) (hv : get e d = some v) (hl : aj P w s a v) :
  vt P n ops q e w := by
 intro o' S7 a' ha Wy;have : o' = ⟨some d, .load s x, tq, pq, aq, gq⟩ := Option.some.inj (S7.symm.trans ho);subst this;refine ⟨v, ?_, fun d' yk => ?_⟩
 ·have Vi := ha.ev hx;unfold aj at hl;simp only [execOp, Vi, Instr.loadAt, Instr.sureAddr, Sem.run_bind, Sem.run_pure, Result.andThen_ok, hl]
 cases yk; exact ha.get d v hv
theorem VV {q j dj : Nat} {want b : Bool} {oq : Oper} (ho : ops[q]? = some oq) (hg : oq.guard = some (j, want)) (hj : (ops[j]?).bind (·.dst) = some dj) (hv : get e dj = some (.bool b)) (hb : b = !want) : vt P n ops q e w := by
 intro o' S7 a' ha Wy;have : o' = oq := Option.some.inj (S7.symm.trans ho);subst this;simp [Region.wanted, hg, yG ha hj hv, hb] at Wy
theorem bt {a : Addr} (ho : ops[i]? = some ⟨some d, .load s x, t, p, af, g⟩) (hx : ev e x = some (.pointer (some a))) (hl : aj P w s a v)
  (h : XL P n ops dr (i :: done) r K ((d, v) :: e) w) (hd : Nat.blt d n = true := by exact rfl) (hg : Gd ops e g := by first | trivial | exact ⟨_, rfl, rfl⟩) : XL P n ops dr done (i :: r) K e w :=
 DQ ho (by simpa [cS] using hd) hg (ρ := rh e) (by intro z hZ; simp [Op.operands] at hZ; exact GL hx hZ) rfl (v := v)
  (by unfold aj at hl; simp only [execOp, bO hx, Instr.loadAt, Instr.sureAddr, Sem.run_bind, Sem.run_pure, Result.andThen_ok, hl]) h
theorem rW {l' : List Value} (ho : ops[i]? = some ⟨none, .store s x y, t, p, af, g⟩) (hg : Gd ops e g) (hx : ev e x = some (.pointer (some ⟨b, o, none⟩))) (hy : ev e y = some v) (h1 : lE P s = true) (hv : v.oneCell' = true)
  (hw : ar G L w) (hp : dg (ag b l T) L R) (Qq : Nat.blt o l.length = true) (NK : l.set o v = l')
  (j6 : ∀ w', ar G (ag b l' T :: R) w' -> ∀ q ∈ iI P ops dr done i, vt P n ops q e w')
  (h : ∀ w', ar G (ag b l' T :: R) w' -> XL P n ops dr (i :: done) r K e w') : XL P n ops dr done (i :: r) K e w := by
 subst NK;have ab0 : o < l.length := by simpa using Qq
 have hs : ar G (ag b (l.set o v) T :: R) (w.setRow b (l.set o v).toArray) := hw.Eu hp _;refine DR ho rfl hg (ρ := rh e) (by intro z hZ; simp [Op.operands] at hZ; exact Da hx hy hZ) rfl (w' := w.setRow b (l.set o v).toArray) ?_ (j6 _ hs) (h _ hs);obtain ⟨_, _, inf, hi, dm⟩ := Ig h1;have iu : v.cells = #[v] := by cases v <;> first | rfl | (simp [Value.oneCell'] at hv)
 have gD := zY (P := P) (o := o) (cs := [v]) hw hp (fun u hu => by simp at hu; subst hu; exact hv) (by simp; omega);have lG : l.take o ++ [v] ++ l.drop (o + [v].length) = l.set o v := by
  rw [Lb, ah ab0]; simp
 rw [lG] at gD;simp only [execOp, bO hx, bO hy, Instr.storeAt, Instr.sureAddr, storeVar, Sem.run_bind, Sem.run_pure, Result.andThen_ok, sizeOf, typeInfo, program, hi, Sem.run, iu, dm];simp [gD]
theorem bS {l' : List Value} (ho : ops[i]? = some ⟨none, .store s x y, t, p, af, g⟩) (hg : Gd ops e g) (hx : ev e x = some (.pointer (some ⟨b, o, none⟩))) (hy : ev e y = some v) (h1 : lE P s = true) (hv : v.oneCell' = true)
  (hw : ar G L w) (hp : dg (ag b l T) L R) (Qq : Nat.blt o l.length = true) (NK : l.set o v = l') (j6 : iI P ops dr done i = [])
  (h : ∀ w', ar G (ag b l' T :: R) w' -> XL P n ops dr (i :: done) r K e w') : XL P n ops dr done (i :: r) K e w :=
 rW ho hg hx hy h1 hv hw hp Qq NK (fun w' _ => gx (dst := none) (v := undef) j6) h
theorem vz {z : Nat} {cs l' : List Value} (ho : ops[i]? = some ⟨none, .store s x y, t, p, af, g⟩) (hg : Gd ops e g) (hx : ev e x = some (.pointer (some ⟨b, o, none⟩))) (hy : ev e y = some (gQ cs)) (h1 : kV P s z = true) (hz : cs.length = z) (hv : jN cs)
  (hw : ar G L w) (hp : dg (ag b l T) L R) (Qq : o + z <= l.length) (NK : l.take o ++ cs ++ l.drop (o + z) = l') (j6 : ∀ w', ar G (ag b l' T :: R) w' -> ∀ q ∈ iI P ops dr done i, vt P n ops q e w')
  (h : ∀ w', ar G (ag b l' T :: R) w' -> XL P n ops dr (i :: done) r K e w') : XL P n ops dr done (i :: r) K e w := by
 subst NK;refine DR ho rfl hg (ρ := rh e) (by intro z hZ; simp [Op.operands] at hZ; exact Da hx hy hZ) rfl (w' := w.setRow b (l.take o ++ cs ++ l.drop (o + z)).toArray) ?_ (j6 _ (hw.Eu hp _)) (h _ (hw.Eu hp _));obtain ⟨_, _, inf, hi, dm⟩ := EV h1;have gD := zY (P := P) (o := o) (cs := cs) hw hp hv oM;rw [hz] at gD;simp only [execOp, bO hx, bO hy, Instr.storeAt, Instr.sureAddr, storeVar, Sem.run_bind, Sem.run_pure, Result.andThen_ok, sizeOf, typeInfo, program, hi, Sem.run, Value.cells, dm];simp [hz, gD]
theorem aL {z : Nat} {cs l' : List Value} (ho : ops[i]? = some ⟨none, .store s x y, t, p, af, g⟩) (hg : Gd ops e g) (hx : ev e x = some (.pointer (some ⟨b, o, none⟩))) (hy : ev e y = some (gQ cs)) (h1 : kV P s z = true) (hz : cs.length = z) (hv : jN cs)
  (hw : ar G L w) (hp : dg (ag b l T) L R) (Qq : o + z <= l.length) (NK : l.take o ++ cs ++ l.drop (o + z) = l') (j6 : iI P ops dr done i = [])
  (h : ∀ w', ar G (ag b l' T :: R) w' -> XL P n ops dr (i :: done) r K e w') : XL P n ops dr done (i :: r) K e w :=
 vz ho hg hx hy h1 hz hv hw hp Qq NK (fun w' _ => gx (dst := none) (v := undef) j6) h
theorem qy {c : List Value} (ho : ops[i]? = some ⟨some d, .alloc s, t, p, af, g⟩) (hz : cd P s = some c.toArray) (hw : ar G L w) (j6 : ∀ w' b, ar G (ag b c s :: L) w' -> ∀ q ∈ iI P ops dr done i, vt P n ops q ((d, pQ b) :: e) w')
  (h : ∀ w' b, ar G (ag b c s :: L) w' -> XL P n ops dr (i :: done) r K ((d, pQ b) :: e) w') (hd : Nat.blt d n = true := by exact rfl) (hg : Gd ops e g := by first | trivial | exact ⟨_, rfl, rfl⟩) : XL P n ops dr done (i :: r) K e w := by
 refine iY ho (by simpa [cS] using hd) hg (ρ := rh e) (by intro z hZ; simp [Op.operands] at hZ) rfl (v := .pointer (some ⟨w.heap.size, 0, none⟩)) (w' := { w with heap := w.heap.push (.cells c.toArray s (0, 0)) }) ?_ (j6 _ _ (hw.push _)) (h _ _ (hw.push _));unfold cd at hz;cases hi : P.info? s with
 | none => simp [hi] at hz
 | some inf =>
  cases uN : inf.zero with
  | none => simp [hi, uN] at hz
  | some z =>
   have hc : z.cells = c.toArray := by simpa [hi, uN] using hz
   simp [execOp, Instr.alloc, zeroValue, typeInfo, hi, uN, newVar, newRow, hc]
theorem aN {c : List Value} (ho : ops[i]? = some ⟨some d, .alloc s, t, p, af, g⟩) (hz : cd P s = some c.toArray) (hw : ar G L w) (j6 : iI P ops dr done i = [])
  (h : ∀ w' b, ar G (ag b c s :: L) w' -> XL P n ops dr (i :: done) r K ((d, pQ b) :: e) w') (hd : Nat.blt d n = true := by exact rfl) (hg : Gd ops e g := by first | trivial | exact ⟨_, rfl, rfl⟩) : XL P n ops dr done (i :: r) K e w :=
 qy (hd := hd) (hg := hg) ho hz hw (fun w' b _ => gx (dst := some d) j6) h
theorem bE {c : List Value} (ho : ops[i]? = some ⟨some d, .box s x, t, p, af, g⟩) (hx : ev e x = some v) (hc : v.cells = c.toArray) (hw : ar G L w) (j6 : iI P ops dr done i = [])
  (h : ∀ w' b, ar G (ag b c s :: L) w' -> XL P n ops dr (i :: done) r K ((d, pQ b) :: e) w') (hd : Nat.blt d n = true := by exact rfl) (hg : Gd ops e g := by first | trivial | exact ⟨_, rfl, rfl⟩) : XL P n ops dr done (i :: r) K e w := by
 refine iY ho (by simpa [cS] using hd) hg (ρ := rh e) (by intro z hZ; simp [Op.operands] at hZ; exact GL hx hZ) rfl (v := .pointer (some ⟨w.heap.size, 0, none⟩)) (w' := { w with heap := w.heap.push (.cells c.toArray s (0, 0)) }) ?_ (gx j6) (h _ _ (hw.push _));simp [execOp, bO hx, Instr.box, newVar, newRow, hc]
theorem Ty {z : Nat} {cs c : Array Value} {v : Value} (hv : v.cells = cs) (h1 : cs.size = z) (h2 : c.size = z) : Instr.fill (fun i => some (i * z, z)) c [(0, v)] = some cs := by
 simp only [Instr.fill, Nat.zero_mul, hv, h1, h2, r8];simp;apply Array.ext';have key : ∀ (l : List Value) (k : Nat) (c : Array Value), k + l.length = c.size →
   ((l.zipIdx k).foldl (fun (cs : Array Value) (x : Value × Nat) => cs.setIfInBounds x.2 x.1) c).toList = c.toList.take k ++ l := by
  intro l
  induction l with
  | nil => intro k c hk; simp at hk ⊢; rw [vN (by simp [hk])]
  | cons u l ih =>
   intro k c hk;simp only [List.zipIdx_cons, PL];rw [ih (k + 1) _ (by simp at hk ⊢; omega)];simp at hk;rw [List.take_succ_eq_append_getElem (by simp; omega)];simp [List.take_set_of_le (eW k)]
 have := key cs.toList 0 c (by simp [h1, h2]);have e : Array.foldl (fun (cs : Array Value) (x : Value × Nat) => cs.setIfInBounds x.2 x.1) c cs.zipIdx 0 cs.size = List.foldl (fun (cs : Array Value) (x : Value × Nat) => cs.setIfInBounds x.2 x.1) c cs.toList.zipIdx := by
  rw [<-Array.toList_zipIdx, Array.foldl_toList]; simp
 rw [e]; simpa using this
theorem vA {c : TypeId} {z : Nat} {cs : List Value} (ho : ops[i]? = some ⟨some d, .buildSlice s 1 #[(0, x)], t, p, af, g⟩) (hs : P.underlying s = some (.slice c)) (xo : (P.info? c).map (·.size) = some z) (A9 : (cd P c).map (·.size) = some z) (hz : 0 < z /\ z <= 16777216)
  (hx : ev e x = some v) (hc : v.cells = cs.toArray) (hl : cs.length = z) (hw : ar G L w)
  (j6 : ∀ w' b, ar G (ag b cs c :: L) w' -> ∀ q ∈ iI P ops dr done i, vt P n ops q ((d, sQ b 1 1) :: e) w')
  (h : ∀ w' b, ar G (ag b cs c :: L) w' -> XL P n ops dr (i :: done) r K ((d, sQ b 1 1) :: e) w') (hd : Nat.blt d n = true := by exact rfl) (hg : Gd ops e g := by first | trivial | exact ⟨_, rfl, rfl⟩) : XL P n ops dr done (i :: r) K e w := by
 refine iY ho (by simpa [cS] using hd) hg (ρ := rh e) (by intro z hZ; simp [Op.operands] at hZ; exact GL hx hZ) rfl (v := .slice (some ⟨w.heap.size, 0, none⟩) 1 1) (w' := { w with heap := w.heap.push (.cells cs.toArray c (0, 0)) }) ?_ (j6 _ _ (hw.push _)) (h _ _ (hw.push _));cases hi : P.info? c with
 | none => simp [hi] at xo
 | some inf =>
  have dm : inf.size = z := by simpa [hi] using xo
  cases uN : inf.zero with
  | none => simp [cd, hi, uN] at A9
  | some zv =>
   have NA : zv.cells.size = z := by simpa [cd, hi, uN] using A9
   have hf := Ty (z := z) (cs := cs.toArray) (c := (Array.range z).map (zv.cells[· % z]!)) hc (by simpa using hl) sM;have hnz : z ≠ 0 := oM;have hle : ¬ 16777216 < z := oM;simp [execOp, Instr.buildSlice, run_underlying hs, sizeOf, typeInfo, hi, dm, zeroValue, uN, hnz, hle, NA, bO hx, hf, newRow]
theorem hY {c : TypeId} {z : Nat} {cs : List Value} (ho : ops[i]? = some ⟨some d, .buildSlice s 1 #[(0, x)], t, p, af, g⟩) (hs : P.underlying s = some (.slice c)) (xo : (P.info? c).map (·.size) = some z) (A9 : (cd P c).map (·.size) = some z) (hz : 0 < z /\ z <= 16777216)
  (hx : ev e x = some v) (hc : v.cells = cs.toArray) (hl : cs.length = z) (hw : ar G L w) (j6 : iI P ops dr done i = [])
  (h : ∀ w' b, ar G (ag b cs c :: L) w' -> XL P n ops dr (i :: done) r K ((d, sQ b 1 1) :: e) w') (hd : Nat.blt d n = true := by exact rfl) (hg : Gd ops e g := by first | trivial | exact ⟨_, rfl, rfl⟩) : XL P n ops dr done (i :: r) K e w :=
 vA (hd := hd) (hg := hg) ho hs xo A9 hz hx hc hl hw (fun w' b _ => gx (dst := some d) j6) h
theorem KC {c : TypeId} {z : Value} {a m : Int} {k k' : IntKind} {bytes : Nat} (ho : ops[i]? = some ⟨some d, .makeSlice s x y, t, p, af, g⟩) (hs : P.underlying s = some (.slice c)) (xo : (P.info? c).map (·.size) = some 1) (O9 : (P.info? c).map (·.bytes) = some bytes)
  (A9 : cd P c = some #[z]) (hx : ev e x = some (.int k a)) (hy : ev e y = some (.int k' m)) (hb : 0 <= a /\ a <= m) (hm : (bytes : Int) * m <= 281474976710656) (QD : m <= 9223372036854775807) (hw : ar G L w) (j6 : iI P ops dr done i = [])
  (h : ∀ w' b, ar G (ag b (rep m.toNat z) c :: L) w' -> XL P n ops dr (i :: done) r K ((d, sQ b a.toNat m.toNat) :: e) w') (hd : Nat.blt d n = true := by exact rfl) (hg : Gd ops e g := by first | trivial | exact ⟨_, rfl, rfl⟩) : XL P n ops dr done (i :: r) K e w := by
 refine iY ho (by simpa [cS] using hd) hg (ρ := rh e) (by intro z hZ; simp [Op.operands] at hZ; exact Da hx hy hZ) rfl (v := .slice (some ⟨w.heap.size, 0, none⟩) a.toNat m.toNat) (w' := { w with heap := w.heap.push (.cells (rep m.toNat z).toArray c (0, 0)) }) ?_ (gx j6) (h _ _ (hw.push _));cases hi : P.info? c with
 | none => simp [hi] at xo
 | some inf =>
  have dm : inf.size = 1 := by simpa [hi] using xo
  have Q8 : inf.bytes = bytes := by simpa [hi] using O9
  cases uN : inf.zero with
  | none => simp [cd, hi, uN] at A9
  | some zv =>
   have NA : zv.cells = #[z] := by simpa [cd, hi, uN] using A9
   have hr := run_make (P := P) w s c inf zv hs hi uN k k' a m hb.1 hb.2 (by rw [Q8]; exact hm) QD;have hmc : madeCells zv.cells (m.toNat * inf.size) = (rep m.toNat z).toArray := by
    rw [NA, dm, KZ]; unfold madeCells;apply Array.ext';simp [Nat.mod_one, List.map_const', rep]
   rw [hmc] at hr;simp only [execOp, bO hx, bO hy, Sem.run_bind, hr];rfl
def row (T : TypeId) (z : Nat) (v : Value) (m : Nat) (xs : List Value) : az := fun h => xs.length = m * z ∧
 ((v = nQ /\ m = 0) \/ ∃ b cap cur, v = sQ b m cap /\ h b = some (.cells (xs ++ cur).toArray T (0, 0)) /\ m <= cap /\ cap <= maxLen /\ (xs ++ cur).length = cap * z)
theorem cf (hw : ar G L w) (T : TypeId) (z : Nat) : ar G (row T z (nQ) 0 [] :: L) w := by
 obtain ⟨hg, h, hh, hL⟩ := hw;refine ⟨hg, h, hh, fun _ => none, h, fun b => .inl rfl, fun b o hb => ?_, ⟨by simp, .inl ⟨rfl, rfl⟩⟩, hL⟩;rcases eP hb with h | h
 ·cases h
 exact h
theorem np {xs cur : List Value} {z m cap : Nat} (hw : ar G (ag b (xs ++ cur) T :: L) w) (h1 : xs.length = m * z) (h2 : m <= cap) (h3 : cap <= maxLen) (h4 : (xs ++ cur).length = cap * z) : ar G (row T z (sQ b m cap) m xs :: L) w :=
 hw.iL fun h hh => ⟨h1, .inr ⟨b, cap, cur, rfl, hh, h2, h3, h4⟩⟩
theorem jE {xs : List Value} {z m : Nat} (hw : ar G (ag b xs T :: L) w) (h1 : xs.length = m * z) (h3 : m <= maxLen) : ar G (row T z (sQ b m m) m xs :: L) w :=
 np (cur := []) (by rw [my]; exact hw) h1 (eW _) h3 (by rw [my]; exact h1)
theorem oR {z m : Nat} {xs : List Value} (hw : ar G (row T z v m xs :: L) w) : xs.length = m * z ∧
  ((v = nQ /\ m = 0 /\ xs = [] /\ ar G L w) \/ ∃ b cap cur, v = sQ b m cap /\ m <= cap /\ cap <= maxLen /\ (xs ++ cur).length = cap * z /\ ar G (ag b (xs ++ cur) T :: L) w) := by
 have oE := hw;obtain ⟨hg, h, hh, h1, h2, hd, hu, ⟨hx, hA⟩, hL⟩ := hw;refine ⟨hx, ?_⟩;rcases hA with ⟨rfl, rfl⟩ | ⟨b, cap, cur, rfl, hb, h3, h4, h5⟩
 ·exact .inl ⟨rfl, rfl, yS (by simpa using hx), oE.tail⟩
 exact .inr ⟨b, cap, cur, rfl, h3, h4, h5, hg, h, hh, h1, h2, hd, hu, hb, hL⟩
theorem aM {z m : Nat} {xs : List Value} (hw : ar G (row T z v m xs :: L) w) : ∃ a cap, v = .slice a m cap := by
 obtain ⟨_, h | ⟨b, cap, cur, h, _⟩⟩ := oR hw
 ·obtain ⟨rfl, rfl, _⟩ := h; exact ⟨none, 0, rfl⟩
 exact ⟨_, cap, h⟩
theorem Oz {c : TypeId} {z bytes m k : Nat} {xs news : List Value} {zv : Value} {inf : TypeInfo} {ty : TypeId} {ax : Addr} {cx : Nat} (hs : P.underlying s = some (.slice c)) (hi : P.info? c = some inf) (uN : inf.zero = some zv) (dm : inf.size = z) (Q8 : inf.bytes = bytes) (NA : zv.cells.size = z)
  (hw : ar G (row c z v m xs :: R) w) (hr : Rd w ax news) (hl : news.length = k * z) (h1 : jN news) (QD : m + k <= maxLen) (O9 : (m + k) * bytes <= 140737488355328) :
  ∃ v' w', (Builtin.append_ #[s, s] ty #[v, .slice (some ax) k cx]).run P w = .ok v' w' /\ ar G (row c z v' (m + k) (xs ++ news) :: R) w' := by
 subst dm;have X6 : m + k <= 9223372036854775807 := by simp only [maxLen] at QD; omega
 obtain ⟨SO, Fp⟩ := oR hw;have hlen : (xs ++ news).length = (m + k) * inf.size := by rw [cj, SO, hl, yQ]
 have grown : ∀ (C' : Nat), ar G R w -> ar G (row c inf.size (.slice (some ⟨w.heap.size, 0, none⟩) (m + k) (grownCap w (m + k) C' c)) (m + k) (xs ++ news) :: R)
   (w.drew.alloc (.cells (xs.toArray ++ news.toArray ++ Builtin.zeroCells zv.cells (grownCap w (m + k) C' c - (m + k))) c)) := fun C' hR => by
  have Uc := grownCap_ge w (m + k) C' c;have yl : grownCap w (m + k) C' c <= maxLen := grownCap_le_maxLen w (m + k) C' c QD;have h2 := (hR.drawn (w.drawn + 1)).push (.cells (xs.toArray ++ news.toArray ++ Builtin.zeroCells zv.cells (grownCap w (m + k) C' c - (m + k))) c (0, 0));have e : xs.toArray ++ news.toArray ++ Builtin.zeroCells zv.cells (grownCap w (m + k) C' c - (m + k)) = ((xs ++ news) ++ (Builtin.zeroCells zv.cells (grownCap w (m + k) C' c - (m + k))).toList).toArray := by
   apply Array.ext'; simp
  rw [e] at h2 ⊢;refine np h2 hlen Uc yl ?_;rw [cj, hlen, Array.length_toList, size_zeroCells, NA, <-yQ]
  congr 1; omega
 rcases Fp with ⟨rfl, rfl, rfl, hR⟩ | ⟨b, cap, cur, rfl, hmc, yl, gJ, hB⟩
 ·by_cases hk : k = 0
  ·subst hk;have hn : news = [] := yS (by simpa using hl);subst hn;refine ⟨nQ, w, ?_, by simpa using cf hR c inf.size⟩;simp [Builtin.append_, run_underlying hs, sizeOf, typeInfo, hi, Builtin.lenOf, Builtin.firstCells, loadCells, loadCellsFrom]
  have OW := run_append_nil (P := P) w s ty c inf zv hs hi uN ax k cx news hl hr oM oM (by rw [Q8]; have hb := O9; simp only [r8] at hb; omega);have hgr := grown 0 hR;simp only [r8, jG, UE] at hgr ⊢;exact ⟨_, _, OW, hgr⟩
 by_cases S0 : m + k <= cap
 ·have xP : m * inf.size + news.length <= (xs ++ cur).toArray.size := by rw [List.size_toArray, gJ, hl, <-yQ]; exact UH _ S0
  have OW := run_append_room (P := P) w s ty c inf hs hi b m cap (xs ++ cur).toArray (hB.pt .here) ax k cx news hl hr h1 S0 xP;have hB' := hB.Eu .here ((xs ++ news) ++ cur.drop news.length);have e : (List.take (m * inf.size) (xs ++ cur).toArray.toList ++ news ++ List.drop (m * inf.size + news.length) (xs ++ cur).toArray.toList).toArray = ((xs ++ news) ++ cur.drop news.length).toArray := by
   simp only [<-SO];simp [PO, u0]
  rw [e] at OW;refine ⟨_, _, OW, np hB' hlen S0 yl ?_⟩;rw [cj, hlen, iC, <-gJ];simp only [List.size_toArray, cj] at xP ⊢
  rw [SO, hl, yQ] at *;omega
 have holds : Rd w ⟨b, 0, none⟩ xs := by
  have := (Rd.gN (o := 0) hB .here).take xs.length
  simpa using this
 have OW := run_append_grow (P := P) w s ty c inf zv hs hi uN ⟨b, 0, none⟩ m cap xs SO holds ax k cx news hl hr oM oM (by rw [Q8]; exact growslice_fits oM O9);exact ⟨_, _, OW, grown cap hB.tail⟩
theorem gP {c : TypeId} {z bytes m k : Nat} {xs news : List Value} {ax : Addr} {cx : Nat} (ho : ops[i]? = some ⟨some d, .call ⟨.builtin .append, #[x, y], #[s, s]⟩, t, p, af, g⟩) (hs : P.underlying s = some (.slice c)) (xo : (P.info? c).map (·.size) = some z)
  (YK : (P.info? c).map (·.bytes) = some bytes) (A9 : (cd P c).map (·.size) = some z) (hx : ev e x = some v) (hy : ev e y = some (.slice (some ax) k cx)) (hw : ar G L w) (hp : dg (row c z v m xs) L R) (hr : Rd w ax news) (hl : news.length = k * z) (h1 : jN news)
  (QD : m + k <= maxLen) (O9 : (m + k) * bytes <= 140737488355328) (j6 : iI P ops dr done i = [])
  (h : ∀ w' v', ar G (row c z v' (m + k) (xs ++ news) :: R) w' -> XL P n ops dr (i :: done) r K ((d, v') :: e) w') (hd : Nat.blt d n = true := by exact rfl) (hg : Gd ops e g := by first | trivial | exact ⟨_, rfl, rfl⟩) : XL P n ops dr done (i :: r) K e w := by
 cases hi : P.info? c with
 | none => simp [hi] at xo
 | some inf =>
  have dm : inf.size = z := by simpa [hi] using xo
  have Q8 : inf.bytes = bytes := by simpa [hi] using YK
  cases uN : inf.zero with
  | none => simp [cd, hi, uN] at A9
  | some zv =>
   have NA : zv.cells.size = z := by simpa [cd, hi, uN] using A9
   obtain ⟨v', w', G9, Dg⟩ := Oz (P := P) (ty := t) (cx := cx) hs hi uN dm Q8 NA (hw.pick hp) hr hl h1 QD O9;refine iY ho (by simpa [cS] using hd) hg (ρ := rh e) (by intro z hZ; simp [Op.operands, Call.operands] at hZ; exact Da hx hy hZ) rfl (v := v') (w' := w') ?_ (gx j6) (h _ _ Dg);simp only [execOp, resolve, invoke, builtin, Sem.run_bind, Sem.run_pure, Result.andThen_ok, oS, cG, j3, bO hx, bO hy, G9]
theorem abi {c : TypeId} {s' : TypeId} {dl dc sl sc : Nat} {ax : Addr} {cs l' : List Value} (ho : ops[i]? = some ⟨some d, .call ⟨.builtin .copy, #[x, y], #[s, s']⟩, t, p, af, g⟩) (hs : P.underlying s = some (.slice c)) (xo : (P.info? c).map (·.size) = some 1)
  (hx : ev e x = some (.slice (some ⟨b, o, none⟩) dl dc)) (hy : ev e y = some (.slice (some ax) sl sc)) (hw : ar G L w) (hp : dg (ag b l T) L R) (hr : Rd w ax cs) (hl : cs.length = Nat.min sl dl) (h1 : jN cs) (xP : o + cs.length <= l.length)
  (NK : l.take o ++ cs ++ l.drop (o + cs.length) = l') (j6 : iI P ops dr done i = [])
  (h : ∀ w', ar G (ag b l' T :: R) w' -> XL P n ops dr (i :: done) r K ((d, iQ cs.length) :: e) w') (hd : Nat.blt d n = true := by exact rfl) (hg : Gd ops e g := by first | trivial | exact ⟨_, rfl, rfl⟩) : XL P n ops dr done (i :: r) K e w := by
 subst NK;have OW := run_copy_row (P := P) w s s' t c b o dl dc ax sl sc l.toArray T cs hs xo (hw.pt hp) hl hr (by simpa using xP) h1;refine iY ho (by simpa [cS] using hd) hg (ρ := rh e) (by intro z hZ; simp [Op.operands, Call.operands] at hZ; exact Da hx hy hZ) rfl (v := iQ cs.length) (w' := w.setRow b (l.take o ++ cs ++ l.drop (o + cs.length)).toArray) ?_ (gx j6) (h _ (hw.Eu hp _));simp only [execOp, resolve, invoke, builtin, Sem.run_bind, Sem.run_pure, Result.andThen_ok, oS, cG, j3, bO hx, bO hy, OW];rfl
def aw (P : Program) (f : FuncId) : Prop := ∃ fn, P.funcs[f]? = some fn /\ (fn.name == "runtime.NumGoroutine") = false /\ fn.body.isNone = false
theorem dL {f : FuncId} {xs : Array Operand} {ts : Array TypeId} {args : List Value} {Q : Value -> World -> Prop} (ho : ops[i]? = some ⟨some d, .call ⟨.value (.func f), xs, ts⟩, t, p, af, g⟩)
  (hf : aw P f) (ha : Pe e xs.toList = some args) (hc : Calls P f args.toArray w (dv Q)) (j6 : ∀ w' v, Q v w' -> ∀ q ∈ iI P ops dr done i, vt P n ops q ((d, v) :: e) w')
  (h : ∀ w' v, Q v w' -> XL P n ops dr (i :: done) r K ((d, v) :: e) w') (hd : Nat.blt d n = true := by exact rfl) (hg : Gd ops e g := by first | trivial | exact ⟨_, rfl, rfl⟩) : XL P n ops dr done (i :: r) K e w := by
 obtain ⟨fn, hf, ue, Be⟩ := hf;obtain ⟨hk, hm⟩ := uk ha;refine Od ho (by simpa [cS] using hd) hg (ρ := rh e) (by
  intro z hZ; simp [Op.operands, Call.operands] at hZ;rcases hZ with rfl | hZ
  ·rfl
  ·exact hk z (by simpa using hZ)) rfl (f := f) (args := args.toArray) ?_ hc fun v w' hQ => ⟨j6 w' v hQ, h w' v hQ⟩
 have hrf : rh e (.func f) = .func (.func f) #[] #[] := rfl;have ZD : xs.map (rh e) = args.toArray := by apply Array.ext'; simp [hm]
 simp only [execOp, resolve, hrf, Deferred.ofValue, invoke, callFunc, ZD, Sem.run_bind, Sem.run_pure, Result.andThen_ok, program, Sem.run, hf, ue, Be];simp
theorem an {f : FuncId} {xs : Array Operand} {ts : Array TypeId} {args : List Value} {Q : Value -> World -> Prop} (ho : ops[i]? = some ⟨some d, .call ⟨.value (.func f), xs, ts⟩, t, p, af, g⟩)
  (hf : aw P f) (ha : Pe e xs.toList = some args) (hc : Calls P f args.toArray w (dv Q)) (j6 : iI P ops dr done i = [])
  (h : ∀ w' v, Q v w' -> XL P n ops dr (i :: done) r K ((d, v) :: e) w') (hd : Nat.blt d n = true := by exact rfl) (hg : Gd ops e g := by first | trivial | exact ⟨_, rfl, rfl⟩) : XL P n ops dr done (i :: r) K e w :=
 dL (hd := hd) (hg := hg) ho hf ha hc (fun w' v _ => gx (dst := some d) j6) h
theorem iN {z : Operand} {f : FuncId} {xs : Array Operand} {ts : Array TypeId} {c1 c2 : Array Value} {args Pn : List Value} {Q : Value -> World -> Prop} (ho : ops[i]? = some ⟨some d, .call ⟨.value z, xs, ts⟩, t, p, af, g⟩)
  (hz : ev e z = some (.func (.func f) c1 c2)) (hf : aw P f) (ha : Pe e xs.toList = some args) (Hh : c1.toList ++ args ++ c2.toList = Pn) (hc : Calls P f Pn.toArray w (dv Q)) (j6 : iI P ops dr done i = [])
  (h : ∀ w' v, Q v w' -> XL P n ops dr (i :: done) r K ((d, v) :: e) w') (hd : Nat.blt d n = true := by exact rfl) (hg : Gd ops e g := by first | trivial | exact ⟨_, rfl, rfl⟩) : XL P n ops dr done (i :: r) K e w := by
 obtain ⟨fn, hf, ue, Be⟩ := hf;obtain ⟨hk, hm⟩ := uk ha;refine Od ho (by simpa [cS] using hd) hg (ρ := rh e) (by
  intro q hZ; simp [Op.operands, Call.operands] at hZ;rcases hZ with rfl | hZ
  ·exact RT hz
  ·exact hk q (by simpa using hZ)) rfl (f := f) (args := Pn.toArray) ?_ hc fun v w' hQ => ⟨gx j6, h w' v hQ⟩
 have ZD : c1 ++ xs.map (rh e) ++ c2 = Pn.toArray := by apply Array.ext'; simp [hm, <-Hh]
 simp only [execOp, resolve, bO hz, Deferred.ofValue, invoke, callFunc, ZD, Sem.run_bind, Sem.run_pure, Result.andThen_ok, program, Sem.run, hf, ue, Be];simp
end
def Ki (P : Program) (l : Nat) (args : List Value) (w : World) (R : Value -> World -> Prop) : Prop :=
 ∃ fn tmps assign body, (Instr.yield l args.toArray).run P w = .ok (.round l fn tmps assign body) w /\ zD P l fn tmps assign body w (dv R)
def IU (P : Program) (G : Gh) (l n : Nat) (IX : Nat -> List Value -> List az -> Prop) (J : Nat -> az) (Jx : az) : Prop :=
 ∀ k args M w, k < n -> IX k args M -> ar G (J k :: M) w -> Ki P l args w fun v w' => (v = .bool true /\ ar G (J (k + 1) :: M) w') \/ (v = .bool false /\ ar G (Jx :: M) w')
def A8 (P : Program) (gf : FuncId) (lb : List Value) (G : Gh) (L : List az) (w : World) (n : Nat) (IX : Nat -> List Value -> List az -> Prop) (Lx : List az) : Prop :=
 ∀ (l : Nat) (J : Nat -> az) (Jx : az) (w' : World), IU P G l n IX J Jx -> ar G (J 0 :: L) w' -> Calls P gf (.func (.yield l) #[] #[] :: lb).toArray w' (dv fun _ MM => ar G (J n :: Lx) MM \/ ar G (Jx :: Lx) MM)
def psE : List Nat -> List Value -> gj -> gj
 | p :: ps, v :: vs, e => psE ps vs ((p, v) :: e)
 | _, _, e => e
theorem Gz {n : Nat} : ∀ (ps : List Nat) (vs : List Value) (e : gj) (a : Act), dT n e a -> ps.all (Nat.blt · n) = true -> ps.length = vs.length →
  dT n (psE ps vs e) { tmps := (ps.zip vs).foldl (fun t (p, v) => t.setIfInBounds p v) a.tmps, defers := a.defers }
 | [], [], e, a, h, _, _ => h
 | p :: ps, v :: vs, e, a, h, hb, hl => by
  simp only [List.all_cons, qD] at hb;exact Gz ps vs ((p, v) :: e) (a.put (some p) v) (h.put (by simpa using hb.1) v) hb.2 (by simpa using hl)
 | [], _ :: _, _, _, _, _, hl => by simp at hl
 | _ :: _, [], _, _, _, _, hl => by simp at hl
section
variable {P : Program} {n : Nat} {ops : Array Oper} {dr : Bool} {done r : List Nat} {K : gj -> World -> Prop} {e : gj} {w : World} {i d : Nat} {t : TypeId} {p : String} {af : Array Edge} {g : Option (Nat × Bool)}
variable {G : Gh} {L R : List az}
theorem Rj {l : Nat} {z : Operand} {xs : Array Operand} {ts : Array TypeId} {args : List Value} {Q : Value -> World -> Prop} (ho : ops[i]? = some ⟨some d, .call ⟨.value z, xs, ts⟩, t, p, af, g⟩)
  (hz : ev e z = some (.func (.yield l) #[] #[])) (ha : Pe e xs.toList = some args) (hy : Ki P l args w Q) (j6 : ∀ w' v, Q v w' -> ∀ q ∈ iI P ops dr done i, vt P n ops q ((d, v) :: e) w')
  (h : ∀ w' v, Q v w' -> XL P n ops dr (i :: done) r K ((d, v) :: e) w') (hd : Nat.blt d n = true := by exact rfl) (hg : Gd ops e g := by first | trivial | exact ⟨_, rfl, rfl⟩) : XL P n ops dr done (i :: r) K e w := by
 obtain ⟨hk, hm⟩ := uk ha;obtain ⟨fn, tmps, assign, body, G9, hR⟩ := hy;refine xd ho (by simpa [cS] using hd) hg (ρ := rh e) (by
  intro q hZ; simp [Op.operands, Call.operands] at hZ;rcases hZ with rfl | hZ
  ·exact RT hz
  ·exact hk q (by simpa using hZ)) ?_
 have ZD : xs.map (rh e) = args.toArray := by apply Array.ext'; simp [hm]
 show xG P _ 2 w _
 unfold xG;simp only [execOp, resolve, bO hz, Deferred.ofValue, invoke, ZD, Sem.run_bind, Sem.run_pure, Result.andThen_ok, UE, Array.append_empty, G9];exact RoundIn.mono hR fun en w' ⟨v, he, hQ⟩ => ⟨v, he, j6 w' v hQ, h w' v hQ⟩
theorem p9 {l : Nat} {z : Operand} {xs : Array Operand} {ts : Array TypeId} {args : List Value} {Q : Value -> World -> Prop} (ho : ops[i]? = some ⟨some d, .call ⟨.value z, xs, ts⟩, t, p, af, g⟩)
  (hz : ev e z = some (.func (.yield l) #[] #[])) (ha : Pe e xs.toList = some args) (hy : Ki P l args w Q) (j6 : iI P ops dr done i = [])
  (h : ∀ w' v, Q v w' -> XL P n ops dr (i :: done) r K ((d, v) :: e) w') (hd : Nat.blt d n = true := by exact rfl) (hg : Gd ops e g := by first | trivial | exact ⟨_, rfl, rfl⟩) : XL P n ops dr done (i :: r) K e w :=
 Rj (hd := hd) (hg := hg) ho hz ha hy (fun w' v _ => gx (dst := some d) j6) h
end
def aai (fn : FuncId) (tmps : Array Value) (ps : Array Tmp) (assign body : Code) (D : Nat) (st : LoopState) (pe : Option Code) : Obj := .loop { state := st, pending := pe, fn, tmps, params := ps, assign, body, defers := D }
abbrev dY (D : Nat) : az := pt D (.deferred (some []))
section
variable {P : Program} {n : Nat} {K F : mK} {E : List (Nat × mK)} {e e₀ : gj} {w : World} {G : Gh} {L Lx : List az}
theorem mz {g : Gh} {b : Nat} {o : Obj} {R : List az} {w : World} (h : ar g (pt b o :: R) w) (o' : Obj) : ar g (pt b o' :: R) (w.putObj b o') := h.set o'
def Pd (G : Gh) (Je : List (Nat × az)) (M : List az) : List (Nat × mK) := Je.map fun x => (x.1, fun _ w => ar G (x.2 :: M) w)
theorem IF {Je : List (Nat × az)} {M : List az} {id : Nat} {K' : mK} (h : uQ (Pd G Je M) id = some K') : ∃ A, (id, A) ∈ Je /\ K' = fun _ w => ar G (A :: M) w := by
 induction Je with
 | nil => cases h
 | cons x r ih =>
  obtain ⟨k, A⟩ := x;simp only [Pd, cG, uQ] at h
  by_cases hk : k = id
  ·subst hk; simp at h; exact ⟨A, fp .., h.symm⟩
  rw [uH hk] at h;obtain ⟨B, h1, h2⟩ := ih h;exact ⟨B, gF _ h1, h2⟩
theorem ru {gop : Operand} {ps : Array Tmp} {assign body : Code} {gf : FuncId} {lb : List Value} {m : Nat} {IX : Nat -> List Value -> List az -> Prop}
  (J : Nat -> az) (Jr : az) (Je : List (Nat × az))
  (hg : ev e gop = some (.func (.func gf) #[] lb.toArray)) (hf : aw P gf) (ft : ps.toList.all (Nat.blt · n) = true)
  (hs : hC e₀ e) (S8 : marks e₀ = []) (hw : ar G (J 0 :: L) w) (hlen : ∀ k args M, IX k args M -> ps.toList.length = args.length) (qu : A8 P gf lb G L w m IX Lx)
  (To : ∀ (l D : Nat) (o : Obj) (k : Nat) (args : List Value) (M : List az) (w : World), k < m -> IX k args M -> ar G (J k :: pt l o :: dY D :: M) w →
   X P n (some l) assign (fun Ht xC => ∃ L1, ar G (pt l o :: L1) xC /\ ∀ (o' : Obj) (Bh : World), ar G (pt l o' :: L1) Bh →
    X P n (some l) body (fun _ w => ar G (J (k + 1) :: pt l o' :: dY D :: M) w) (Pd G Je (pt l o' :: dY D :: M)) (fun _ w => ar G (Jr :: pt l o' :: dY D :: M) w) Ht Bh) [] (fun _ _ => False) (psE ps.toList args e₀) w)
  (Th : ∀ (D : Nat) (w : World), ar G (J m :: dY D :: Lx) w -> K ((1000000000, pQ D) :: e) w)
  (Ye : ∀ (D : Nat) (w : World), ar G (Jr :: dY D :: Lx) w -> F ((1000000000, pQ D) :: e) w)
  (hex : ∀ (id : Nat) (A : az), (id, A) ∈ Je -> ∃ K', uQ E id = some K' /\ ∀ (D : Nat) (w : World), ar G (A :: dY D :: Lx) w -> K' ((1000000000, pQ D) :: e) w) :
  X P n none (.rangeFunc gop ps assign body) K E F e w := fun a ha => by
 refine wpIn_rangeFunc (F := Fw none) ?_;intro fn _;obtain ⟨D, hD⟩ : ∃ D, D = w.heap.size := ⟨_, rfl⟩;obtain ⟨rec, zd⟩ : ∃ rec : LoopState -> Option Code -> Obj, rec = fun st pe => aai fn a.tmps ps assign body D st pe := ⟨_, rfl⟩
 have Dg : ar G (pt (D + 1) (rec .ready none) :: dY D :: J 0 :: L) ((w.alloc (.deferred (some []))).alloc (rec .ready none)) := by
  have h1 := hw.push (.deferred (some []));have h2 := h1.push (rec .ready none);simp only [Array.size_push] at h2;rw [hD];exact h2
 obtain ⟨W1, hW1⟩ : ∃ W1, (w.alloc (.deferred (some []))).alloc (rec .ready none) = W1 := ⟨_, rfl⟩;rw [hW1] at Dg;have hev := ha.ev hg;obtain ⟨ff, Vv, MX, hf3⟩ := hf;refine ⟨D + 1, [{ target := .collected D, args := #[] }], W1, { target := .fn (.func gf) lb.toArray, args := #[.func (.yield (D + 1)) #[] #[]] }, W1, gf,
  (.func (.yield (D + 1)) #[] #[] :: lb).toArray, W1, ?_, ?_, fun _ _ => trivial, ?_, (fun hd => by cases hd), ?_⟩
 ·rw [<-hW1, zd, hD]; exact run_enterLoop_outer _ _ _ _ _
 ·simp only [resolve, hev];simp [Deferred.ofValue, Act.eval]
 ·simp only [invoke, callFunc, Sem.run_bind, Sem.run_pure, Result.andThen_ok, program, Sem.run, Vv, MX, hf3];simp
 have Fl : ∀ (st : LoopState) (pe : Option Code) (A : az) (lT : World), st ≠ .busy -> ar G (pt (D + 1) (rec st pe) :: dY D :: A :: Lx) lT -> ∃ pz, (Instr.endLoop (D + 1)).run P lT = .ok pe pz /\ ar G (A :: dY D :: Lx) pz := fun st pe A lT gD h => by
  have h1 := h.eQ;rw [zd] at h1;have h2 := run_endLoop (P := P) (r := { state := st, pending := pe, fn, tmps := a.tmps, params := ps, assign, body, defers := D }) h1 gD;exact ⟨_, h2, ((mz h _).tail).pick (.there .here)⟩
 have QC : dT n ((1000000000, pQ D) :: e) { a with defers := [{ target := .collected D, args := #[] }] ++ a.defers } := by
  refine ⟨?_, ha.size, ha.small, fun t v hv => ?_⟩
  ·simp [marks, YX, ha.defers]
  rcases lj hv with ⟨h1, _⟩ | ⟨_, h2⟩
  ·exact absurd h1.symm (wh hv)
  exact ha.get t v h2
 have YP : dT n e₀ { tmps := a.tmps, defers := [] } := ⟨by rw [S8]; rfl, ha.size, ha.small, fun t v hv => ha.get t v (hs t v hv)⟩;obtain ⟨Jk, VG⟩ : ∃ Jk : Nat -> az, Jk = fun k h => all [pt (D + 1) (rec .ready none), dY D, J k] h := ⟨_, rfl⟩
 obtain ⟨Jx, YR⟩ : ∃ Jx : az, Jx = fun h => all [pt (D + 1) (rec .done (some .ret)), dY D, Jr] h \/ ∃ id A, (id, A) ∈ Je /\ all [pt (D + 1) (rec .done (some (.exit id))), dY D, A] h := ⟨_, rfl⟩
 have hy : IU P G (D + 1) m IX Jk Jx := fun k args M w' hk pD hS => by
  rw [VG] at hS;obtain ⟨hh, h1, h2⟩ := iA hS;have VF : ar G (pt (D + 1) (rec .ready none) :: dY D :: J k :: M) w' := h2 _ h1;have hl := hlen k args M pD;have ma := VF.eQ;rw [zd] at ma
  refine ⟨fn, _, assign, body, run_yield (r := { state := .ready, pending := none, fn, tmps := a.tmps, params := ps, assign, body, defers := D }) ma (by simpa using hl.symm), ?_⟩;refine roundIn_of_wpIn (F := Fw none) trivial ?_;have Tq : ((ps.zip args.toArray).foldl (fun tmps x => tmps.setIfInBounds x.1 x.2) a.tmps) = (ps.toList.zip args).foldl (fun t x => t.setIfInBounds x.1 x.2) a.tmps := by
   rw [<-Array.foldl_toList, Array.toList_zip]
  have hX := To (D + 1) D (rec .ready none) k args M w' hk pD (VF.AZ (As := [J k]) (.cons (.there (.there .here)) .nil)) _ (Gz ps.toList args e₀ _ YP ft hl)
  show assign.wpIn (Fw (some (D + 1))) 0 P _ { tmps := ((ps.zip args.toArray).foldl (fun tmps x => tmps.setIfInBounds x.1 x.2) a.tmps), defers := [] } w'
  rw [Tq];refine wpIn_mono hX fun ex A3 xC hq => ?_
  cases ex <;> simp only [rE, uQ] at hq <;> simp only [Exit.then]
  case exit => obtain ⟨K', h, _⟩ := hq; cases h
  case ret => obtain ⟨_, _, h⟩ := hq; exact h
  case normal =>
   obtain ⟨Ht, Tp, L1, hS1, Tj⟩ := hq;have LS := hS1.eQ;rw [zd] at LS;refine ⟨_, run_beginRound (r := { state := .ready, pending := none, fn, tmps := a.tmps, params := ps, assign, body, defers := D }) LS rfl, ?_⟩;refine wpIn_mono (Tj (rec .busy none) _ (by rw [zd]; exact mz hS1 _) A3 Tp) fun ex Y9 Bh hq => ?_
   have NO : ∀ (jump : Option Code) (A : az), ar G (A :: pt (D + 1) (rec .busy none) :: dY D :: M) Bh -> ∃ lT, (Instr.endRound (D + 1) jump).run P Bh = .ok (.bool jump.isNone) lT /\ ar G (pt (D + 1) (rec (if jump.isNone then .ready else .done) jump) :: dY D :: A :: M) lT := fun jump A h => by
    have h := h.AZ (As := [pt (D + 1) _, dY D]) (.cons (.there .here) (.cons (.there .here) .nil));have h1 := h.eQ;rw [zd] at h1;refine ⟨_, run_endRound (r := { state := .busy, pending := none, fn, tmps := a.tmps, params := ps, assign, body, defers := D }) jump h1, ?_⟩;rw [zd]; exact mz h _
   cases ex <;> simp only [rE] at hq <;> simp only [roundPost]
   case normal =>
    obtain ⟨_, _, h⟩ := hq;obtain ⟨lT, h3, h4⟩ := NO none _ h;exact ⟨_, lT, h3, _, rfl, .inl ⟨rfl, by rw [VG]; exact rT (M := [_, _, _]) h4 fun _ h => h⟩⟩
   case ret =>
    obtain ⟨_, _, h⟩ := hq;obtain ⟨lT, h3, h4⟩ := NO (some .ret) _ h;exact ⟨_, lT, h3, _, rfl, .inr ⟨rfl, by rw [YR]; exact rT (M := [_, _, _]) h4 fun _ h => .inl h⟩⟩
   case exit id =>
    obtain ⟨K', nS, _, _, h⟩ := hq;obtain ⟨A, hA, rfl⟩ := IF nS;obtain ⟨lT, h3, h4⟩ := NO (some (.exit id)) _ h;exact ⟨_, lT, h3, _, rfl, .inr ⟨rfl, by rw [YR]; exact rT (M := [_, _, _]) h4 fun _ h => .inr ⟨id, A, hA, h⟩⟩⟩
 have h0 : ar G (Jk 0 :: L) W1 := by rw [VG]; exact rT (M := [_, _, _]) Dg fun _ h => h
 refine Calls.fw (Calls.mono (qu (D + 1) Jk Jx W1 hy h0) fun en lT ⟨v, hv, hR⟩ => ?_) none _;subst hv
 show ∃ jump pz, _
 rcases hR with hR | hR
 ·rw [VG] at hR;obtain ⟨hh, h1, h2⟩ := iA hR;obtain ⟨pz, h3, h4⟩ := Fl _ _ _ lT sM (h2 _ h1);exact ⟨none, pz, h3, _, QC, Th D pz h4⟩
 rw [YR] at hR;obtain ⟨hh, h1 | ⟨id, A, hA, h1⟩, h2⟩ := iA hR
 ·obtain ⟨pz, h3, h4⟩ := Fl _ _ _ lT sM (h2 _ h1);exact ⟨some .ret, pz, h3, wpIn_ret ⟨_, QC, Ye D pz h4⟩⟩
 obtain ⟨pz, h3, h4⟩ := Fl _ _ _ lT sM (h2 _ h1);obtain ⟨K', nS, hK⟩ := hex id A hA;exact ⟨some (.exit id), pz, h3, wpIn_exit ⟨K', nS, _, QC, hK D pz h4⟩⟩
end
section
variable {P : Program} {n : Nat} {ops : Array Oper} {dr : Bool} {done r : List Nat} {K : gj -> World -> Prop} {e : gj} {w : World} {i d : Nat} {t : TypeId} {p : String} {af : Array Edge} {g : Option (Nat × Bool)}
variable {G : Gh} {L R : List az} {s u T : TypeId} {x y : Operand} {v : Value} {k : IntKind} {a : Int}
theorem Ee {c : TypeId} {z m : Nat} {zc : Array Value} {xs : Array (Nat × Operand)} {vs cs : List Value} (ho : ops[i]? = some ⟨some d, .buildSlice s m xs, t, p, af, g⟩) (hs : P.underlying s = some (.slice c)) (xo : (P.info? c).map (·.size) = some z) (A9 : cd P c = some zc) (hz : 0 < m * z /\ m * z <= 16777216)
  (hx : Pe e (xs.toList.map (·.2)) = some vs) (hf : Instr.fill (fun i => some (i * z, z)) ((Array.range (m * z)).map (zc[· % zc.size]!)) ((xs.toList.map (·.1)).zip vs) = some cs.toArray) (hw : ar G L w) (j6 : iI P ops dr done i = [])
  (h : ∀ w' b, ar G (ag b cs c :: L) w' -> XL P n ops dr (i :: done) r K ((d, sQ b m m) :: e) w') (hd : Nat.blt d n = true := by exact rfl) (hg : Gd ops e g := by first | trivial | exact ⟨_, rfl, rfl⟩) : XL P n ops dr done (i :: r) K e w := by
 obtain ⟨hk, hm⟩ := uk hx;refine iY ho (by simpa [cS] using hd) hg (ρ := rh e) (by intro z hz; exact hk z (by simpa [Op.operands] using hz)) rfl (v := .slice (some ⟨w.heap.size, 0, none⟩) m m) (w' := { w with heap := w.heap.push (.cells cs.toArray c (0, 0)) }) ?_ (gx j6) (h _ _ (hw.push _));have e1 : (xs.map fun (j, z) => (j, rh e z)) = ((xs.toList.map (·.1)).zip vs).toArray := by
  apply Array.ext';rw [<-hm];simp only [Array.toList_map]
  generalize xs.toList = q
  induction q with
  | nil => rfl
  | cons x q ih => obtain ⟨a, b⟩ := x; simp only [cG, List.zip_cons_cons, ih]
 cases hi : P.info? c with
 | none => simp [hi] at xo
 | some inf =>
  have dm : inf.size = z := by simpa [hi] using xo
  cases uN : inf.zero with
  | none => simp [cd, hi, uN] at A9
  | some zv =>
   have NA : zv.cells = zc := by simpa [cd, hi, uN] using A9
   have hnz : ¬ m * z = 0 := oM;have hle : ¬ 16777216 < m * z := oM;simp only [execOp, e1];simp [Instr.buildSlice, run_underlying hs, sizeOf, typeInfo, hi, dm, zeroValue, uN, hnz, hle, NA, hf, newRow]
theorem Ef {c : TypeId} {z : Nat} (ho : ops[i]? = some ⟨some d, .buildSlice s 0 #[], t, p, af, g⟩) (hs : P.underlying s = some (.slice c)) (xo : (P.info? c).map (·.size) = some z) (hw : ar G L w) (j6 : iI P ops dr done i = [])
  (h : ∀ w' b, ar G (ag b [] c :: L) w' -> XL P n ops dr (i :: done) r K ((d, sQ b 0 0) :: e) w') (hd : Nat.blt d n = true := by exact rfl) (hg : Gd ops e g := by first | trivial | exact ⟨_, rfl, rfl⟩) : XL P n ops dr done (i :: r) K e w := by
 refine iY ho (by simpa [cS] using hd) hg (ρ := rh e) (by intro z hz; simp [Op.operands] at hz) rfl (v := .slice (some ⟨w.heap.size, 0, none⟩) 0 0) (w' := { w with heap := w.heap.push (.cells #[] c (0, 0)) }) ?_ (gx j6) (h _ _ (hw.push _));cases hi : P.info? c with
 | none => simp [hi] at xo
 | some inf => simp [execOp, Instr.buildSlice, run_underlying hs, sizeOf, typeInfo, hi, Instr.fill, newRow]; rw [show Array.map (fun _ => default) (Array.range 0) = (#[] : Array Value) by simp]
theorem C6 {c : TypeId} {q : Option Addr} {l m : Nat} (hs : P.underlying s = some (.slice c)) (w : World) : (Op.equal s (.slice q l m) (nQ)).run P w = .ok q.isNone w := by
 have : ∀ m', (Op.equalIn (m' + 1) s (.slice q l m) (nQ)).run P w = .ok q.isNone w := fun m' => by
  cases q <;> simp [Op.equalIn, run_underlying hs]
 exact this 9999
theorem zP {c : TypeId} {q : Option Addr} {l m : Nat} (ho : ops[i]? = some ⟨some d, .binOp .eql s x (.const (nQ)) u, t, p, af, g⟩)
  (hs : P.underlying s = some (.slice c)) (hx : ev e x = some (.slice q l m))
  (h : XL P n ops dr (i :: done) r K ((d, .bool q.isNone) :: e) w) (hd : Nat.blt d n = true := by exact rfl) (hg : Gd ops e g := by first | trivial | exact ⟨_, rfl, rfl⟩) : XL P n ops dr done (i :: r) K e w :=
 qx (hd := hd) (hg := hg) ho (by simp [ek, hs]) hx (show ev e (.const (nQ)) = some (nQ) from rfl) (fun w' => by
  have h0 : (eqGuard .eql s x (.const (nQ)) (.slice q l m) (nQ)).run P w' = .ok () w' := by simp [eqGuard]
  have h1 : (binOp .eql s (.slice q l m) (nQ)).run P w' = .ok (.bool q.isNone) w' := by
   simp only [binOp, Sem.run_bind, C6 hs, Result.andThen_ok]; rfl
  simp only [Sem.run_bind, h0, h1, Result.andThen_ok]) h
theorem Oh {c : TypeId} {q : Option Addr} {len cap : Nat} {hi mx : Int} {kh km : IntKind} {h' m' : Operand} (ho : ops[i]? = some ⟨some d, .slice s x none (some h') (some m'), t, p, af, g⟩) (hs : P.underlying s = some (.slice c)) (hz : ((P.info? c).map (·.size)).isSome = true)
  (hx : ev e x = some (.slice q len cap)) (hq : ∀ a, q = some a -> a.spot = none) (hh : ev e h' = some (.int kh hi)) (hm : ev e m' = some (.int km mx)) (hb : 0 <= hi /\ hi <= mx /\ mx <= cap)
  (h : XL P n ops dr (i :: done) r K ((d, .slice q hi.toNat mx.toNat) :: e) w) (hd : Nat.blt d n = true := by exact rfl) (hg : Gd ops e g := by first | trivial | exact ⟨_, rfl, rfl⟩) : XL P n ops dr done (i :: r) K e w :=
 eO ho (by simpa [cS] using hd) hg (ρ := rh e) (by intro z hZ; simp [Op.operands] at hZ; exact oh3 hx hh hm hZ) rfl
  (v := .slice q hi.toNat mx.toNat) (fun w' => by
   cases uP : P.info? c with
   | none => simp [uP] at hz
   | some inf =>
    have h1 := mP (P := P) (k := km) (v := mx) (y := cap) (c := .slice3Acap) ⟨oM, hb.2.2⟩ w';have h2 := mP (P := P) (k := kh) (v := hi) (y := mx.toNat) (c := .slice3B) ⟨hb.1, oM⟩ w';cases q with
    | none => simp [execOp, bO hx, bO hh, bO hm, Instr.sliceAt, Instr.slice, Instr.sliceBounds, run_underlying hs, h1, h2, sizeOf, typeInfo, uP]
    | some a => simp [execOp, bO hx, bO hh, bO hm, Instr.sliceAt, Instr.slice, Instr.sliceBounds, run_underlying hs, h1, h2, sizeOf, typeInfo, uP, Addr.add]) h
theorem Og {c : TypeId} {q : Option Addr} {len : Nat} {lo : Int} {kl : IntKind} {l : Operand} (ho : ops[i]? = some ⟨some d, .slice s x (some l) none none, t, p, af, g⟩) (hs : P.underlying s = some (.slice c)) (hz : ((P.info? c).map (·.size)).isSome = true)
  (hx : ev e x = some (.slice q len len)) (hl : ev e l = some (.int kl lo)) (hb : lo = len)
  (h : XL P n ops dr (i :: done) r K ((d, .slice q 0 0) :: e) w) (hd : Nat.blt d n = true := by exact rfl) (hg : Gd ops e g := by first | trivial | exact ⟨_, rfl, rfl⟩) : XL P n ops dr done (i :: r) K e w :=
 eO ho (by simpa [cS] using hd) hg (ρ := rh e) (by intro z hZ; simp [Op.operands] at hZ; exact Da hx hl hZ) rfl
  (v := .slice q 0 0) (fun w' => by
   cases uP : P.info? c with
   | none => simp [uP] at hz
   | some inf =>
    have h1 := mP (P := P) (k := kl) (v := lo) (y := len) (c := .sliceB) ⟨oM, oM⟩ w';have oW : lo.toNat = len := oM;simp [execOp, bO hx, bO hl, Instr.sliceAt, Instr.slice, Instr.sliceBounds, run_underlying hs, h1, sizeOf, typeInfo, uP, oW]) h
theorem yI {c : TypeId} {b o m z : Nat} (ho : ops[i]? = some ⟨some d, .indexAddr s x y, t, p, af, g⟩) (hs : P.underlying s = some (.array m c)) (hz : (P.info? c).map (·.size) = some z)
  (hx : ev e x = some (.pointer (some ⟨b, o, none⟩))) (hy : ev e y = some (.int k a)) (ha : 0 <= a /\ a < m)
  (h : XL P n ops dr (i :: done) r K ((d, .pointer (some ⟨b, o + a.toNat * z, none⟩)) :: e) w) (hd : Nat.blt d n = true := by exact rfl) (hg : Gd ops e g := by first | trivial | exact ⟨_, rfl, rfl⟩) : XL P n ops dr done (i :: r) K e w :=
 eO ho (by simpa [cS] using hd) hg (ρ := rh e) (by intro z hZ; simp [Op.operands] at hZ; exact Da hx hy hZ) rfl (v := .pointer (some ⟨b, o + a.toNat * z, none⟩)) (fun w' => by
  cases hi : P.info? c with
  | none => simp [hi] at hz
  | some inf =>
   have dm : inf.size = z := by simpa [hi] using hz
   simp [execOp, bO hx, bO hy, Instr.indexAt, Instr.sureAddr, asIntOf, run_underlying hs, ha.1, ha.2, sizeOf, typeInfo, hi, dm, iV]) h
theorem Ed {f o : Nat} {fs : Array Field} {fd : Field} {cs : List Value} (ho : ops[i]? = some ⟨some d, .field s x f, t, p, af, g⟩) (hs : P.underlying s = some (.struct fs)) (hf : fs[f]? = some fd) (h1 : Kg P fd.type = false) (h2 : (P.underlying fd.type).isSome = true) (h3 : fd.offset = o)
  (hx : ev e x = some (gQ cs)) (hv : cs[o]? = some v) (h : XL P n ops dr (i :: done) r K ((d, v) :: e) w) (hd : Nat.blt d n = true := by exact rfl) (hg : Gd ops e g := by first | trivial | exact ⟨_, rfl, rfl⟩) : XL P n ops dr done (i :: r) K e w :=
 eO ho (by simpa [cS] using hd) hg (ρ := rh e) (by intro z hZ; simp [Op.operands] at hZ; exact GL hx hZ) rfl (v := v) (fun w' => by
  subst h3;have OT : cs.toArray[fd.offset]? = some v := by simpa using hv
  simp [execOp, bO hx, Instr.field, run_underlying hs, hf, asAgg, part, xf h1 h2, hv, OT]) h
theorem Wg {c : TypeId} {q : Option Addr} {len cap : Nat} (ho : ops[i]? = some ⟨some d, .call ⟨.builtin .cap, #[x], #[s]⟩, t, p, af, g⟩) (hs : P.underlying s = some (.slice c))
  (hx : ev e x = some (.slice q len cap)) (h : XL P n ops dr (i :: done) r K ((d, iQ cap) :: e) w) (hd : Nat.blt d n = true := by exact rfl) (hg : Gd ops e g := by first | trivial | exact ⟨_, rfl, rfl⟩) : XL P n ops dr done (i :: r) K e w :=
 eO ho (by simpa [cS] using hd) hg (ρ := rh e) (by intro z hZ; simp [Op.operands, Call.operands] at hZ; exact GL hx hZ) (by simp [ek, hs]) (v := iQ cap)
  (fun w' => by simp [execOp, resolve, invoke, builtin, bO hx, Builtin.cap_, run_underlying hs, goInt]) h
theorem Xg {c : TypeId} {z bytes m k : Nat} {xs news : List Value} {ax : Addr} {cx : Nat} (ho : ops[i]? = some ⟨some d, .call ⟨.builtin .append, #[x, y], #[s, s]⟩, t, p, af, g⟩) (hs : P.underlying s = some (.slice c)) (xo : (P.info? c).map (·.size) = some z)
  (YK : (P.info? c).map (·.bytes) = some bytes) (A9 : (cd P c).map (·.size) = some z) (hx : ev e x = some v) (hy : ev e y = some (.slice (some ax) k cx)) (hw : ar G L w) (hp : dg (row c z v m xs) L R) (hr : Rd w ax news) (hl : news.length = k * z) (h1 : jN news)
  (QD : m + k <= maxLen) (O9 : (m + k) * bytes <= 140737488355328)
  (j6 : ∀ w' v', ar G (row c z v' (m + k) (xs ++ news) :: R) w' -> ∀ q ∈ iI P ops dr done i, vt P n ops q ((d, v') :: e) w')
  (h : ∀ w' v', ar G (row c z v' (m + k) (xs ++ news) :: R) w' -> XL P n ops dr (i :: done) r K ((d, v') :: e) w') (hd : Nat.blt d n = true := by exact rfl) (hg : Gd ops e g := by first | trivial | exact ⟨_, rfl, rfl⟩) : XL P n ops dr done (i :: r) K e w := by
 cases hi : P.info? c with
 | none => simp [hi] at xo
 | some inf =>
  have dm : inf.size = z := by simpa [hi] using xo
  have Q8 : inf.bytes = bytes := by simpa [hi] using YK
  cases uN : inf.zero with
  | none => simp [cd, hi, uN] at A9
  | some zv =>
   have NA : zv.cells.size = z := by simpa [cd, hi, uN] using A9
   obtain ⟨v', w', G9, Dg⟩ := Oz (P := P) (ty := t) (cx := cx) hs hi uN dm Q8 NA (hw.pick hp) hr hl h1 QD O9;refine iY ho (by simpa [cS] using hd) hg (ρ := rh e) (by intro z hZ; simp [Op.operands, Call.operands] at hZ; exact Da hx hy hZ) rfl (v := v') (w' := w') ?_ (j6 _ _ Dg) (h _ _ Dg);simp only [execOp, resolve, invoke, builtin, Sem.run_bind, Sem.run_pure, Result.andThen_ok, oS, cG, j3, bO hx, bO hy, G9]
end
abbrev KV := List (Int × Value)
def fD : KV -> Int -> Option Value
 | [], _ => none
 | (k, v) :: r, i => if i = k then some v else fD r i
def oh : KV -> Int -> Value -> KV
 | [], i, v => [(i, v)]
 | (k, u) :: r, i, v => if i = k then (k, v) :: r else (k, u) :: oh r i v
def xN : KV -> Int -> KV
 | [], _ => []
 | (k, u) :: r, i => if i = k then r else (k, u) :: xN r i
theorem Qe (kv : KV) (i : Int) (v : Value) (j : Int) : fD (oh kv i v) j = if j = i then some v else fD kv j := by
 induction kv with
 | nil => simp [oh, fD]
 | cons p r ih =>
  obtain ⟨k, u⟩ := p
  by_cases h : i = k
  ·subst h; simp only [oh, if_true, fD]; split <;> rfl
  simp only [oh, ae h, fD, ih]
  by_cases h1 : j = k
  ·subst h1; simp [Ne.symm h]
  simp [h1]
theorem Ns {kv : KV} {i : Int} : fD kv i = none ↔ i ∉ kv.map (·.1) := by
 induction kv with
 | nil => simp [fD]
 | cons p r ih =>
  obtain ⟨k, u⟩ := p
  by_cases h : i = k
  ·subst h; simp [fD]
  simp [fD, h, ih]
theorem Qf {kv : KV} {i : Int} {v : Value} (h : fD kv i = some v) : (i, v) ∈ kv := by
 induction kv with
 | nil => simp [fD] at h
 | cons p r ih =>
  obtain ⟨k, u⟩ := p
  by_cases hk : i = k
  ·subst hk; simp [fD] at h; subst h; simp
  simp [fD, hk] at h; exact gF _ (ih h)
theorem Ij {kv : KV} (hn : (kv.map (·.1)).Nodup) {i : Int} {v : Value} (h : (i, v) ∈ kv) : fD kv i = some v := by
 induction kv with
 | nil => cases h
 | cons p r ih =>
  obtain ⟨k, u⟩ := p;simp only [cG, xH] at hn;rcases bB.1 h with h | h
  ·cases h; simp [fD]
  have : i ≠ k := fun e => hn.1 (dd.2 ⟨(i, v), h, e⟩)
  simp [fD, this, ih hn.2 h]
theorem Qd (kv : KV) (i : Int) (v : Value) : (oh kv i v).map (·.1) = if i ∈ kv.map (·.1) then kv.map (·.1) else kv.map (·.1) ++ [i] := by
 induction kv with
 | nil => simp [oh]
 | cons p r ih =>
  obtain ⟨k, u⟩ := p
  by_cases h : i = k
  ·subst h; simp [oh]
  by_cases hm : i ∈ r.map (·.1)
  ·rw [ah hm] at ih; rw [ah (by rw [cG]; exact gF _ hm)];simp only [oh, ae h, cG, ih]
  rw [ae hm] at ih; rw [ae (by rw [cG]; exact fun hc => (bB.1 hc).elim h hm)];simp only [oh, ae h, cG, ih, j4]
theorem E4 {kv : KV} (hn : (kv.map (·.1)).Nodup) (i : Int) (v : Value) : ((oh kv i v).map (·.1)).Nodup := by
 rw [Qd]; split
 ·exact hn
 rename_i h; exact Nf.2 ⟨hn, by simp, fun a ha b hb => by simp at hb; subst hb; exact fun e => h (e ▸ ha)⟩
theorem SA (kv : KV) (i : Int) : (xN kv i).Sublist kv := by
 induction kv with
 | nil => exact .slnil
 | cons p r ih =>
  obtain ⟨k, u⟩ := p
  by_cases h : i = k
  ·subst h; simp [xN]
  simp only [xN, ae h]; exact ih.cons_cons _
theorem Nv {kv : KV} (hn : (kv.map (·.1)).Nodup) (i : Int) : ((xN kv i).map (·.1)).Nodup := hn.sublist ((SA kv i).map _)
structure w9 (es : List MapEntry) (ck : Nat) (kv : KV) : Prop where
 EH : es.map (fun e => (e.key, e.val)) = kv.map fun p => (iQ p.1, p.2)
 keys : (kv.map (·.1)).Nodup
 C' : ∀ e ∈ es, e.born < ck
 MA : (es.map (·.born)).Nodup
def cX (m : Nat) (kv : KV) : az := fun h => ∃ es ck, h m = some (.map es ck) /\ w9 es.toList ck kv
def n3 : KV -> Int -> Nat -> Option (Nat × Value)
 | [], _, _ => none
 | (k, v) :: r, i, j => if i = k then some (j, v) else n3 r i (j + 1)
theorem FY (K : IntKind) (i : Int) : ∀ (es : List MapEntry) (kv : KV) (j : Nat), es.map (fun e => (e.key, e.val)) = kv.map (fun p => (iQ p.1, p.2)) →
  Instr.findNow (.int K) (iQ i) es j = some (n3 kv i j)
 | [], [], _, _ => rfl
 | [], _ :: _, _, h => by simp at h
 | _ :: _, [], _, h => by simp at h
 | e :: es, (k, v) :: kv, j, h => by
  simp only [cG, List.cons.injEq, Prod.mk.injEq] at h;obtain ⟨⟨h1, h2⟩, h3⟩ := h;have ih := FY K i es kv (j + 1) h3
  by_cases hk : i = k
  ·subst hk; simp [Instr.findNow, h1, h2, Instr.sameNow, n3]
  have hb : (i == k) = false := by simpa using hk
  simp [Instr.findNow, h1, Instr.sameNow, n3, hk, ih, hb]
theorem y9 (i : Int) : ∀ (kv : KV) (j : Nat), (n3 kv i j).map (·.2) = fD kv i
 | [], _ => rfl
 | (k, v) :: r, j => by by_cases h : i = k <;> simp [n3, fD, h, y9 i r]
theorem BG (i : Int) (v : Value) : ∀ (es : List MapEntry) (kv : KV) (j : Nat), es.map (fun e => (e.key, e.val)) = kv.map (fun p => (iQ p.1, p.2)) →
  ∀ q u, n3 kv i j = some (q, u) -> j <= q /\ ∃ e, es[q - j]? = some e /\ e.key = iQ i ∧
   (es.modify (q - j) fun e => { e with key := iQ i, val := v }).map (fun e => (e.key, e.val)) = (oh kv i v).map (fun p => (iQ p.1, p.2)) ∧
   (es.modify (q - j) fun e => { e with key := iQ i, val := v }).map (·.born) = es.map (·.born) ∧
   (es.eraseIdx (q - j)).map (fun e => (e.key, e.val)) = (xN kv i).map (fun p => (iQ p.1, p.2))
 | [], [], _, _, _, _, h => by simp [n3] at h
 | [], _ :: _, _, h, _, _, _ => by simp at h
 | _ :: _, [], _, h, _, _, _ => by simp at h
 | e :: es, (k, u) :: kv, j, h, q, u', hf => by
  simp only [cG, List.cons.injEq, Prod.mk.injEq] at h;obtain ⟨⟨h1, h2⟩, h3⟩ := h
  by_cases hk : i = k
  ·subst hk;simp [n3] at hf;obtain ⟨rfl, rfl⟩ := hf;refine ⟨eW _, e, ?_⟩;simp [oh, xN, h1, h3]
  simp [n3, hk] at hf;obtain ⟨hle, e', h4, h5, h6, h7, h8⟩ := BG i v es kv (j + 1) h3 q u' hf;have hq : q - j = (q - (j + 1)) + 1 := oM;refine ⟨oM, e', ?_⟩;rw [hq];refine ⟨by simpa using h4, h5, ?_, ?_, ?_⟩
  ·simp only [UJ, cG, oh, ae hk, h6, h1, h2]
  ·simp only [UJ, cG, h7]
  simp only [List.eraseIdx_cons_succ, cG, xN, ae hk, h8, h1, h2]
section
variable {P : Program} {n : Nat} {ops : Array Oper} {dr : Bool} {done r : List Nat} {K : gj -> World -> Prop} {e : gj} {w : World} {i d : Nat} {t : TypeId} {p : String} {af : Array Edge} {g : Option (Nat × Bool)}
variable {G : Gh} {L R : List az} {s T : TypeId} {x y c : Operand} {m : Nat} {kv : KV} {v : Value} {kt et : TypeId} {a : Int}
theorem jZ {o : Obj} (h : w.heap[m]? = some o) (hn : ∀ c e f, o ≠ .cells c e f) : (getObj m).run P w = .ok o w := by
 unfold getObj;cases o <;> simp [Sem.run, h]
 exact absurd rfl (hn _ _ _)
theorem tN {o : Obj} (o' : Obj) (h : w.heap[m]? = some o) (hn : ∀ c e f, o ≠ .cells c e f) : (setObj m o').run P w = .ok () { w with heap := w.heap.setIfInBounds m o' } := by
 unfold setObj;cases o <;> simp [Sem.run, h]
 exact absurd rfl (hn _ _ _)
theorem qp (hw : ar G (cX m kv :: R) w) : ∃ es ck, w9 es.toList ck kv /\ ar G (pt m (.map es ck) :: R) w := by
 obtain ⟨hg, h, hh, h1, h2, hd, hu, ⟨es, ck, hm, hf⟩, hL⟩ := hw;exact ⟨es, ck, hf, hg, h, hh, h1, h2, hd, hu, hm, hL⟩
theorem qo {es : Array MapEntry} {ck : Nat} (hf : w9 es.toList ck kv) (hw : ar G (pt m (.map es ck) :: R) w) : ar G (cX m kv :: R) w := hw.iL fun h hm => ⟨es, ck, hm, hf⟩
theorem jT (hk : P.underlying kt = some (.int .i64)) {es : List MapEntry} {ck : Nat} (hf : w9 es ck kv) (w : World) : (Instr.findKey kt (iQ a) es).run P w = .ok (n3 kv a 0) w := by
 simp [Instr.findKey, run_underlying hk, FY .i64 a es kv 0 hf.EH]
theorem iP (hk : P.underlying kt = some (.int .i64)) {b : Bool} (w : World) : (Instr.checkKey b 10000 kt (iQ a)).run P w = .ok () w := by
 have : ∀ q, (Instr.checkKey b (q + 1) kt (iQ a)).run P w = .ok () w := fun q => by simp [Instr.checkKey, run_underlying hk]
 exact this 9999
theorem Rv (ho : ops[i]? = some ⟨some d, .makeMap s none, t, p, af, g⟩) (hw : ar G L w) (j6 : iI P ops dr done i = [])
  (h : ∀ w' m, ar G (cX m [] :: L) w' -> XL P n ops dr (i :: done) r K ((d, .map (some m)) :: e) w') (hd : Nat.blt d n = true := by exact rfl) (hg : Gd ops e g := by first | trivial | exact ⟨_, rfl, rfl⟩) : XL P n ops dr done (i :: r) K e w := by
 refine iY ho (by simpa [cS] using hd) hg (ρ := rh e) (by intro z hZ; simp [Op.operands] at hZ) rfl (v := .map (some w.heap.size)) (w' := { w with heap := w.heap.push (.map #[] 0) }) ?_ (gx j6) (h _ _ (qo ⟨rfl, by simp, by simp, by simp⟩ (hw.push _)));simp [execOp, Instr.makeMap, newObj, Sem.run]
theorem Z1 {z : Value} (ho : ops[i]? = some ⟨some d, .lookup s x y true, t, p, af, g⟩) (hs : P.underlying s = some (.map kt et)) (hk : P.underlying kt = some (.int .i64)) (hz : (P.info? et).bind (·.zero) = some z) (hx : ev e x = some (.map (some m))) (hy : ev e y = some (iQ a))
  (hw : ar G L w) (hp : dg (cX m kv) L R) {v0 : Value} {b0 : Bool} (Vl : (fD kv a).getD z = v0) (hb0 : (fD kv a).isSome = b0) (h : XL P n ops dr (i :: done) r K ((d, .tuple #[v0, .bool b0]) :: e) w) (hd : Nat.blt d n = true := by exact rfl) (hg : Gd ops e g := by first | trivial | exact ⟨_, rfl, rfl⟩) : XL P n ops dr done (i :: r) K e w := by
 subst Vl hb0;obtain ⟨es, ck, hf, oE⟩ := qp (hw.pick hp);refine DQ ho (by simpa [cS] using hd) hg (ρ := rh e) (by intro z hZ; simp [Op.operands] at hZ; exact Da hx hy hZ) rfl (v := .tuple #[(fD kv a).getD z, .bool (fD kv a).isSome]) ?_ h;have h1 := jZ (P := P) oE.eQ sM;have h2 := y9 a kv 0;cases hi : P.info? et with
 | none => simp [hi] at hz
 | some inf =>
  have uN : inf.zero = some z := by simpa [hi] using hz
  cases IC : n3 kv a 0 with
  | none => rw [IC] at h2; simp at h2; simp [execOp, bO hx, bO hy, Instr.lookup, run_underlying hs, h1, iP hk, jT hk hf, IC, zeroValue, typeInfo, hi, uN, <-h2]
  | some q => obtain ⟨q, u⟩ := q; rw [IC] at h2; simp at h2; simp [execOp, bO hx, bO hy, Instr.lookup, run_underlying hs, h1, iP hk, jT hk hf, IC, <-h2]
theorem zO {z : Value} (ho : ops[i]? = some ⟨some d, .lookup s x y false, t, p, af, g⟩) (hs : P.underlying s = some (.map kt et)) (hk : P.underlying kt = some (.int .i64)) (hz : (P.info? et).bind (·.zero) = some z) (hx : ev e x = some (.map (some m))) (hy : ev e y = some (iQ a))
  (hw : ar G L w) (hp : dg (cX m kv) L R) {v0 : Value} (Vl : (fD kv a).getD z = v0) (h : XL P n ops dr (i :: done) r K ((d, v0) :: e) w) (hd : Nat.blt d n = true := by exact rfl) (hg : Gd ops e g := by first | trivial | exact ⟨_, rfl, rfl⟩) : XL P n ops dr done (i :: r) K e w := by
 subst Vl;obtain ⟨es, ck, hf, oE⟩ := qp (hw.pick hp);refine DQ ho (by simpa [cS] using hd) hg (ρ := rh e) (by intro z hZ; simp [Op.operands] at hZ; exact Da hx hy hZ) rfl (v := (fD kv a).getD z) ?_ h;have h1 := jZ (P := P) oE.eQ sM;have h2 := y9 a kv 0;cases hi : P.info? et with
 | none => simp [hi] at hz
 | some inf =>
  have uN : inf.zero = some z := by simpa [hi] using hz
  cases IC : n3 kv a 0 with
  | none => rw [IC] at h2; simp at h2; simp [execOp, bO hx, bO hy, Instr.lookup, run_underlying hs, h1, iP hk, jT hk hf, IC, zeroValue, typeInfo, hi, uN, <-h2]
  | some q => obtain ⟨q, u⟩ := q; rw [IC] at h2; simp at h2; simp [execOp, bO hx, bO hy, Instr.lookup, run_underlying hs, h1, iP hk, jT hk hf, IC, <-h2]
theorem y8 {i : Int} : ∀ {kv : KV} {j : Nat}, n3 kv i j = none -> i ∉ kv.map (·.1)
 | [], _, _ => by simp
 | (k, v) :: r, j, h => by
  by_cases hk : i = k
  ·subst hk; simp [n3] at h
  simp [n3, hk] at h; simpa [hk] using y8 h
theorem LC {i : Int} {v : Value} : ∀ {kv : KV}, i ∉ kv.map (·.1) -> oh kv i v = kv ++ [(i, v)]
 | [], _ => rfl
 | (k, u) :: r, h => by simp at h; simp [oh, h.1, LC (kv := r) (i := i) (v := v) (by simpa using h.2)]
theorem Ru (ho : ops[i]? = some ⟨none, .mapUpdate s x y c, t, p, af, g⟩) (hg : Gd ops e g) (hs : P.underlying s = some (.map kt et)) (hk : P.underlying kt = some (.int .i64)) (hx : ev e x = some (.map (some m))) (hy : ev e y = some (iQ a)) (hc : ev e c = some v)
  (hw : ar G L w) (hp : dg (cX m kv) L R) (j6 : iI P ops dr done i = []) (h : ∀ w', ar G (cX m (oh kv a v) :: R) w' -> XL P n ops dr (i :: done) r K e w') : XL P n ops dr done (i :: r) K e w := by
 obtain ⟨es, ck, hf, oE⟩ := qp (hw.pick hp);have h1 := jZ (P := P) oE.eQ sM;have q8 := fun o' => tN (P := P) o' oE.eQ sM
 cases IC : n3 kv a 0 with
 | none =>
  have ZB := y8 IC;have xP : w9 (es.push { key := iQ a, val := v, born := ck }).toList (ck + 1) (oh kv a v) := by
   refine ⟨by rw [LC ZB]; simp [hf.EH], E4 hf.keys _ _, fun e he => ?_, ?_⟩
   ·simp at he; rcases he with he | rfl
    ·have := hf.C' e (by simpa using he); omega
    simp
   simp only [Array.toList_push, il, cG, j3];refine Nf.2 ⟨hf.MA, by simp, fun b hb c hc => ?_⟩;simp at hc; subst hc;obtain ⟨e, he, rfl⟩ := dd.1 hb;have := hf.C' e he; omega
  refine DR ho rfl hg (ρ := rh e) (by intro z hZ; simp [Op.operands] at hZ; exact oh3 hx hy hc hZ) rfl (w' := _) ?_ (gx (dst := none) j6) (h _ (qo xP (oE.set _)));simp [execOp, bO hx, bO hy, bO hc, Instr.mapUpdate, run_underlying hs, h1, iP hk, jT hk hf, IC, q8]
 | some q =>
  obtain ⟨q, u⟩ := q;obtain ⟨_, e', h4, h5, h6, h7, _⟩ := BG a v es.toList kv 0 hf.EH q u IC;simp only [Nat.sub_zero] at h4 h6 h7;have xP : w9 (es.modify q fun e => { e with key := iQ a, val := v }).toList ck (oh kv a v) := by
   have em : (es.modify q fun e => { e with key := iQ a, val := v }).toList = es.toList.modify q fun e => { e with key := iQ a, val := v } := by simp
   rw [em];refine ⟨h6, E4 hf.keys _ _, fun x hx => ?_, by rw [h7]; exact hf.MA⟩;have hb : x.born ∈ (es.toList.modify q fun e => { e with key := iQ a, val := v }).map (·.born) := dd.2 ⟨x, hx, rfl⟩;rw [h7] at hb;obtain ⟨z, hz, hzb⟩ := dd.1 hb;have := hf.C' z hz; omega
  refine DR ho rfl hg (ρ := rh e) (by intro z hZ; simp [Op.operands] at hZ; exact oh3 hx hy hc hZ) rfl (w' := _) ?_ (gx (dst := none) j6) (h _ (qo xP (oE.set _)));have Qt : ((es[q]?).map (·.key)).getD (iQ a) = iQ a := by
   have : es[q]? = some e' := by simpa using h4
   simp [this, h5]
  simp [execOp, bO hx, bO hy, bO hc, Instr.mapUpdate, run_underlying hs, h1, iP hk, jT hk hf, IC, q8, Qt, Instr.keyThatStays, Instr.sameBits]
theorem Rw {ts : Array TypeId} (ho : ops[i]? = some ⟨none, .call ⟨.builtin .delete, #[x, y], ts⟩, t, p, af, g⟩) (hg : Gd ops e g) (ht : ts[0]? = some s) (hs : P.underlying s = some (.map kt et)) (hk : P.underlying kt = some (.int .i64)) (hx : ev e x = some (.map (some m))) (hy : ev e y = some (iQ a))
  (hw : ar G L w) (hp : dg (cX m kv) L R) (j6 : iI P ops dr done i = []) (h : ∀ w', ar G (cX m (xN kv a) :: R) w' -> XL P n ops dr (i :: done) r K e w') : XL P n ops dr done (i :: r) K e w := by
 obtain ⟨es, ck, hf, oE⟩ := qp (hw.pick hp);have h1 := jZ (P := P) oE.eQ sM;have q8 := fun o' => tN (P := P) o' oE.eQ sM
 cases IC : n3 kv a 0 with
 | none =>
  have ZB := y8 IC;have aco : ∀ {kv : KV}, a ∉ kv.map (·.1) -> xN kv a = kv := by
   intro kv
   induction kv with
   | nil => intro _; rfl
   | cons p r ih => intro hn; obtain ⟨k, u⟩ := p; simp at hn; simp [xN, hn.1, ih (by simpa using hn.2)]
  have xP : w9 es.toList ck (xN kv a) := by rw [aco ZB]; exact hf
  refine iY ho rfl hg (ρ := rh e) (by intro z hZ; simp [Op.operands, Call.operands] at hZ; exact Da hx hy hZ) rfl (v := .tuple #[]) (w' := _) ?_ (gx (dst := none) j6) (h _ (qo xP (oE.set _)));simp [execOp, resolve, invoke, builtin, bO hx, bO hy, Builtin.delete_, ht, run_underlying hs, h1, iP hk, jT hk hf, IC, q8]
 | some q =>
  obtain ⟨q, u⟩ := q;obtain ⟨_, e', h4, h5, _, _, h8⟩ := BG a (iQ 0) es.toList kv 0 hf.EH q u IC;simp only [Nat.sub_zero] at h4 h8;have MR : q < es.size := by have := (nU.1 h4).1; simpa using this
  have em : (es.eraseIdxIfInBounds q).toList = es.toList.eraseIdx q := by simp [Array.eraseIdxIfInBounds, MR]
  have xP : w9 (es.eraseIdxIfInBounds q).toList ck (xN kv a) := by
   rw [em];exact ⟨h8, Nv hf.keys _, fun x hx => hf.C' x ((List.eraseIdx_sublist ..).subset hx), hf.MA.sublist ((List.eraseIdx_sublist ..).map _)⟩
  refine iY ho rfl hg (ρ := rh e) (by intro z hZ; simp [Op.operands, Call.operands] at hZ; exact Da hx hy hZ) rfl (v := .tuple #[]) (w' := _) ?_ (gx (dst := none) j6) (h _ (qo xP (oE.set _)));simp [execOp, resolve, invoke, builtin, bO hx, bO hy, Builtin.delete_, ht, run_underlying hs, h1, iP hk, jT hk hf, IC, q8]
def G5 (it m : Nat) (kv : KV) (vis : List Int) : az := fun h => ∃ (es : Array MapEntry) (ck : Nat) (sq : Array Nat) (vs : List MapEntry), h m = some (.map es ck) /\ h it = some (.mapIter (some m) ck sq ck) /\ m ≠ it /\ w9 es.toList ck kv ∧
 (∀ e ∈ vs, e ∈ es.toList) /\ (vs.map fun (e : MapEntry) => e.born) = sq.toList.reverse /\ (vs.map fun (e : MapEntry) => e.key) = vis.map (iQ ·)
theorem BI {it : Nat} {vis : List Int} (hw : ar G (G5 it m kv vis :: R) w) : ∃ (es : Array MapEntry) (ck : Nat) (sq : Array Nat) (vs : List MapEntry), w9 es.toList ck kv /\ (∀ e ∈ vs, e ∈ es.toList) /\ (vs.map fun (e : MapEntry) => e.born) = sq.toList.reverse /\ (vs.map fun (e : MapEntry) => e.key) = vis.map (iQ ·) ∧
  ar G (pt it (.mapIter (some m) ck sq ck) :: pt m (.map es ck) :: R) w := by
 obtain ⟨hg, h, hh, h1, h2, hd, hu, ⟨es, ck, sq, vs, hm, hi, ly, hf, h3, h4, h5⟩, hL⟩ := hw;refine ⟨es, ck, sq, vs, hf, h3, h4, h5, hg, h, hh, fun b => if b = it then h1 b else none, fun b => if b = it then none else qA h1 h2 b, fun b => ?_, fun b o hb => ?_, by simp [pt, hi], fun b => if b = it then none else h1 b, h2, fun b => ?_, fun b o hb => ?_, by simp [pt, ly, hm], hL⟩
 ·by_cases e : b = it <;> simp [e]
 ·refine hu b o ?_;rcases eP hb with hb | hb
  ·have L5 : (if b = it then h1 b else none) = some o := hb;split at L5
   ·exact eI L5
   cases L5
  have L5 : (if b = it then none else qA h1 h2 b) = some o := hb;split at L5
  ·cases L5
  exact L5
 ·by_cases e : b = it
  ·exact .inl (by simp [e])
  rcases hd b with h | h
  ·exact .inl (by simp [h])
  exact .inr h
 have qu : h2 it = none := (hd it).resolve_left (by simp [hi])
 by_cases e : b = it
 ·subst e; rcases eP hb with hb | hb
  ·simp at hb
  rw [qu] at hb; cases hb
 simp only [ae e];rcases eP hb with hb | hb
 ·simp [e] at hb; exact eI hb
 exact eZ hd hb
theorem Iu {it : Nat} {vis : List Int} {es : Array MapEntry} {ck : Nat} {sq : Array Nat} {vs : List MapEntry} (hf : w9 es.toList ck kv) (h3 : ∀ e ∈ vs, e ∈ es.toList) (h4 : (vs.map fun (e : MapEntry) => e.born) = sq.toList.reverse) (h5 : (vs.map fun (e : MapEntry) => e.key) = vis.map (iQ ·))
  (hw : ar G (pt it (.mapIter (some m) ck sq ck) :: pt m (.map es ck) :: R) w) : ar G (G5 it m kv vis :: R) w := by
 have ly := hw.ne;have h : ar G (aT [pt it (.mapIter (some m) ck sq ck), pt m (.map es ck)] :: R) w := ar.bH (M := [_, _]) hw;refine h.iL fun h ⟨h1, h2, hd, hu, hi, h6, h7, yk, OV, hm, _⟩ => ⟨es, ck, sq, vs, hu m _ (eZ hd (OV m _ (eI hm))), hu it _ (eI hi), fun e => ly e.symm, hf, h3, h4, h5⟩
theorem ZU (ho : ops[i]? = some ⟨some d, .range s x, t, p, af, g⟩) (hs : P.underlying s = some (.map kt et)) (hx : ev e x = some (.map (some m))) (hw : ar G L w) (hp : dg (cX m kv) L R) (j6 : iI P ops dr done i = [])
  (h : ∀ w' it, ar G (G5 it m kv [] :: R) w' -> XL P n ops dr (i :: done) r K ((d, pQ it) :: e) w') (hd : Nat.blt d n = true := by exact rfl) (hg : Gd ops e g := by first | trivial | exact ⟨_, rfl, rfl⟩) : XL P n ops dr done (i :: r) K e w := by
 obtain ⟨es, ck, hf, oE⟩ := qp (hw.pick hp);have h1 := jZ (P := P) oE.eQ sM;refine iY ho (by simpa [cS] using hd) hg (ρ := rh e) (by intro z hZ; simp [Op.operands] at hZ; exact GL hx hZ) rfl (v := .pointer (some ⟨w.heap.size, 0, none⟩)) (w' := { w with heap := w.heap.push (.mapIter (some m) ck #[] ck) }) ?_ (gx j6)
  (h _ _ (Iu (vs := []) hf sM sM sM (oE.push _)))
 simp [execOp, bO hx, Instr.range, run_underlying hs, h1, newObj, Sem.run]
theorem MB {es : List MapEntry} (h : (es.map (·.born)).Nodup) {a b : MapEntry} (ha : a ∈ es) (hb : b ∈ es) (e : a.born = b.born) : a = b := by
 induction es with
 | nil => cases ha
 | cons x es ih =>
  simp only [cG, xH] at h;rcases bB.1 ha with Pa | Pa <;> rcases bB.1 hb with ue | ue
  ·rw [Pa, ue]
  ·exact absurd (dd.2 ⟨b, ue, by rw [<-e, Pa]⟩) h.1
  ·exact absurd (dd.2 ⟨a, Pa, by rw [e, ue]⟩) h.1
  exact ih h.2 Pa ue
theorem w9.entry {es : List MapEntry} {ck : Nat} (hf : w9 es ck kv) {x : MapEntry} (hx : x ∈ es) : ∃ k, x.key = iQ k /\ fD kv k = some x.val := by
 have : (x.key, x.val) ∈ kv.map fun p => (iQ p.1, p.2) := by rw [<-hf.EH]; exact dd.2 ⟨x, hx, rfl⟩
 obtain ⟨p, hp, he⟩ := dd.1 this;simp only [Prod.mk.injEq] at he;exact ⟨p.1, he.1.symm, by rw [<-he.2]; exact Ij hf.keys hp⟩
theorem w9.key_inj {es : List MapEntry} {ck : Nat} (hf : w9 es ck kv) {a b : MapEntry} (ha : a ∈ es) (hb : b ∈ es) (e : a.key = b.key) : a = b := by
 have hn : (es.map (·.key)).Nodup := by
  have : es.map (·.key) = (kv.map (·.1)).map (iQ ·) := by
   have := congrArg (List.map (·.1)) hf.EH; simpa [PK, Function.comp_def] using this
  rw [this];exact List.Pairwise.map _ (fun a b CU h => CU (by simpa using h)) hf.keys
 clear hf
 induction es with
 | nil => cases ha
 | cons x es ih =>
  simp only [cG, xH] at hn;rcases bB.1 ha with Pa | Pa <;> rcases bB.1 hb with ue | ue
  ·rw [Pa, ue]
  ·exact absurd (dd.2 ⟨b, ue, by rw [<-e, Pa]⟩) hn.1
  ·exact absurd (dd.2 ⟨a, Pa, by rw [e, ue]⟩) hn.1
  exact ih Pa ue hn.2
theorem w9.XE {es : List MapEntry} {ck : Nat} (hf : w9 es ck kv) {k : Int} {v : Value} (h : fD kv k = some v) : ∃ x ∈ es, x.key = iQ k /\ x.val = v := by
 have : (iQ k, v) ∈ es.map fun e => (e.key, e.val) := by rw [hf.EH]; exact dd.2 ⟨(k, v), Qf h, rfl⟩
 obtain ⟨x, hx, he⟩ := dd.1 this;simp only [Prod.mk.injEq] at he;exact ⟨x, hx, he.1, he.2⟩
theorem abh {it : Nat} {vis : List Int} (ho : ops[i]? = some ⟨some d, .next x false, t, p, af, g⟩) (hx : ev e x = some (pQ it)) (hw : ar G L w) (hp : dg (G5 it m kv vis) L R) (j6 : iI P ops dr done i = [])
  (aaG : ∀ w', (∀ k v, fD kv k = some v -> k ∈ vis) -> ar G (G5 it m kv vis :: R) w' -> XL P n ops dr (i :: done) r K ((d, .tuple #[.bool false]) :: e) w')
  (aaI : ∀ w' k v, fD kv k = some v -> k ∉ vis -> ar G (G5 it m kv (k :: vis) :: R) w' -> XL P n ops dr (i :: done) r K ((d, .tuple #[.bool true, iQ k, v]) :: e) w') (hd : Nat.blt d n = true := by exact rfl) (hg : Gd ops e g := by first | trivial | exact ⟨_, rfl, rfl⟩) : XL P n ops dr done (i :: r) K e w := by
 obtain ⟨es, ck, sq, vs, hf, h3, h4, h5, oE⟩ := BI (hw.pick hp);have h1 := jZ (P := P) oE.eQ sM;have h2 := jZ (P := P) (oE.pt (.there .here)) sM;have q8 := fun o' => tN (P := P) o' oE.eQ sM
 have hsq : ∀ b, b ∈ sq ↔ ∃ x ∈ vs, MapEntry.born x = b := fun b => by
  have : b ∈ sq.toList.reverse ↔ b ∈ vs.map fun (e : MapEntry) => e.born := by rw [h4]
  simpa using this
 have Vj : ∀ k, k ∈ vis ↔ ∃ x ∈ vs, x.key = iQ k := fun k => by
  have : (iQ k) ∈ vis.map (iQ ·) ↔ (iQ k) ∈ vs.map fun (e : MapEntry) => e.key := by rw [h5]
  simpa using this
 have SJ : (!sq.isEmpty && !es.isEmpty && es.all (·.born ≥ ck)) = false := by
  cases he : es.isEmpty with
  | true => simp
  | false =>
   have ly : es.toList ≠ [] := by intro h; simp at he; exact he (by simpa using h)
   obtain ⟨x, r', vu⟩ := List.exists_cons_of_ne_nil ly;have Qj : x ∈ es.toList := by rw [vu]; simp
   have := hf.C' x Qj;have : es.all (·.born ≥ ck) = false := by
    cases hb : es.all (·.born ≥ ck) with
    | false => rfl
    | true => have := Xx.1 hb x (by simpa using Qj); simp at this; omega
   simp [this]
 let left := es.filter fun e => !sq.contains e.born
 have hold : left.filter (·.born < ck) = left := by
  apply Array.filter_eq_self.2;intro x hx; have := hf.C' x (by have := (RZ.1 hx).1; simpa using this); simpa using this
 have BO : left.filter (·.born ≥ ck) = #[] := by
  apply Array.filter_eq_empty_iff.2;intro x hx; have := hf.C' x (by have := (RZ.1 hx).1; simpa using this); simpa using this
 have WU : ∀ r', (Instr.next (pQ it) false t).run P w = r' -> (execOp (rh e) ⟨some d, .next x false, t, p, af, g⟩).run P w = r'.andThen fun v w' => .ok (.value v) w' := fun r' hr => by
  simp only [execOp, bO hx, Sem.run_bind, hr]; rfl
 by_cases hl : left = #[]
 ·refine iY ho (by simpa [cS] using hd) hg (ρ := rh e) (by intro z hZ; simp [Op.operands] at hZ; exact GL hx hZ) rfl (v := .tuple #[.bool false]) (w' := w) ?_ (gx j6) (aaG _ (fun k v hk => ?_) (hw.pick hp))
  ·refine (WU (.ok (.tuple #[.bool false]) w) ?_).trans rfl;simp only [Instr.next, Sem.run_bind, h1, h2, Result.andThen_ok, SJ];have e1 : (es.filter fun e => !sq.contains e.born) = left := rfl;simp only [e1, hl];simp [choose, Sem.run, Question.forced]
  obtain ⟨x, hx, xO, _⟩ := hf.XE hk;have : ¬ x ∈ left := by rw [hl]; simp
  have hb : x.born ∈ sq := by
   cases hc : sq.contains x.born with
   | true => simpa using hc
   | false => exact absurd (RZ.2 ⟨by simpa using hx, by rw [hc]; rfl⟩) this
  obtain ⟨y, hy, Qi⟩ := (hsq _).1 hb;have : y = x := MB hf.MA (h3 y hy) hx Qi;subst this;exact (Vj k).2 ⟨y, hy, xO⟩
 have S9 : 0 < left.size := Nat.pos_of_ne_zero fun h => hl (Array.eq_empty_of_size_eq_zero h)
 have acn : left.isEmpty = false := by simp [Array.isEmpty]; omega
 have key : ∃ (x : MapEntry) (w0 : World), x ∈ left /\ (∀ G' L', ar G' L' w -> ar G' L' w0) /\ w0.heap = w.heap ∧
   (Instr.next (pQ it) false t).run P w = .ok (.tuple #[.bool true, x.key, x.val]) { w0 with heap := w0.heap.setIfInBounds it (.mapIter (some m) ck (sq.push x.born) ck) } := by
  let q := Question.mapNext left.size
  let j := if q.forced then 0 else q.cut (w.tape w.drawn q)
  have hj : j < left.size := by
   by_cases hqf : q.forced = true
   ·simp [j, hqf]; exact S9
   simp [j, hqf, q, Question.cut]; exact Nat.mod_lt _ S9
  have hjg : left[j]? = some left[j] := Nj hj;refine ⟨left[j], if q.forced then w else { w with drawn := w.drawn + 1 }, Array.getElem_mem hj, fun G' L' h => by split; (exact h); (exact h.drawn _), by split <;> rfl, ?_⟩;simp only [Instr.next, Sem.run_bind, h1, h2, Result.andThen_ok, SJ];have e2 : (es.filter fun e => !sq.contains e.born) = left := rfl;simp only [e2, hold, BO, acn, Array.append_empty, Array.size_map, Bool.false_eq_true, if_false, UE, Sem.run_pure, Result.andThen_ok];have qU : (choose (.mapNext left.size)).run P w = .ok j (if q.forced then w else { w with drawn := w.drawn + 1 }) := by
   unfold choose; simp only [Sem.run]; by_cases hqf : q.forced = true <;> simp [q, j] at hqf ⊢ <;> simp [hqf]
  rw [Sem.run_bind, qU];simp only [Result.andThen_ok, Array.getElem?_map, hjg, RW];have abO : ∀ o', (setObj it o').run P (if q.forced then w else { w with drawn := w.drawn + 1 }) = .ok () { (if q.forced then w else { w with drawn := w.drawn + 1 }) with heap := (if q.forced then w else { w with drawn := w.drawn + 1 }).heap.setIfInBounds it o' } := fun o' =>
   tN (P := P) o' (by split <;> exact oE.eQ) sM
  rw [Sem.run_bind, abO]; rfl
 obtain ⟨x, w0, SO, Dg, acV, G9⟩ := key;have Zs : x ∈ es.toList := by have := (RZ.1 SO).1; simpa using this
 have hxn : ¬ x.born ∈ sq := by have := (RZ.1 SO).2; simpa using this
 obtain ⟨k, hk, Qs⟩ := hf.entry Zs;have uO : k ∉ vis := fun hc => by
  obtain ⟨y, hy, Fc⟩ := (Vj k).1 hc;have : y = x := hf.key_inj (h3 y hy) Zs (Fc.trans hk.symm);subst this;exact hxn ((hsq _).2 ⟨y, hy, rfl⟩)
 have BP := Iu (m := m) (vis := k :: vis) (vs := x :: vs) (sq := sq.push x.born) hf (fun y hy => by rcases bB.1 hy with rfl | hy; (exact Zs); (exact h3 y hy)) (by simp [h4]) (by simp [h5, hk]) ((Dg _ _ oE).set _);rw [hk] at G9;exact iY ho (by simpa [cS] using hd) hg (ρ := rh e) (by intro z hZ; simp [Op.operands] at hZ; exact GL hx hZ) rfl (v := .tuple #[.bool true, iQ k, x.val]) (w' := _) ((WU _ G9).trans rfl) (gx j6) (aaI _ k x.val Qs uO BP)
theorem Z' {it : Nat} {vis : List Int} {k : Int} (ho : ops[i]? = some ⟨some d, .entry x, t, p, af, g⟩) (hx : ev e x = some (pQ it)) (hw : ar G L w) (hp : dg (G5 it m kv (k :: vis)) L R) (hv : fD kv k = some v)
  (h : XL P n ops dr (i :: done) r K ((d, .tuple #[iQ k, v]) :: e) w) (hd : Nat.blt d n = true := by exact rfl) (hg : Gd ops e g := by first | trivial | exact ⟨_, rfl, rfl⟩) : XL P n ops dr done (i :: r) K e w := by
 obtain ⟨es, ck, sq, vs, hf, h3, h4, h5, oE⟩ := BI (hw.pick hp);have h1 := jZ (P := P) oE.eQ sM;have h2 := jZ (P := P) (oE.pt (.there .here)) sM;cases vs with
 | nil => simp at h5
 | cons x0 vs =>
  simp only [cG, List.cons.injEq] at h4 h5;have Qj : x0 ∈ es.toList := h3 x0 (fp ..);have aa4 : sq.back? = some x0.born := by
   have : sq.toList.reverse.head? = some x0.born := by rw [<-h4]; rfl
   rw [Array.back?_eq_getElem?]; simpa [List.getLast?_eq_getElem?] using this
  obtain ⟨k', nS, Qs⟩ := hf.entry Qj;have : k' = k := by have := nS.symm.trans h5.1; simpa using this
  subst this;have abF : x0.val = v := by rw [hv] at Qs; simpa using Qs.symm
  have aaW : es.find? (·.born == x0.born) = some x0 := by
   rw [<-Array.find?_toList];obtain ⟨y, hy⟩ : ∃ y, es.toList.find? (·.born == x0.born) = some y := by
    cases hq : es.toList.find? (·.born == x0.born) with
    | some y => exact ⟨y, rfl⟩
    | none => have := UD.1 hq x0 Qj; simp at this
   rw [hy];have Qi := List.find?_some hy;simp only [beq_iff_eq] at Qi;rw [MB hf.MA (UL hy) Qj Qi]
  refine DQ ho (by simpa [cS] using hd) hg (ρ := rh e) (by intro z hZ; simp [Op.operands] at hZ; exact GL hx hZ) rfl (v := .tuple #[iQ k', v]) ?_ h;simp [execOp, bO hx, Instr.entry, h1, h2, aa4, aaW, nS, abF]
end
class FO (P : Program) (s f : Nat) (k : outParam Nat) : Prop where
 h : bd P s f = some k
section
variable {P : Program} {n : Nat} {ops : Array Oper} {dr : Bool} {done r : List Nat} {K : gj -> World -> Prop} {e : gj} {w : World} {i d : Nat} {t : TypeId} {p : String} {af : Array Edge} {g : Option (Nat × Bool)} {G : Gh} {L R : List az} {s T : TypeId} {x y : Operand} {v : Value} {l : List Value}
theorem Z7 {f b k : Nat} [hf : FO P s f k] (ho : ops[i]? = some ⟨some d, .fieldAddr s x f, t, p, af, g⟩) (hx : ev e x = some (pQ b)) (h : XL P n ops dr (i :: done) r K ((d, .pointer (some ⟨b, k, none⟩)) :: e) w) (hd : Nat.blt d n = true := by exact rfl) (hg : Gd ops e g := by first | trivial | exact ⟨_, rfl, rfl⟩) : XL P n ops dr done (i :: r) K e w := Z6 (hd := hd) (hg := hg) ho hf.h hx h
theorem lD {b o : Nat} (h1 : lE P s = true) (hw : ar G L w) (h : XL P n ops dr (i :: done) r K ((d, v) :: e) w) (ho : ops[i]? = some ⟨some d, .load s x, t, p, af, g⟩ := by exact rfl) (hd : Nat.blt d n = true := by exact rfl) (hg : Gd ops e g := by first | trivial | exact ⟨_, rfl, rfl⟩) (hx : ev e x = some (.pointer (some ⟨b, o, none⟩)) := by exact rfl) (q : dg (ag b l T) L R := by repeat (first | with_reducible exact dg.here | apply dg.there)) (hv : l[o]? = some v := by exact rfl) : XL P n ops dr done (i :: r) K e w := bt (hd := hd) (hg := hg) ho hx (aj.bx h1 hw q hv) h
theorem lA {b z : Nat} (h1 : kV P s z = true) (hw : ar G L w) (h : XL P n ops dr (i :: done) r K ((d, gQ l) :: e) w) (ho : ops[i]? = some ⟨some d, .load s x, t, p, af, g⟩ := by exact rfl) (hd : Nat.blt d n = true := by exact rfl) (hg : Gd ops e g := by first | trivial | exact ⟨_, rfl, rfl⟩) (hx : ev e x = some (pQ b) := by exact rfl) (q : dg (ag b l T) L R := by repeat (first | with_reducible exact dg.here | apply dg.there)) (hz : l.length = z := by exact rfl) : XL P n ops dr done (i :: r) K e w := bt (hd := hd) (hg := hg) ho hx (aj.cw h1 hw q hz) h
end
theorem cQ {A : Prop} {p q : Bool} (h : p = q) (ha : A := by exact rfl) : A /\ some (Value.bool p) = some (Value.bool q) := ⟨ha, congrArg some (congrArg Value.bool h)⟩
theorem cK {P : Program} {f : FuncId} {fn : Func} (h : P.funcs[f]? = some fn) (h1 : (fn.name == "runtime.NumGoroutine") = false := by kernel_rfl) (h2 : fn.body.isNone = false := by kernel_rfl) : aw P f := ⟨fn, h, h1, h2⟩
theorem bK : prog.follows .mixedOrders = true := by kernel_rfl
theorem So : lE prog 1 = true := by kernel_rfl
theorem Pq : prog.underlying 2 = some (.int .i64) := by kernel_rfl
theorem kY : prog.underlying 3 = some (.int .i64) := by kernel_rfl
theorem cT : (prog.info? 3).map (·.size) = some 1 := by kernel_rfl
theorem Oo : ((prog.info? 3).map (·.size)).isSome = true := by kernel_rfl
theorem qR : (prog.info? 3).map (·.bytes) = some 8 := by kernel_rfl
theorem ai : lE prog 3 = true := by kernel_rfl
theorem k9 : (cd prog 3).map (·.size) = some 1 := by kernel_rfl
theorem HS : cd prog 3 = some [(iQ 0)].toArray := by kernel_rfl
theorem Ea : (prog.info? 3).bind (·.zero) = some (iQ 0) := by kernel_rfl
theorem N' : prog.underlying 4 = some .bool := by kernel_rfl
theorem DT : (prog.info? 4).map (·.size) = some 1 := by kernel_rfl
theorem V5 : (prog.info? 4).map (·.bytes) = some 1 := by kernel_rfl
theorem cr : lE prog 4 = true := by kernel_rfl
theorem Ri : cd prog 4 = some [(.bool false)].toArray := by kernel_rfl
theorem xz : prog.underlying 5 = some (.int .u8) := by kernel_rfl
theorem dX : (prog.info? 5).map (·.size) = some 1 := by kernel_rfl
theorem Pz : ((prog.info? 5).map (·.size)).isSome = true := by kernel_rfl
theorem pk : (prog.info? 5).map (·.bytes) = some 1 := by kernel_rfl
theorem xh : lE prog 5 = true := by kernel_rfl
theorem k8 : (cd prog 5).map (·.size) = some 1 := by kernel_rfl
theorem zJ : cd prog 5 = some [(.int .u8 0)].toArray := by kernel_rfl
theorem bP : prog.underlying 22 = some (.slice 3) := by kernel_rfl
theorem dU : lE prog 22 = true := by kernel_rfl
theorem Kz : cd prog 22 = some [(nQ)].toArray := by kernel_rfl
theorem aU : prog.underlying 24 = some (.slice 62) := by kernel_rfl
theorem uX : prog.underlying 28 = some (.pointer 38) := by kernel_rfl
theorem au : lE prog 28 = true := by kernel_rfl
theorem fz : prog.underlying 31 = some (.slice 69) := by kernel_rfl
theorem bp : lE prog 34 = true := by kernel_rfl
theorem dP : prog.underlying 35 = some (.map 3 75) := by kernel_rfl
theorem dt : lE prog 35 = true := by kernel_rfl
theorem jM : prog.underlying 36 = some (.slice 170) := by kernel_rfl
theorem ez : lE prog 36 = true := by kernel_rfl
theorem BX : bd prog 38 0 = some 0 := by kernel_rfl
theorem BW : bd prog 38 1 = some 1 := by kernel_rfl
theorem BV : bd prog 38 2 = some 2 := by kernel_rfl
theorem BU : bd prog 38 3 = some 3 := by kernel_rfl
theorem ct : kV prog 40 8 = true := by kernel_rfl
theorem jW : cd prog 40 = some [(iQ 0), (iQ 0), (iQ 0), (iQ 0), (iQ 0), (iQ 0), (iQ 0), (nQ)].toArray := by kernel_rfl
theorem DA : bd prog 40 0 = some 0 := by kernel_rfl
theorem Dz : bd prog 40 1 = some 1 := by kernel_rfl
theorem Dy : bd prog 40 2 = some 2 := by kernel_rfl
theorem Dx : bd prog 40 3 = some 3 := by kernel_rfl
theorem Dw : bd prog 40 4 = some 4 := by kernel_rfl
theorem Dv : bd prog 40 5 = some 5 := by kernel_rfl
theorem Du : bd prog 40 6 = some 6 := by kernel_rfl
theorem Dt : bd prog 40 7 = some 7 := by kernel_rfl
theorem aD : lE prog 41 = true := by kernel_rfl
theorem rk : cd prog 41 = some [(iQ 0)].toArray := by kernel_rfl
theorem fh : prog.underlying 51 = some (.slice 57) := by kernel_rfl
theorem bL : prog.underlying 55 = some (.slice 5) := by kernel_rfl
theorem ay : lE prog 55 = true := by kernel_rfl
theorem yN : (prog.info? 57).map (·.size) = some 4 := by kernel_rfl
theorem xF : ((prog.info? 57).map (·.size)).isSome = true := by kernel_rfl
theorem vU : kV prog 57 4 = true := by kernel_rfl
theorem wx : bd prog 57 0 = some 0 := by kernel_rfl
theorem wv : bd prog 57 1 = some 1 := by kernel_rfl
theorem wu : bd prog 57 2 = some 2 := by kernel_rfl
theorem wm : bd prog 57 3 = some 3 := by kernel_rfl
theorem jl : prog.underlying 58 = some (.slice 66) := by kernel_rfl
theorem iK : lE prog 58 = true := by kernel_rfl
theorem x9 : cd prog 58 = some [(nQ)].toArray := by kernel_rfl
theorem bV : (prog.info? 62).map (·.size) = some 3 := by kernel_rfl
theorem tH : ((prog.info? 62).map (·.size)).isSome = true := by kernel_rfl
theorem gW : (prog.info? 62).map (·.bytes) = some 24 := by kernel_rfl
theorem aF : kV prog 62 3 = true := by kernel_rfl
theorem eL : (cd prog 62).map (·.size) = some 3 := by kernel_rfl
theorem mu : cd prog 62 = some [(iQ 0), (iQ 0), (iQ 0)].toArray := by kernel_rfl
theorem jg : bd prog 62 0 = some 0 := by kernel_rfl
theorem oI : bd prog 62 1 = some 1 := by kernel_rfl
theorem oH : bd prog 62 2 = some 2 := by kernel_rfl
theorem bj : kV prog 64 3 = true := by kernel_rfl
theorem mN : cd prog 64 = some [(nQ), (nQ), (.bool false)].toArray := by kernel_rfl
theorem FR : bd prog 64 0 = some 0 := by kernel_rfl
theorem FQ : bd prog 64 1 = some 1 := by kernel_rfl
theorem FP : bd prog 64 2 = some 2 := by kernel_rfl
theorem rB : (prog.info? 66).map (·.size) = some 2 := by kernel_rfl
theorem Mw : (prog.info? 66).map (·.bytes) = some 48 := by kernel_rfl
theorem oB : kV prog 66 2 = true := by kernel_rfl
theorem Cq : (cd prog 66).map (·.size) = some 2 := by kernel_rfl
theorem Ec : cd prog 66 = some [(nQ), (nQ)].toArray := by kernel_rfl
theorem Hm : bd prog 66 0 = some 0 := by kernel_rfl
theorem yo : bd prog 66 1 = some 1 := by kernel_rfl
theorem jR : (prog.info? 69).map (·.size) = some 4 := by kernel_rfl
theorem wZ : (prog.info? 69).map (·.bytes) = some 32 := by kernel_rfl
theorem yj : kV prog 69 4 = true := by kernel_rfl
theorem ld : (cd prog 69).map (·.size) = some 4 := by kernel_rfl
theorem M1 : cd prog 69 = some [(iQ 0), (iQ 0), (iQ 0), (iQ 0)].toArray := by kernel_rfl
theorem Hl : bd prog 69 1 = some 1 := by kernel_rfl
theorem aG : prog.underlying 73 = some (.slice 114) := by kernel_rfl
theorem gw : (prog.info? 73).map (·.size) = some 1 := by kernel_rfl
theorem ao : lE prog 73 = true := by kernel_rfl
theorem qw : (cd prog 73).map (·.size) = some 1 := by kernel_rfl
theorem oy : cd prog 73 = some [(nQ)].toArray := by kernel_rfl
theorem ad : kV prog 75 5 = true := by kernel_rfl
theorem bf : cd prog 75 = some [(iQ 0), (iQ 0), (nQ), (nQ), (iQ 0)].toArray := by kernel_rfl
theorem Hq : bd prog 75 0 = some 0 := by kernel_rfl
theorem Hp : bd prog 75 1 = some 1 := by kernel_rfl
theorem dE : bd prog 75 2 = some 2 := by kernel_rfl
theorem Ho : bd prog 75 3 = some 3 := by kernel_rfl
theorem Hn : bd prog 75 4 = some 4 := by kernel_rfl
theorem xA : prog.underlying 81 = some (.slice 4) := by kernel_rfl
theorem vQ : lE prog 81 = true := by kernel_rfl
theorem eX : lE prog 82 = true := by kernel_rfl
theorem qT : prog.underlying 83 = some (.array 5 3) := by kernel_rfl
theorem Lr : kV prog 83 5 = true := by kernel_rfl
theorem kJ : prog.underlying 84 = some (.slice 227) := by kernel_rfl
theorem eU : lE prog 84 = true := by kernel_rfl
theorem FN : bd prog 86 0 = some 0 := by kernel_rfl
theorem FM : bd prog 86 1 = some 1 := by kernel_rfl
theorem FL : bd prog 86 2 = some 2 := by kernel_rfl
theorem FK : bd prog 86 3 = some 3 := by kernel_rfl
theorem FJ : bd prog 86 4 = some 4 := by kernel_rfl
theorem FI : bd prog 86 5 = some 9 := by kernel_rfl
theorem FH : bd prog 86 6 = some 10 := by kernel_rfl
theorem aY : (prog.info? 114).map (·.size) = some 4 := by kernel_rfl
theorem I7 : ((prog.info? 114).map (·.size)).isSome = true := by kernel_rfl
theorem C0 : (prog.info? 114).map (·.bytes) = some 64 := by kernel_rfl
theorem aI : kV prog 114 4 = true := by kernel_rfl
theorem mM : (cd prog 114).map (·.size) = some 4 := by kernel_rfl
theorem fV : cd prog 114 = some [(nQ), (nQ), (iQ 0), (iQ 0)].toArray := by kernel_rfl
theorem cE : bd prog 114 0 = some 0 := by kernel_rfl
theorem yp : bd prog 114 1 = some 1 := by kernel_rfl
theorem gm : bd prog 114 2 = some 2 := by kernel_rfl
theorem Hr : bd prog 114 3 = some 3 := by kernel_rfl
theorem Dq : bd prog 116 0 = some 0 := by kernel_rfl
theorem Dp : bd prog 116 1 = some 1 := by kernel_rfl
theorem Dn : bd prog 116 2 = some 4 := by kernel_rfl
theorem iW : prog.underlying 127 = some (.map 3 3) := by kernel_rfl
theorem yi : lE prog 127 = true := by kernel_rfl
theorem Aw : bd prog 129 0 = some 0 := by kernel_rfl
theorem Av : bd prog 129 1 = some 1 := by kernel_rfl
theorem Au : bd prog 129 2 = some 2 := by kernel_rfl
theorem qG : lE prog 133 = true := by kernel_rfl
theorem JV : bd prog 148 0 = some 0 := by kernel_rfl
theorem JU : bd prog 148 1 = some 1 := by kernel_rfl
theorem nR : prog.underlying 168 = some (.slice 212) := by kernel_rfl
theorem g8 : lE prog 168 = true := by kernel_rfl
theorem tJ : (prog.info? 170).map (·.size) = some 2 := by kernel_rfl
theorem GY : ((prog.info? 170).map (·.size)).isSome = true := by kernel_rfl
theorem J' : (prog.info? 170).map (·.bytes) = some 32 := by kernel_rfl
theorem nv : kV prog 170 2 = true := by kernel_rfl
theorem zI : (cd prog 170).map (·.size) = some 2 := by kernel_rfl
theorem Ky : cd prog 170 = some [(iQ 0), (nQ)].toArray := by kernel_rfl
theorem FG : bd prog 170 0 = some 0 := by kernel_rfl
theorem FF : bd prog 170 1 = some 1 := by kernel_rfl
theorem fW : lE prog 185 = true := by kernel_rfl
theorem Hk : bd prog 196 0 = some 0 := by kernel_rfl
theorem Hj : bd prog 196 1 = some 5 := by kernel_rfl
theorem Hi : bd prog 196 2 = some 6 := by kernel_rfl
theorem tI : (prog.info? 212).map (·.size) = some 7 := by kernel_rfl
theorem J9 : (prog.info? 212).map (·.bytes) = some 88 := by kernel_rfl
theorem vT : kV prog 212 7 = true := by kernel_rfl
theorem zH : (cd prog 212).map (·.size) = some 7 := by kernel_rfl
theorem Kx : cd prog 212 = some [(iQ 0), (iQ 0), (iQ 0), (nQ), (nQ), (iQ 0), (.bool false)].toArray := by kernel_rfl
theorem FE : bd prog 212 0 = some 0 := by kernel_rfl
theorem FD : bd prog 212 1 = some 1 := by kernel_rfl
theorem FC : bd prog 212 2 = some 6 := by kernel_rfl
theorem mW : lE prog 221 = true := by kernel_rfl
theorem Eo : (prog.info? 224).map (·.size) = some 1 := by kernel_rfl
theorem BC : kV prog 224 1 = true := by kernel_rfl
theorem GW : cd prog 224 = some [.nilFunc].toArray := by kernel_rfl
theorem BY : bd prog 224 0 = some 0 := by kernel_rfl
theorem Cj : prog.underlying 225 = some (.array 4 224) := by kernel_rfl
theorem pL : kV prog 225 4 = true := by kernel_rfl
theorem Bf : cd prog 225 = some [.nilFunc, .nilFunc, .nilFunc, .nilFunc].toArray := by kernel_rfl
theorem vF : (prog.info? 227).map (·.size) = some 1 := by kernel_rfl
theorem I6 : ((prog.info? 227).map (·.size)).isSome = true := by kernel_rfl
theorem Mv : (prog.info? 227).map (·.bytes) = some 8 := by kernel_rfl
theorem Cp : (cd prog 227).map (·.size) = some 1 := by kernel_rfl
theorem yn : bd prog 227 0 = some 0 := by kernel_rfl
theorem aW : prog.underlying 228 = some (.slice 232) := by kernel_rfl
theorem mv : (prog.info? 228).map (·.size) = some 1 := by kernel_rfl
theorem dA : lE prog 228 = true := by kernel_rfl
theorem zK : cd prog 228 = some [(nQ)].toArray := by kernel_rfl
theorem Ax : bd prog 230 0 = some 0 := by kernel_rfl
theorem cm : (prog.info? 232).map (·.size) = some 2 := by kernel_rfl
theorem sI : ((prog.info? 232).map (·.size)).isSome = true := by kernel_rfl
theorem gI : (prog.info? 232).map (·.bytes) = some 16 := by kernel_rfl
theorem bC : kV prog 232 2 = true := by kernel_rfl
theorem dh : (cd prog 232).map (·.size) = some 2 := by kernel_rfl
theorem hJ : cd prog 232 = some [(iQ 0), (iQ 0)].toArray := by kernel_rfl
theorem rI : bd prog 232 0 = some 0 := by kernel_rfl
theorem Ay : bd prog 232 1 = some 1 := by kernel_rfl
theorem rU : prog.underlying 234 = some (.int .u64) := by kernel_rfl
theorem gT : lE prog 234 = true := by kernel_rfl
theorem Cr : cd prog 234 = some [(.int .u64 0)].toArray := by kernel_rfl
theorem eF : prog.underlying 247 = some (.slice 73) := by kernel_rfl
theorem lQ : lE prog 253 = true := by kernel_rfl
theorem gB : prog.underlying 254 = some (.slice 228) := by kernel_rfl
theorem DN : aw prog 5 := cK func5
theorem mr : aw prog 7 := cK func7
theorem wT : aw prog 8 := cK func8
theorem jL : aw prog 9 := cK func9
theorem wW : aw prog 12 := cK func12
theorem B9 : aw prog 13 := cK func13
theorem yw : aw prog 15 := cK func15
theorem Gs : aw prog 16 := cK func16
theorem HI : aw prog 17 := cK func17
theorem pY : aw prog 18 := cK func18
theorem wS : aw prog 19 := cK func19
theorem sw : aw prog 23 := cK func23
theorem Gl : aw prog 24 := cK func24
theorem HG : aw prog 25 := cK func25
theorem DO : aw prog 26 := cK func26
theorem su : aw prog 27 := cK func27
theorem cu : aw prog 28 := cK func28
theorem zw : aw prog 34 := cK func34
theorem J7 : aw prog 35 := cK func35
theorem Mt : aw prog 36 := cK func36
theorem wQ : aw prog 37 := cK func37
theorem o9 : aw prog 38 := cK func38
theorem uy : aw prog 39 := cK func39
theorem wO : aw prog 40 := cK func40
theorem AX : aw prog 41 := cK func41
theorem fg : aw prog 42 := cK func42
theorem yz : aw prog 43 := cK func43
theorem ln : aw prog 44 := cK func44
theorem Gt : aw prog 45 := cK func45
theorem zy : aw prog 46 := cK func46
theorem uD : aw prog 47 := cK func47
theorem zx : aw prog 48 := cK func48
theorem fJ : aw prog 52 := cK func52
theorem wU : aw prog 53 := cK func53
theorem lI : aw prog 54 := cK func54
theorem n6 : aw prog 55 := cK func55
theorem HF : aw prog 56 := cK func56
theorem nL : aw prog 57 := cK func57
theorem J8 : aw prog 58 := cK func58
theorem AY : aw prog 59 := cK func59
theorem Gp : aw prog 65 := cK func65
theorem HM : aw prog 66 := cK func66
theorem iz : aw prog 67 := cK func67
theorem Ce : aw prog 68 := cK func68
theorem Cb : aw prog 69 := cK func69
theorem gb : aw prog 70 := cK func70
theorem uA : aw prog 71 := cK func71
theorem rP : aw prog 72 := cK func72
theorem uB : aw prog 73 := cK func73
theorem o7 : aw prog 74 := cK func74
theorem x7 : aw prog 75 := cK func75
theorem pj : aw prog 76 := cK func76
theorem Gk : aw prog 77 := cK func77
theorem yC : aw prog 78 := cK func78
theorem HH : aw prog 79 := cK func79
theorem mo : aw prog 80 := cK func80
theorem o8 : aw prog 81 := cK func81
theorem gH : aw prog 82 := cK func82
theorem tu : aw prog 83 := cK func83
theorem iT : aw prog 84 := cK func84
theorem uW : aw prog 85 := cK func85
theorem fU : aw prog 86 := cK func86
theorem Ca : aw prog 87 := cK func87
theorem tw : aw prog 88 := cK func88
theorem x4 : aw prog 89 := cK func89
theorem x5 : aw prog 90 := cK func90
theorem pX : aw prog 94 := cK func94
theorem cR : aw prog 95 := cK func95
theorem HN : aw prog 96 := cK func96
theorem eT : aw prog 97 := cK func97
theorem pF : aw prog 98 := cK func98
theorem mG : aw prog 99 := cK func99
theorem eo : aw prog 100 := cK func100
theorem nK : aw prog 101 := cK func101
theorem vk : aw prog 102 := cK func102
theorem yy : aw prog 103 := cK func103
theorem DL : aw prog 104 := cK func104
theorem mH : aw prog 105 := cK func105
theorem sy : aw prog 106 := cK func106
theorem ke : aw prog 119 := cK func119
theorem iM : aw prog 120 := cK func120
theorem gg : aw prog 121 := cK func121
theorem nO : aw prog 122 := cK func122
theorem dZ : aw prog 123 := cK func123
theorem Cc : aw prog 124 := cK func124
theorem iU : aw prog 125 := cK func125
theorem lK : aw prog 126 := cK func126
theorem fF : aw prog 127 := cK func127
theorem uV : aw prog 128 := cK func128
theorem mI : aw prog 129 := cK func129
theorem nM : aw prog 130 := cK func130
theorem rQ : aw prog 131 := cK func131
theorem o6 : aw prog 132 := cK func132
theorem fI : aw prog 133 := cK func133
theorem vm : aw prog 134 := cK func134
theorem B8 : aw prog 135 := cK func135
theorem ph : aw prog 136 := cK func136
theorem B6 : aw prog 137 := cK func137
theorem DK : aw prog 138 := cK func138
theorem uC : aw prog 139 := cK func139
theorem zz : aw prog 140 := cK func140
theorem k6 : aw prog 141 := cK func141
theorem uz : aw prog 142 := cK func142
theorem pZ : aw prog 143 := cK func143
theorem l6 : aw prog 144 := cK func144
theorem nN : aw prog 145 := cK func145
theorem jj : aw prog 146 := cK func146
theorem pV : aw prog 147 := cK func147
theorem tk : aw prog 148 := cK func148
theorem pW : aw prog 149 := cK func149
theorem yx : aw prog 151 := cK func151
theorem fE : aw prog 152 := cK func152
theorem HJ : aw prog 153 := cK func153
theorem sr : aw prog 156 := cK func156
theorem n7 : aw prog 157 := cK func157
theorem vp : aw prog 158 := cK func158
theorem wY : aw prog 159 := cK func159
theorem vn : aw prog 160 := cK func160
theorem wX : aw prog 161 := cK func161
theorem wP : aw prog 162 := cK func162
theorem qQ : aw prog 163 := cK func163
theorem x6 : aw prog 164 := cK func164
theorem o5 : aw prog 165 := cK func165
theorem vl : aw prog 166 := cK func166
theorem rO : aw prog 167 := cK func167
theorem jQ : aw prog 168 := cK func168
theorem lJ : aw prog 169 := cK func169
theorem Gm : aw prog 170 := cK func170
theorem wR : aw prog 171 := cK func171
theorem kE : aw prog 172 := cK func172
theorem tr : aw prog 173 := cK func173
theorem Gq : aw prog 174 := cK func174
theorem Gr : aw prog 175 := cK func175
theorem lL : aw prog 179 := cK func179
theorem yA : aw prog 180 := cK func180
theorem yB : aw prog 181 := cK func181
theorem tt : aw prog 182 := cK func182
theorem ux : aw prog 183 := cK func183
theorem tn : aw prog 184 := cK func184
theorem tm : aw prog 185 := cK func185
theorem mS : aw prog 186 := cK func186
theorem kD : aw prog 187 := cK func187
theorem k7 : aw prog 188 := cK func188
theorem HK : aw prog 189 := cK func189
theorem wV : aw prog 190 := cK func190
theorem pG : aw prog 191 := cK func191
theorem l7 : aw prog 192 := cK func192
theorem uE : aw prog 193 := cK func193
theorem lR : aw prog 194 := cK func194
theorem HL : aw prog 195 := cK func195
theorem B7 : aw prog 196 := cK func196
theorem DM : aw prog 198 := cK func198
instance fI5 : FO prog 38 0 0 := ⟨BX⟩
instance fI6 : FO prog 38 1 1 := ⟨BW⟩
instance fI7 : FO prog 38 2 2 := ⟨BV⟩
instance fI8 : FO prog 38 3 3 := ⟨BU⟩
instance fI9 : FO prog 40 0 0 := ⟨DA⟩
instance aeq : FO prog 40 1 1 := ⟨Dz⟩
instance aep : FO prog 40 2 2 := ⟨Dy⟩
instance aeo : FO prog 40 3 3 := ⟨Dx⟩
instance aen : FO prog 40 4 4 := ⟨Dw⟩
instance aem : FO prog 40 5 5 := ⟨Dv⟩
instance ael : FO prog 40 6 6 := ⟨Du⟩
instance aek : FO prog 40 7 7 := ⟨Dt⟩
instance aej : FO prog 57 0 0 := ⟨wx⟩
instance aei : FO prog 57 1 1 := ⟨wv⟩
instance aeh : FO prog 57 2 2 := ⟨wu⟩
instance aeg : FO prog 57 3 3 := ⟨wm⟩
instance aef : FO prog 62 0 0 := ⟨jg⟩
instance aee : FO prog 62 1 1 := ⟨oI⟩
instance aed : FO prog 62 2 2 := ⟨oH⟩
instance aec : FO prog 64 0 0 := ⟨FR⟩
instance aeb : FO prog 64 1 1 := ⟨FQ⟩
instance aea : FO prog 64 2 2 := ⟨FP⟩
instance ad9 : FO prog 66 0 0 := ⟨Hm⟩
instance ad8 : FO prog 66 1 1 := ⟨yo⟩
instance ad7 : FO prog 69 1 1 := ⟨Hl⟩
instance ad6 : FO prog 75 0 0 := ⟨Hq⟩
instance ad5 : FO prog 75 1 1 := ⟨Hp⟩
instance ad4 : FO prog 75 2 2 := ⟨dE⟩
instance ad3 : FO prog 75 3 3 := ⟨Ho⟩
instance ad2 : FO prog 75 4 4 := ⟨Hn⟩
instance ad1 : FO prog 86 0 0 := ⟨FN⟩
instance ad0 : FO prog 86 1 1 := ⟨FM⟩
instance adZ : FO prog 86 2 2 := ⟨FL⟩
instance adY : FO prog 86 3 3 := ⟨FK⟩
instance adX : FO prog 86 4 4 := ⟨FJ⟩
instance adW : FO prog 86 5 9 := ⟨FI⟩
instance adV : FO prog 86 6 10 := ⟨FH⟩
instance adU : FO prog 114 0 0 := ⟨cE⟩
instance adT : FO prog 114 1 1 := ⟨yp⟩
instance adS : FO prog 114 2 2 := ⟨gm⟩
instance adR : FO prog 114 3 3 := ⟨Hr⟩
instance adQ : FO prog 116 0 0 := ⟨Dq⟩
instance adP : FO prog 116 1 1 := ⟨Dp⟩
instance adO : FO prog 116 2 4 := ⟨Dn⟩
instance adN : FO prog 129 0 0 := ⟨Aw⟩
instance adM : FO prog 129 1 1 := ⟨Av⟩
instance adL : FO prog 129 2 2 := ⟨Au⟩
instance adK : FO prog 148 0 0 := ⟨JV⟩
instance adJ : FO prog 148 1 1 := ⟨JU⟩
instance adI : FO prog 170 0 0 := ⟨FG⟩
instance adH : FO prog 170 1 1 := ⟨FF⟩
instance adG : FO prog 196 0 0 := ⟨Hk⟩
instance adF : FO prog 196 1 5 := ⟨Hj⟩
instance adE : FO prog 196 2 6 := ⟨Hi⟩
instance adD : FO prog 212 0 0 := ⟨FE⟩
instance adC : FO prog 212 1 1 := ⟨FD⟩
instance adB : FO prog 212 2 6 := ⟨FC⟩
instance adA : FO prog 224 0 0 := ⟨BY⟩
instance adz : FO prog 227 0 0 := ⟨yn⟩
instance ady : FO prog 230 0 0 := ⟨Ax⟩
instance adx : FO prog 232 0 0 := ⟨rI⟩
instance adw : FO prog 232 1 1 := ⟨Ay⟩
structure Wr (B : Prop) : Prop where
 h : B
theorem z1 {A B : Prop} (h : B) (f : Wr B -> A := by
 intro h
 first | refine aH ?_ | refine zL ?_ | refine Ro rfl ?_ | refine Un rfl rfl ?_ | refine abj rfl rfl ?_ | refine ZT rfl rfl rfl rfl rfl rfl ?_ | refine Z7 rfl rfl ?_ | refine zN rfl rfl rfl rfl ?_ | refine zM rfl rfl rfl rfl ?_ | refine Z8 rfl rfl rfl ?_ | refine C3 rfl rfl ?_ | refine Un rfl rfl ?_ | refine rm ?_ | refine eH ?_ | refine Ur ?_ | refine Xe rfl ?_ | refine Uk rfl rfl rfl rfl rfl ?_ | refine yJ rfl rfl rfl (by omega) ?_ | refine IY rfl rfl rfl (by omega) ?_ | refine Z9 rfl (by kernel_rfl) rfl rfl ?_ | refine Z9 rfl (by kernel_rfl) rfl rfl ?_ | refine ZY rfl (by kernel_rfl) rfl rfl ?_ | refine ZY rfl (by kernel_rfl) rfl rfl ?_ | refine Z0 rfl rfl rfl ?_ | refine Z4 rfl rfl rfl ?_ | refine Z2 rfl rfl rfl ?_ | refine Z5 rfl rfl rfl ?_ | refine Z0 rfl rfl rfl ?_ | refine Z4 rfl rfl rfl ?_ | refine Z2 rfl rfl rfl ?_ | refine Z5 rfl rfl rfl ?_ | refine Z7 rfl rfl ?_ | refine dQ rfl (by kernel_rfl) bL rfl ?_ | refine dQ rfl (by kernel_rfl) bP rfl ?_ | refine dQ rfl (by kernel_rfl) aG rfl ?_ | refine dQ rfl (by kernel_rfl) bL rfl ?_
 exact h.h) : A := f ⟨h⟩
theorem z2 {A B : Prop} (h : B) (f : Wr B -> A := by
 intro h
 iterate 2 refine z1 ?_
 exact h.h) : A := f ⟨h⟩
theorem z3 {A B : Prop} (h : B) (f : Wr B -> A := by
 intro h
 iterate 3 refine z1 ?_
 exact h.h) : A := f ⟨h⟩
theorem z4 {A B : Prop} (h : B) (f : Wr B -> A := by
 intro h
 iterate 4 refine z1 ?_
 exact h.h) : A := f ⟨h⟩
theorem z5 {A B : Prop} (h : B) (f : Wr B -> A := by
 intro h
 iterate 5 refine z1 ?_
 exact h.h) : A := f ⟨h⟩
theorem z6 {A B : Prop} (h : B) (f : Wr B -> A := by
 intro h
 iterate 6 refine z1 ?_
 exact h.h) : A := f ⟨h⟩
theorem z7 {A B : Prop} (h : B) (f : Wr B -> A := by
 intro h
 iterate 7 refine z1 ?_
 exact h.h) : A := f ⟨h⟩
theorem z8 {A B : Prop} (h : B) (f : Wr B -> A := by
 intro h
 iterate 8 refine z1 ?_
 exact h.h) : A := f ⟨h⟩
theorem z9 {A B : Prop} (h : B) (f : Wr B -> A := by
 intro h
 iterate 9 refine z1 ?_
 exact h.h) : A := f ⟨h⟩
theorem yb {A B : Prop} (h : B) (f : Wr B -> A := by
 intro h
 iterate 10 refine z1 ?_
 exact h.h) : A := f ⟨h⟩
theorem Oc {A B : Prop} (h : B) (f : Wr B -> A := by
 intro h
 iterate 11 refine z1 ?_
 exact h.h) : A := f ⟨h⟩
theorem KA {A B : Prop} (h : B) (f : Wr B -> A := by
 intro h
 iterate 12 refine z1 ?_
 exact h.h) : A := f ⟨h⟩
theorem Zc {A B : Prop} (h : B) (f : Wr B -> A := by
 intro h
 iterate 13 refine z1 ?_
 exact h.h) : A := f ⟨h⟩
theorem W9 {A B : Prop} (h : B) (f : Wr B -> A := by
 intro h
 iterate 14 refine z1 ?_
 exact h.h) : A := f ⟨h⟩
theorem z15 {A B : Prop} (h : B) (f : Wr B -> A := by
 intro h
 iterate 15 refine z1 ?_
 exact h.h) : A := f ⟨h⟩
theorem z16 {A B : Prop} (h : B) (f : Wr B -> A := by
 intro h
 iterate 16 refine z1 ?_
 exact h.h) : A := f ⟨h⟩
theorem z17 {A B : Prop} (h : B) (f : Wr B -> A := by
 intro h
 iterate 17 refine z1 ?_
 exact h.h) : A := f ⟨h⟩
theorem z18 {A B : Prop} (h : B) (f : Wr B -> A := by
 intro h
 iterate 18 refine z1 ?_
 exact h.h) : A := f ⟨h⟩
theorem z19 {A B : Prop} (h : B) (f : Wr B -> A := by
 intro h
 iterate 19 refine z1 ?_
 exact h.h) : A := f ⟨h⟩
theorem z20 {A B : Prop} (h : B) (f : Wr B -> A := by
 intro h
 iterate 20 refine z1 ?_
 exact h.h) : A := f ⟨h⟩
theorem z21 {A B : Prop} (h : B) (f : Wr B -> A := by
 intro h
 iterate 21 refine z1 ?_
 exact h.h) : A := f ⟨h⟩
theorem z22 {A B : Prop} (h : B) (f : Wr B -> A := by
 intro h
 iterate 22 refine z1 ?_
 exact h.h) : A := f ⟨h⟩
theorem z23 {A B : Prop} (h : B) (f : Wr B -> A := by
 intro h
 iterate 23 refine z1 ?_
 exact h.h) : A := f ⟨h⟩
theorem z24 {A B : Prop} (h : B) (f : Wr B -> A := by
 intro h
 iterate 24 refine z1 ?_
 exact h.h) : A := f ⟨h⟩
theorem dC {p : Prop} (h : p := by first | exact (decide_eq_false (by omega)).symm | exact (decide_eq_true (by omega)).symm | exact cZ.2 (by omega)) : p := h
def bv (b : UInt8) : Value := .int .u8 b.toNat
def dV (l : List UInt8) : List Value := l.map bv
theorem ox (l : List UInt8) : (dV l).length = l.length := by simp [dV]
theorem uG (l m : List UInt8) : dV (l ++ m) = dV l ++ dV m := by simp [dV]
theorem Mu (l : List UInt8) (k : Nat) : dV (l.take k) = (dV l).take k := by simp [dV, K5]
theorem TI (l : List UInt8) (k : Nat) : dV (l.drop k) = (dV l).drop k := by simp [dV, K4]
theorem V4 {l : List UInt8} {k : Nat} (h : k < l.length) : (dV l)[k]? = some (bv (l.getD k 0)) := by simp [dV, h]
theorem sS (l : List UInt8) : jN (dV l) := fun u hu => by obtain ⟨b, _, rfl⟩ := dd.1 hu; rfl
def kL (v : Value) (l : List UInt8) (w : World) : Prop := ((∃ a, v = .slice a 0 0) /\ l = []) \/ ∃ b o cap, v = .slice (some ⟨b, o, none⟩) l.length cap /\ l.length <= cap /\ Rd w ⟨b, o, none⟩ (dV l)
theorem kL.cell {w : World} {b o : Nat} {l : List UInt8} (h : Rd w ⟨b, o, none⟩ (dV l)) {i : Int} (h0 : 0 <= i /\ i < l.length) : w.cell? ⟨b, o + i.toNat, none⟩ = some (bv (l.getD i.toNat 0)) := by
 have := h i.toNat _ (V4 oM); rwa [iV] at this
theorem Rd.nP {G : Gh} {L R : List az} {w : World} {b T : Nat} {l : List Value} (hw : ar G L w) (p : dg (ag b l T) L R) : Rd w ⟨b, 0, none⟩ l := by have := Rd.gN (o := 0) hw p; simpa using this
theorem kL.row {T : Nat} {v : Value} {l : List UInt8} : aX [row T 1 v l.length (dV l)] (kL v l) := fun g w hw => by
 obtain ⟨hl, h | ⟨b, cap, cur, rfl, h1, h2, h3, h4⟩⟩ := oR hw
 ·obtain ⟨rfl, _, h5, _⟩ := h;refine .inl ⟨⟨none, rfl⟩, ?_⟩;cases l with
  | nil => rfl
  | cons _ _ => simp [dV] at h5
 refine .inr ⟨b, 0, cap, rfl, h1, ?_⟩;have := (Rd.nP h4 .here).take (dV l).length
 simpa using this
section
variable {G : Gh} {L : List az} {w : World} {v v' : Value} {l l' : List UInt8}
theorem kL.at {b o n cap : Nat} {w : World} (h : kL (.slice (some ⟨b, o, none⟩) n cap) l w) {i : Int} (h0 : 0 <= i /\ i < l.length) : w.cell? ⟨b, o + i.toNat, none⟩ = some (bv (l.getD i.toNat 0)) := by
 rcases h with ⟨_, rfl⟩ | ⟨b', o', cap', h, hR⟩
 ·simp at h0; omega
 cases h; exact kL.cell hR.2 h0
theorem kL.form {w : World} (h : kL v l w) : ∃ a cap, v = .slice a l.length cap := by
 rcases h with ⟨⟨a, rfl⟩, rfl⟩ | ⟨b, o, cap, rfl, _⟩
 ·exact ⟨a, 0, rfl⟩
 exact ⟨_, cap, rfl⟩
def bU : List UInt8 -> List UInt8 -> Int
 | [], [] => 0
 | [], _ :: _ => -1
 | _ :: _, [] => 1
 | a :: x, b :: y => if a.toNat < b.toNat then -1 else if b.toNat < a.toNat then 1 else bU x y
theorem AU : ∀ {l l' : List UInt8}, bU l l' = 0 ↔ l = l'
 | [], [] => by simp [bU]
 | [], _ :: _ => by simp [bU]
 | _ :: _, [] => by simp [bU]
 | a :: x, b :: y => by
  simp only [bU, List.cons.injEq]
  by_cases h : a.toNat < b.toNat
  ·have : a ≠ b := fun e => by subst e; omega
   simp [h, this]
  by_cases h2 : b.toNat < a.toNat
  ·have : a ≠ b := fun e => by subst e; omega
   simp [h, h2, this]
  have : a = b := UInt8.toNat_inj.1 oM;simp [h, h2, this, AU]
def tF (v : Value) (cs : List Value) (w : World) : Prop := ((∃ a, v = .slice a 0 0) /\ cs = []) \/ ∃ b o cap, v = .slice (some ⟨b, o, none⟩) cs.length cap /\ cs.length <= cap /\ Rd w ⟨b, o, none⟩ cs
theorem tF.form {cs : List Value} {w : World} (h : tF v cs w) : ∃ a cap, v = .slice a cs.length cap := by
 rcases h with ⟨⟨a, rfl⟩, rfl⟩ | ⟨b, o, cap, rfl, _⟩
 ·exact ⟨a, 0, rfl⟩
 exact ⟨_, cap, rfl⟩
theorem tF.nn {cs : List Value} {a : Option Addr} {n cap : Nat} {w : World} (h : tF (.slice a n cap) cs w) (hn : 0 < cs.length) : ∃ b o, a = some ⟨b, o, none⟩ := by
 rcases h with ⟨h, rfl⟩ | ⟨b, o, cap', h, _⟩
 ·simp at hn
 cases h; exact ⟨b, o, rfl⟩
theorem tF.at {cs : List Value} {b o n cap : Nat} {w : World} (h : tF (.slice (some ⟨b, o, none⟩) n cap) cs w) {i : Int} {u : Value} (hu : cs[i.toNat]? = some u) : w.cell? ⟨b, o + i.toNat, none⟩ = some u := by
 rcases h with ⟨_, rfl⟩ | ⟨b', o', cap', h, _, hR⟩
 ·simp at hu
 cases h; have := hR i.toNat u hu; rwa [iV] at this
theorem tF.row {T : Nat} {v : Value} {cs : List Value} : aX [row T 1 v cs.length cs] (tF v cs) := fun g w hw => by
 obtain ⟨hl, h | ⟨b, cap, cur, rfl, h1, h2, h3, h4⟩⟩ := oR hw
 ·obtain ⟨rfl, _, h5, _⟩ := h; exact .inl ⟨⟨none, rfl⟩, h5⟩
 refine .inr ⟨b, 0, cap, rfl, h1, ?_⟩;have := (Rd.nP h4 .here).take cs.length
 simpa using this
end
abbrev bN := List UInt8
theorem vH {L R : List az} {T n : Nat} {v : Value} {l : bN} (hn : l.length = n) (q : dg (row T 1 v n (dV l)) L R) : aX L (kL v l) := by
 subst hn; exact (kL.row.head _).pick q
theorem Ox {T n : Nat} {v : Value} {cs : List Value} (h : cs.length = n) : aX [row T 1 v n cs] (tF v cs) := by subst h; exact tF.row
theorem Wm {L R : List az} {T n : Nat} {v : Value} {cs : List Value} (hn : cs.length = n) (q : dg (row T 1 v n cs) L R) : aX L (tF v cs) := ((Ox hn).head _).pick q
theorem ij {G : Gh} {L : List az} {w : World} {T : TypeId} {z m c : Nat} {A : Option Addr} {xs : List Value} (hw : ar G (row T z (.slice A m c) m xs :: L) w) (hm : 0 < m) : xs.length = m * z ∧
  ∃ b cur, A = some ⟨b, 0, none⟩ /\ m <= c /\ c <= maxLen /\ (xs ++ cur).length = c * z /\ ar G (ag b (xs ++ cur) T :: L) w := by
 obtain ⟨h, CO⟩ := oR hw;refine ⟨h, ?_⟩;rcases CO with ⟨_, h, _⟩ | ⟨b, cap', cur, h, h1, h2, h3, h4⟩
 ·omega
 cases h; exact ⟨b, cur, rfl, h1, h2, h3, h4⟩
theorem qS {M : List az} {p : World -> Prop} (k : aX M p) : aX [aT M] p := fun g w h => k g w (by have := h.cD; rwa [my] at this)
theorem ar.C1 {G : Gh} {R M : List az} {A : az} {w : World} (h : ar G (aT (A :: M) :: R) w) : ar G (A :: aT M :: R) w :=
 (ar.cD h).mono (L := A :: (M ++ R)) fun h ha => jk (fun x hx => (kg M R x).2 hx) ha
theorem ar.lM {G : Gh} {R M : List az} {A : az} {w : World} (h : ar G (aT M :: A :: R) w) : ar G (aT (M ++ [A]) :: R) w := ar.bH (by rw [je]; exact h.cD)
theorem ar.Mz {G : Gh} {R M N : List az} {w : World} (h : ar G (aT M :: aT N :: R) w) : ar G (aT (M ++ N) :: R) w := by
 refine ar.bH ?_;rw [je];have h1 := h.cD;exact h1.mono fun x hx => by
  have key : ∀ (M : List az) (x : sE), all (M ++ aT N :: R) x -> all (M ++ (N ++ R)) x := fun M => by
   induction M with
   | nil => exact fun x hx => (kg N R x).1 hx
   | cons A M ih => exact fun x hx => jk ih hx
  exact key M x hx
def gC (z : Nat) (v : Value) (rs : List (List Value)) (w : World) : Prop :=
 (∃ a, v = .slice a 0 0 /\ (∀ x, a = some x -> x.block = x.block) /\ rs = []) \/ ∃ b o cap, v = .slice (some ⟨b, o, none⟩) rs.length cap /\ rs.length <= cap /\ (∀ r ∈ rs, r.length = z) /\ Rd w ⟨b, o, none⟩ rs.flatten
theorem gC.form {z : Nat} {v : Value} {rs : List (List Value)} {w : World} (h : gC z v rs w) : ∃ a cap, v = .slice a rs.length cap /\ rs.length <= cap /\ ∀ x, a = some x -> x.block = x.block := by
 rcases h with ⟨a, rfl, ha, rfl⟩ | ⟨b, o, cap, rfl, h1, _⟩
 ·exact ⟨a, 0, rfl, eW _, ha⟩
 exact ⟨_, cap, rfl, h1, by rintro _ ⟨⟩; rfl⟩
theorem gC.nn {z : Nat} {a : Option Addr} {m cap : Nat} {rs : List (List Value)} {w : World} (h : gC z (.slice a m cap) rs w) (hn : 0 < rs.length) : ∃ b o, a = some ⟨b, o, none⟩ := by
 rcases h with ⟨_, _, _, rfl⟩ | ⟨b, o, cap', h, _⟩
 ·simp at hn
 cases h; exact ⟨b, o, rfl⟩
theorem zh {z : Nat} : ∀ {rs : List (List Value)} {k : Nat} {r : List Value}, (∀ r ∈ rs, r.length = z) -> rs[k]? = some r -> (rs.flatten.drop (k * z)).take z = r
 | x :: rs, 0, r, h, hx => by
  simp at hx; subst hx;have := h x (fp ..);simp [RY, this]
 | x :: rs, k + 1, r, h, hx => by
  have h1 := h x (fp ..);have ih := zh (rs := rs) (k := k) (fun y hy => h y (gF _ hy)) (by simpa using hx);rw [C9, PO, h1, u0 (by rw [h1, yQ]; omega), jG, show (k + 1) * z - z = k * z by rw [yQ]; omega];exact ih
 | [], k, r, _, hx => by simp at hx
theorem gC.at {z b o m cap : Nat} {rs : List (List Value)} {w : World} (h : gC z (.slice (some ⟨b, o, none⟩) m cap) rs w) {k : Nat} {r : List Value} (hr : rs[k]? = some r) : Rd w ⟨b, o + k * z, none⟩ r := by
 rcases h with ⟨_, _, _, rfl⟩ | ⟨b', o', cap', h, _, hl, hR⟩
 ·simp at hr
 cases h;have h1 := (hR.drop (k * z)).take z
 rwa [zh hl hr] at h1
theorem gC.cell {z b o m cap : Nat} {rs : List (List Value)} {w : World} (h : gC z (.slice (some ⟨b, o, none⟩) m cap) rs w) {k j : Nat} {r : List Value} {u : Value} (hr : rs[k]? = some r) (hu : r[j]? = some u) : w.cell? ⟨b, o + (k : Int).toNat * z + j, none⟩ = some u := by
 have := h.at hr j u hu
 rwa [iV] at this
theorem dk {z : Nat} : ∀ {rs : List (List Value)}, (∀ r ∈ rs, r.length = z) -> rs.flatten.length = rs.length * z
 | [], _ => by simp
 | x :: rs, h => by
  rw [C9, cj, h x (fp ..), dk (fun y hy => h y (gF _ hy)), jO, yQ]; omega
theorem gC.row {T z m : Nat} {v : Value} {rs : List (List Value)} (hm : rs.length = m) (hz : ∀ r ∈ rs, r.length = z) : aX [row T z v m rs.flatten] (gC z v rs) := fun g w hw => by
 obtain ⟨hl, h | ⟨b, cap, cur, rfl, h1, h2, h3, h4⟩⟩ := oR hw
 ·obtain ⟨rfl, h5, _, _⟩ := h;exact .inl ⟨none, rfl, by simp, yS oM⟩
 refine .inr ⟨b, 0, cap, by rw [hm], oM, hz, ?_⟩;have := (Rd.nP h4 .here).take rs.flatten.length
 simpa using this
structure It where
 key : bN
 value : bN
 child : Int
 size : Int
structure bT where
 it : It
 kv : Value
 vv : Value
def bT.cells (x : bT) : List Value := [x.kv, x.vv, iQ x.it.child, iQ x.it.size]
structure Pg where
 kind : Int
 level : Int
 items : List It
 data : bN
 next : Int
structure bm where
 kind : Int
 level : Int
 l : List bT
 s : Value
 d : Value
 data : bN
 next : Int
def bm.cells (p : bm) : List Value := [iQ p.kind, iQ p.level, p.s, p.d, iQ p.next]
def bm.pg (p : bm) : Pg := ⟨p.kind, p.level, p.l.map bT.it, p.data, p.next⟩
def bz (l : bN) : Prop := l.length <= 140737488355328
structure bT.Ok (L : List az) (x : bT) : Prop where
 k : aX L (kL x.kv x.it.key)
 v : aX L (kL x.vv x.it.value)
 sk : bz x.it.key
 sv : bz x.it.value
structure kZ (L : List az) (s : Value) (l : List bT) : Prop where
 sl : aX L (gC 4 s (l.map bT.cells))
 it : ∀ x ∈ l, x.Ok L
 len : l.length <= 2199023255552
structure bm.Ok (L : List az) (p : bm) : Prop where
 its : kZ L p.s p.l
 data : aX L (kL p.d p.data)
 sd : bz p.data
theorem bT.Ok.of {L L' : List az} {x : bT} (h : x.Ok L) (s : Ps L L') : x.Ok L' := ⟨h.k.of s, h.v.of s, h.sk, h.sv⟩
theorem kZ.of {L L' : List az} {s : Value} {l : List bT} (h : kZ L s l) (q : Ps L L') : kZ L' s l := ⟨h.sl.of q, fun x hx => (h.it x hx).of q, h.len⟩
theorem bm.Ok.of {L L' : List az} {p : bm} (h : p.Ok L) (s : Ps L L') : p.Ok L' := ⟨h.its.of s, h.data.of s, h.sd⟩
theorem mB {L : List az} {x : bT} {G : Gh} {w : World} (h : x.Ok L) (hw : ar G L w) : jN x.cells := fun u hu => by
 obtain ⟨a, c, h1⟩ := (h.k.at hw).form;obtain ⟨a', c', h2⟩ := (h.v.at hw).form;simp only [bT.cells, h1, h2, bB, cW, or_false] at hu;rcases hu with rfl | rfl | rfl | rfl <;> rfl
def bn (x : bT) : List az := [row 5 1 x.kv x.it.key.length (dV x.it.key), row 5 1 x.vv x.it.value.length (dV x.it.value)]
def fi (p : bm) : List az := [row 114 4 p.s p.l.length (p.l.map bT.cells).flatten, aT (p.l.flatMap bn), row 5 1 p.d p.data.length (dV p.data)]
def aR (p : bm) : az := aT (fi p)
theorem Ny {x : bT} (h1 : bz x.it.key) (h2 : bz x.it.value) : x.Ok (bn x) := ⟨vH rfl .here, vH rfl (.there .here), h1, h2⟩
theorem aX.lp {A : List az} {M : List az} {p : World -> Prop} (k : aX A p) : ∀ {B C : List az}, M = B ++ (A ++ C) -> aX [aT M] p := fun {B C} h => qS fun g w hw => by
 subst h;have h1 : ar g (A ++ C) w := by
  induction B with
  | nil => exact hw
  | cons X B ih => exact ih hw.tail
 have h3 := (ar.bH (M := A) h1).head.cD;rw [my] at h3;exact k g w h3
theorem vX {l : List bT} (hs : ∀ x ∈ l, bz x.it.key /\ bz x.it.value) {x : bT} (hx : x ∈ l) : x.Ok [aT (l.flatMap bn)] := by
 obtain ⟨B, C, rfl⟩ := PS hx;have h := Ny (x := x) (hs x hx).1 (hs x hx).2;have e : (B ++ x :: C).flatMap bn = B.flatMap bn ++ (bn x ++ C.flatMap bn) := by simp
 exact ⟨h.k.lp e, h.v.lp e, h.sk, h.sv⟩
structure bm.Sm (p : bm) : Prop where
 len : p.l.length <= 2199023255552
 it : ∀ x ∈ p.l, bz x.it.key /\ bz x.it.value
 sd : bz p.data
theorem aB {p : bm} (h : p.Sm) {L R : List az} (hp : dg (aR p) L R) : p.Ok L := by
 have base : p.Ok [aR p] := by
  refine ⟨⟨qS ((gC.row sM (fun r hr => ?_)).head _), fun x hx => ?_, h.len⟩, qS ((vH rfl (.there (.there .here)))), h.sd⟩
  ·obtain ⟨x, -, rfl⟩ := dd.1 hr; rfl
  have h1 := vX h.it hx;exact ⟨qS ((h1.k.head _).pick (.there .here)), qS ((h1.v.head _).pick (.there .here)), h1.sk, h1.sv⟩
 exact ⟨⟨(base.its.sl.head _).pick hp, fun x hx => ⟨((base.its.it x hx).k.head _).pick hp, ((base.its.it x hx).v.head _).pick hp, (base.its.it x hx).sk, (base.its.it x hx).sv⟩, h.len⟩, (base.data.head _).pick hp, h.sd⟩
section
variable {G : Gh} {L R : List az} {w : World}
theorem eG {v : Value} {l : bN} (hw : ar G L w) (ka : aX L (kL v l)) (oW : bz l) :
  Calls prog 100 #[v] w (dv fun r w' => ar G (row 5 1 r l.length (dV l) :: L) w') := by
 unfold bz at oW;obtain ⟨a, cap, rfl⟩ := (ka.at hw).form;refine al (args := [_]) func100 rfl ntmps100 rfl rfl ?_;refine z8 ?_;refine zP rfl bL rfl ?_;refine aH ?_;refine fm rfl (fun h1 => ?_) fun h1 => ?_
 ·
  refine z5 ?_;exact br rfl rfl rfl (by
 rcases ka.at hw with ⟨-, rfl⟩ | ⟨b, o, cap, h, -⟩
 ·exact cf hw _ _
 ·cases h; cases h1)
 obtain ⟨x, rfl⟩ : ∃ x, a = some x := by cases a with | none => cases h1 | some x => exact ⟨x, rfl⟩
 have py : Rd w x (dV l) := by
  rcases ka.at hw with ⟨-, rfl⟩ | ⟨b, o, cap, h, -, hR⟩
  ·exact Rd.nil
  cases h; exact hR
 refine z3 ?_;refine Ef rfl bL dX hw rfl fun w b5 hw => ?_;have hw := jE (z := 1) (m := 0) hw rfl mL;have py : Rd w x (dV l) := by
  rcases (ka.cons (row 5 1 (sQ b5 0 0) 0 [])).at hw with ⟨-, rfl⟩ | ⟨b, o, cap, h, -, hR⟩
  ·exact Rd.nil
  cases h; exact hR
 refine z1 ?_;refine gP (m := 0) (k := l.length) (news := dV l) rfl bL dX pk k8 rfl rfl hw pK py (by rw [ox]; omega) (sS _) mL oM rfl (fun w v7 hw => ?_);refine z3 ?_;exact br rfl rfl rfl (by rw [r8, jG] at hw; exact hw)
end
theorem Ma {z : Nat} {rs : List (List Value)} {k : Nat} {r cur : List Value} (h : ∀ r ∈ rs, r.length = z) (hr : rs[k]? = some r) : ((rs.flatten ++ cur).drop (k * z)).take z = r := by
 have hk : k < rs.length := (nU.1 hr).1;have hl := dk h;have h1 := zh h hr;have h2 : k * z + z <= rs.length * z := by rw [<-Nat.succ_mul]; exact UH _ hk
 rw [List.drop_append_of_le_length oM, List.take_append_of_le_length (by rw [iC]; omega)];exact h1
theorem rJ {z : Nat} : ∀ {rs : List (List Value)} {k j : Nat} {r cur : List Value} (v : Value), (∀ r ∈ rs, r.length = z) -> rs[k]? = some r -> j < z -> (rs.flatten ++ cur).set (k * z + j) v = (rs.set k (r.set j v)).flatten ++ cur
 | x :: rs, 0, j, r, cur, v, h, hr, hj => by
  simp at hr; subst hr;have h1 := h x (fp ..);rw [Nat.zero_mul, r8, C9, je, List.set_append_left _ _ oM];simp
 | x :: rs, k + 1, j, r, cur, v, h, hr, hj => by
  have h1 := h x (fp ..);have ih := rJ (rs := rs) (k := k) (j := j) (cur := cur) v (fun y hy => h y (gF _ hy)) (by simpa using hr) hj;rw [C9, je, K9 _ _ (by rw [h1, yQ]; omega), h1, show (k + 1) * z + j - z = k * z + j by rw [yQ]; omega, ih];simp
 | [], k, j, r, cur, v, _, hr, _ => by simp at hr
theorem kX (m : List bT) : ∀ r ∈ m.map bT.cells, r.length = 4 := fun r hr => by obtain ⟨x, -, rfl⟩ := dd.1 hr; rfl
theorem za {m : List bT} {k : Nat} {x : bT} {cur : List Value} (h : m[k]? = some x) (v : Value) : ((m.map bT.cells).flatten ++ cur).set (0 + (k : Int).toNat * 4 + 0) v = ((m.set k ⟨x.it, v, x.vv⟩).map bT.cells).flatten ++ cur := by
 rw [fQ, r8, rJ (r := x.cells) v (kX m) (by rw [dB, h]; rfl) oM, tS]; rfl
theorem Nx {m : List bT} {k : Nat} {x : bT} {cur : List Value} (h : m[k]? = some x) (v : Value) : ((m.map bT.cells).flatten ++ cur).set (0 + (k : Int).toNat * 4 + 1) v = ((m.set k ⟨x.it, x.kv, v⟩).map bT.cells).flatten ++ cur := by
 rw [fQ, r8, rJ (r := x.cells) v (kX m) (by rw [dB, h]; rfl) oM, tS]; rfl
theorem E8 {m : List bT} {k : Nat} {x : bT} {cur : List Value} (h : m[k]? = some x) (c : Int) : ((m.map bT.cells).flatten ++ cur).set (0 + (k : Int).toNat * 4 + 2) (iQ c) = ((m.set k ⟨⟨x.it.key, x.it.value, c, x.it.size⟩, x.kv, x.vv⟩).map bT.cells).flatten ++ cur := by
 rw [fQ, r8, rJ (r := x.cells) _ (kX m) (by rw [dB, h]; rfl) oM, tS]; rfl
theorem ga (m : List bT) (cur : List Value) : ((m.map bT.cells).flatten ++ cur).length = m.length * 4 + cur.length := by rw [cj, dk (kX m), bA]
theorem BM {k n j : Nat} (hk : k < n) (hj : j < 4) (c : Nat) : Nat.blt (0 + (k : Int).toNat * 4 + j) (n * 4 + c) = true := by rw [Nat.blt_eq, fQ]; omega
theorem kZ.abu {L : List az} {s : Value} {l : List bT} (h : kZ L s l) {G : Gh} {w : World} (hw : ar G L w) : jN (l.map bT.cells).flatten := fun u hu => by
 obtain ⟨r, hr, hu⟩ := List.mem_flatten.1 hu;obtain ⟨x, hx, rfl⟩ := dd.1 hr;exact mB (h.it x hx) hw u hu
section
variable {G : Gh} {L R : List az} {w : World}
theorem mX {v : Value} {l : List bT} (hw : ar G L w) (ka : kZ L v l) :
  Calls prog 99 #[v] w (dv fun r w' => ar G (row 114 4 r l.length (l.map bT.cells).flatten :: L) w') := by
 have T9 := ka.len;obtain ⟨a, cap, rfl, -, -⟩ := (ka.sl.at hw).form;rw [bA] at ka ⊢;refine al (args := [_]) func99 rfl ntmps99 rfl rfl ?_;refine z8 ?_;refine zP rfl aG rfl ?_;refine aH ?_;refine fm rfl (fun h1 => ?_) fun h1 => ?_
 ·
  refine z5 ?_;exact br rfl rfl rfl (by
 rcases ka.sl.at hw with ⟨x, hx, -, h⟩ | ⟨b, o, cap, h, -⟩
 ·have hl : l = [] := by simpa using h
  subst hl;exact cf hw _ _
 ·injection h with h0; subst h0; cases h1)
 obtain ⟨x, rfl⟩ : ∃ x, a = some x := by cases a with | none => cases h1 | some x => exact ⟨x, rfl⟩
 refine z3 ?_;refine Ef rfl aG aY hw rfl fun w b5 hw => ?_;have hw := jE (z := 4) (m := 0) hw rfl mL;have iX := ka.of (L' := row 114 4 (sQ b5 0 0) 0 [] :: L) sF;have py : Rd w x (l.map bT.cells).flatten := by
  rcases iX.sl.at hw with ⟨-, -, -, h⟩ | ⟨b, o, cap, h, -, -, hR⟩
  ·rw [h]; exact Rd.nil
  injection h with h0; cases h0; exact hR
 refine z1 ?_;refine gP (m := 0) (k := l.length) (news := (l.map bT.cells).flatten) rfl aG aY C0 mM rfl rfl hw pK py (by rw [dk (kX l), bA]) (iX.abu hw) mL oM rfl fun w v7 hw => ?_;refine z3 ?_;exact br rfl rfl rfl (by rw [r8, jG] at hw; exact hw)
theorem mi {p : bm} (hw : ar G L w) (hp : p.Ok L) :
  Calls prog 54 #[gQ p.cells] w (dv fun r w' => ∃ p' : bm, r = gQ p'.cells /\ p'.pg = p.pg /\ p'.Sm /\ ar G (aR p' :: L) w') := by
 have T9 := hp.its.len;have iE := hp.its;have acp := hp.data;simp only [bm.cells];refine al (args := [_]) func54 rfl ntmps54 rfl rfl ?_;refine z2 ?_;refine bE rfl rfl rfl hw rfl fun w b1 hw => ?_;refine aN rfl bf hw rfl fun w b2 hw => ?_;refine z2 ?_;refine bu [0, 1, 3, 4, 2, 6, 5, 7, 8, 9] bK kR ?_;replace hw := hw.drawn (w.drawn + 1);refine z1 ?_;refine lD ao hw ?_;refine z1 ?_;refine lD ay hw ?_;refine dL rfl mG rfl (mX (l := p.l) hw (iE.of sF)) (fun w v7 hv q' hq => ?_) fun w v7 hv => ?_
 ·
  have hw := hv;have hq := a9 (l := [4]) kR hq;simp only [bB, cW, or_false] at hq;subst hq;exact aV rfl rfl rfl (aj.bx ay hw pK rfl)
 have hw := hv;refine z1 ?_;refine an rfl eo rfl (eG (l := p.data) hw (acp.of sF) hp.sd) kR fun w v10 hv => ?_;have hw : ar G (row 5 1 v10 p.data.length (dV p.data) :: _) w := hv;obtain ⟨a7, c7, rfl⟩ := aM (hw.pick (A := row 114 4 v7 _ _) pK);obtain ⟨sC, tE, rfl⟩ := aM (hw.pick (A := row 5 1 v10 _ _) pK);refine bS (l' := [_, _, _, _, _]) rfl tV rfl rfl ao rfl hw pK rfl rfl kR fun w hw => ?_;refine z1 ?_;refine bS (l' := [_, _, _, _, _]) rfl tV rfl rfl ay rfl hw pK rfl rfl kR fun w hw => ?_;refine z5 ?_;refine lD ao hw ?_;refine z4 ?_;have hw := ar.bH (M := ([] : List bT).flatMap bn) hw;have hw := hw.b [row 114 4 _ _ _, aT _, row 5 1 _ _ _, ag b1 _ _, ag b2 _ _];refine cO (fun m e w => ∃ (k : Nat) (dn : List bT), k <= p.l.length /\ m = p.l.length - k /\ e = [(1, pQ b1), (2, pQ b2), (14, .slice a7 p.l.length c7), (15, iQ p.l.length), (16, iQ k)] /\ dn.length = k /\ dn.map bT.it = (p.l.take k).map bT.it /\ ar G (row 114 4 (.slice a7 p.l.length c7) p.l.length ((dn ++ p.l.drop k).map bT.cells).flatten :: aT (dn.flatMap bn) :: row 5 1 (.slice sC p.data.length tE) p.data.length (dV p.data) :: ag b1 [iQ p.kind, iQ p.level, .slice a7 p.l.length c7, .slice sC p.data.length tE, iQ p.next] 75 :: ag b2 [iQ 0, iQ 0, nQ, nQ, iQ 0] 75 :: L) w)
  (m := p.l.length) sB
  ⟨0, [], fo _, rfl, rfl, rfl, rfl, hw⟩ ?_
 rintro m e w ⟨k, dn, hk, rfl, rfl, NP, Q7, hw⟩;refine z5 ?_;refine aS rfl (fun h1 => ?_) fun h1 => ?_
 ·
  have nS : k < p.l.length := oM;obtain ⟨x, hx⟩ : ∃ x, p.l[k]? = some x := ⟨_, cV nS⟩;have ot := iE.it x (ed hx);have xO := ot.k;have MO := ot.v;have Vx : p.l.drop k = x :: p.l.drop (k + 1) := by
   rw [PW nS]; congr 1;rw [cV nS] at hx; exact Option.some.inj hx
  obtain ⟨mm, T8⟩ : ∃ mm, mm = dn ++ p.l.drop k := ⟨_, rfl⟩;have hmx : mm[k]? = some x := by rw [T8, Vx, xI oM, NP, Ab]; rfl
  have JQ : mm.length = p.l.length := by rw [T8, cj, iC]; omega
  rw [<-T8] at hw;obtain ⟨ud, b7, cur, rfl, BQ, yl, gJ, hw⟩ := ij hw oM;refine z6 ?_;refine dD rfl aG aY rfl rfl ⟨oM, oM⟩ ?_;refine bt rfl rfl (aj.Kb (cs := x.cells) aI hw pK (by rw [fQ, r8]; exact Ma (kX mm) (by rw [dB, hmx]; rfl)) rfl) ?_;refine aN rfl fV hw rfl fun w b4 hw => ?_;refine z1 ?_;refine aL (cs := x.cells) (l' := x.cells) rfl tV rfl rfl aI rfl (mB (ot.of sF) hw) hw pK sM rfl rfl fun w hw => ?_;simp only [bT.cells] at hw
  refine aH ?_;refine bu [0, 1, 2, 3, 4, 5, 6, 7, 9, 10, 8, 11, 12, 13, 14, 15, 16, 17] bK kR ?_;replace hw := hw.drawn (w.drawn + 1);refine z1 ?_;refine lD ao hw ?_;refine z2 ?_;refine lD ao hw ?_;refine z2 ?_;refine lD ay hw ?_;refine z1 ?_;refine lD ay hw ?_;refine dL rfl eo rfl (eG (l := x.it.key) hw (xO.of sF) ot.sk) (fun w TU hv q' hq => ?_) fun w TU hv => ?_
  ·
   have hw : ar G (row 5 1 TU x.it.key.length (dV x.it.key) :: _) w := hv;have hq := a9 (l := [10, 4, 1]) kR hq;simp only [bB, cW, or_false] at hq;rcases hq with rfl | rfl | rfl
   ·exact aV rfl rfl rfl (aj.bx ay hw pK rfl)
   ·exact aV rfl rfl rfl (aj.bx ao hw pK rfl)
   exact aV rfl rfl rfl (aj.bx ao hw pK rfl)
  have hw : ar G (row 5 1 TU x.it.key.length (dV x.it.key) :: _) w := hv;refine dL rfl eo rfl (eG (l := x.it.value) hw (MO.of sF) ot.sv) (fun w TT hv q' hq => ?_) fun w TT hv => ?_
  ·
   have hw : ar G (row 5 1 TT x.it.value.length (dV x.it.value) :: _) w := hv;have hq := a9 (l := [4, 1]) kR hq;simp only [bB, cW, or_false] at hq;rcases hq with rfl | rfl
   ·exact aV rfl rfl rfl (aj.bx ao hw pK rfl)
   exact aV rfl rfl rfl (aj.bx ao hw pK rfl)
  have hw : ar G (row 5 1 TT x.it.value.length (dV x.it.value) :: _) w := hv;obtain ⟨a29, c29, rfl⟩ := aM (hw.pick (A := row 5 1 TU _ _) pK);obtain ⟨Wb, Y1, rfl⟩ := aM (hw.pick (A := row 5 1 TT _ _) pK);obtain ⟨x1, Ko⟩ : ∃ x1 : bT, x1 = ⟨x.it, .slice a29 x.it.key.length c29, x.vv⟩ := ⟨_, rfl⟩;obtain ⟨x2, SP⟩ : ∃ x2 : bT, x2 = ⟨x.it, .slice a29 x.it.key.length c29, .slice Wb x.it.value.length Y1⟩ := ⟨_, rfl⟩;have Dk : (mm.set k x1)[k]? = some x1 := by rw [List.getElem?_set_self oM]
  have aaV : ((List.map bT.cells mm).flatten ++ cur).length = p.l.length * 4 + cur.length := by rw [ga, JQ]
  have acm : ((List.map bT.cells (mm.set k x1)).flatten ++ cur).length = p.l.length * 4 + cur.length := by rw [ga, qC, JQ]
  refine dD rfl aG aY rfl rfl ⟨oM, oM⟩ ?_;refine cy rfl cE rfl ?_;refine rW (l' := ((mm.set k x1).map bT.cells).flatten ++ cur) rfl tV rfl rfl ay rfl hw pK (by rw [aaV]; exact BM nS oM _) (by rw [Ko]; exact za hmx _) (fun w hw q' hq => ?_) (fun w hw => ?_)
  ·
   have hq := a9 (l := [4]) kR hq;simp only [bB, cW, or_false] at hq;subst hq;exact aV rfl rfl rfl (aj.bx ao hw pK rfl)
  refine dD rfl aG aY rfl rfl ⟨oM, oM⟩ ?_;refine cy rfl yp rfl ?_;refine bS (l' := ((mm.set k x2).map bT.cells).flatten ++ cur) rfl tV rfl rfl ay rfl hw pK (by rw [acm]; exact BM nS oM _) (by rw [SP, Nx Dk, List.set_set, Ko]) kR (fun w hw => ?_);refine z5 ?_;have T7 : mm.set k x2 = (dn ++ [x2]) ++ p.l.drop (k + 1) := by
   rw [T8, Vx, K9 _ _ oM, NP, Ab, UC, je]; rfl
  rw [T7] at hw;have hw := np (z := 4) (m := p.l.length) (hw.pick (A := ag b7 _ _) pK) (by rw [dk (kX _), bA, <-T7, qC, JQ]) BQ yl (by rw [cj, dk (kX _), bA, <-T7, qC, JQ]; rw [aaV] at gJ; exact gJ);have hw := hw.b [aT _, row 5 1 (.slice a29 _ _) _ _, row 5 1 (.slice Wb _ _) _ _];have hw := hw.lM.lM;have hdp : (dn ++ [x2]).flatMap bn = (dn.flatMap bn ++ [row 5 1 (.slice a29 x.it.key.length c29) x.it.key.length (dV x.it.key)]) ++ [row 5 1 (.slice Wb x.it.value.length Y1) x.it.value.length (dV x.it.value)] := by
   rw [Ac, SP]; simp [bn]
  rw [<-hdp] at hw;have hw := (hw.b [ag b4 _ _]).tail;refine ⟨p.l.length - (k + 1), oM, [(1, _), (2, _), (14, _), (15, _), (16, iQ (k + 1 : Nat))], sB, k + 1, dn ++ [x2], oM, rfl, rfl, by simp [NP], ?_, hw.b [row 114 4 _ _ _, aT _, row 5 1 (.slice sC _ _) _ _, ag b1 _ _, ag b2 _ _]⟩;rw [il, Q7, PQ, hx, il, SP]; rfl
 have we : k = p.l.length := oM;subst we;rw [PN, my] at hw;rw [uZ] at Q7
 refine z3 ?_;refine bt rfl rfl (aj.cw ad hw pK sM) ?_;refine aL (cs := [iQ p.kind, iQ p.level, .slice a7 p.l.length c7, .slice sC p.data.length tE, iQ p.next]) (l' := [iQ p.kind, iQ p.level, .slice a7 p.l.length c7, .slice sC p.data.length tE, iQ p.next]) rfl tV rfl rfl ad rfl (by intro u hu; simp at hu; rcases hu with rfl | rfl | rfl | rfl | rfl <;> rfl) hw pK sM rfl rfl (fun w hw => ?_);refine z2 ?_;exact br rfl rfl ⟨_, rfl, (aj.cw ad hw pK sM)⟩ (by
 refine ⟨⟨p.kind, p.level, dn, .slice a7 p.l.length c7, .slice sC p.data.length tE, p.data, p.next⟩, rfl, by simp [bm.pg, Q7], ⟨by simp only; omega, fun y hy => ?_, hp.sd⟩, ?_⟩
 ·have : y.it ∈ p.l.map bT.it := Q7 ▸ pB hy;obtain ⟨z, hz, XK⟩ := dd.1 this;rw [<-XK]; exact ⟨(iE.it z hz).sk, (iE.it z hz).sv⟩
 ·have hw := (hw.b [ag b1 _ _, ag b2 _ _]).tail.tail;refine ar.bH (M := fi _) ?_;simp only [fi, NP];exact hw.b [row 114 4 _ _ _, aT _, row 5 1 _ _ _])
end
section
variable {G : Gh} {L R : List az} {w : World}
theorem iw {v : Value} {l : bN} (hw : ar G L w) (ka : aX L (kL v l)) (oW : bz l) :
  Calls prog 82 #[v] w (dv fun r w' => ar G (row 5 1 r l.length (dV l) :: L) w') := by
 unfold bz at oW;obtain ⟨a, cap, rfl⟩ := (ka.at hw).form;refine al (args := [_]) func82 rfl ntmps82 rfl rfl ?_;refine z8 ?_;refine zP rfl bL rfl ?_;refine aH ?_;refine fm rfl (fun h1 => ?_) fun h1 => ?_
 ·
  refine z5 ?_;exact br rfl rfl rfl (by
 rcases ka.at hw with ⟨-, rfl⟩ | ⟨b, o, cap, h, -⟩
 ·exact cf hw _ _
 ·cases h; cases h1)
 obtain ⟨x, rfl⟩ : ∃ x, a = some x := by cases a with | none => cases h1 | some x => exact ⟨x, rfl⟩
 refine z3 ?_;refine Ef rfl bL dX hw rfl fun w b5 hw => ?_;have hw := jE (z := 1) (m := 0) hw rfl mL;have py : Rd w x (dV l) := by
  rcases (ka.cons (row 5 1 (sQ b5 0 0) 0 [])).at hw with ⟨-, rfl⟩ | ⟨b, o, cap, h, -, hR⟩
  ·exact Rd.nil
  cases h; exact hR
 refine z1 ?_;refine gP (m := 0) (k := l.length) (news := dV l) rfl bL dX pk k8 rfl rfl hw pK py (by rw [ox]; omega) (sS _) mL oM rfl (fun w v7 hw => ?_);refine z3 ?_;exact br rfl rfl rfl (by rw [r8, jG] at hw; exact hw)
end
theorem V6 (l : bN) : (⟨l.toArray⟩ : ByteArray).size = l.length := rfl
theorem Y3 (l : bN) (i : Nat) : (⟨l.toArray⟩ : ByteArray)[i]! = l.getD i 0 := by
 by_cases h : i < l.length
 ·rw [getElem!_pos _ i (show i < (⟨l.toArray⟩ : ByteArray).size from h)]
  show l.toArray[i] = _
  simp [h]
 rw [getElem!_neg _ i (show ¬ i < (⟨l.toArray⟩ : ByteArray).size from h)];simp [Jm (Nat.le_of_not_lt h)];rfl
theorem YZ : ∀ (a b : bN), Extern.BytealgCompare.cmp ⟨a.toArray⟩ ⟨b.toArray⟩ = bU a b := by
 intro a b;unfold Extern.BytealgCompare.cmp;simp only [V6, Y3]
 induction a generalizing b with
 | nil => cases b <;> simp [bU]
 | cons x a ih =>
  cases b with
  | nil => simp [bU]
  | cons y b =>
   have ih := ih b;simp only [jO];rw [show min (a.length + 1) (b.length + 1) = min a.length b.length + 1 by omega, List.range_succ_eq_map, Nd]
   by_cases BN : x = y
   ·subst BN;have e1 : bU (x :: a) (x :: b) = bU a b := by simp [bU]
    rw [e1, <-ih];simp only [R6, bne_self_eq_false, List.find?_map, Function.comp_def, List.getD_cons_succ, Nat.succ_eq_add_one]
    generalize (List.range (min a.length b.length)).find? (fun i => a.getD i 0 != b.getD i 0) = r
    cases r with
    | none => simp
    | some i => simp
   have ly : ((x :: a).getD 0 0 != (y :: b).getD 0 0) = true := by simpa using BN
   simp only [ly, bU];simp only [R6];have hn : x.toNat ≠ y.toNat := fun h => BN (UInt8.toNat_inj.1 h)
   by_cases iD : x < y
   ·rw [ah iD, ah (UInt8.lt_iff_toNat_lt.1 iD)]
   have ab8 : ¬ x.toNat < y.toNat := fun h => iD (UInt8.lt_iff_toNat_lt.2 h)
   rw [ae iD, ae ab8, ah oM]
theorem yg {P : Program} {w : World} : ∀ (l : bN) (b o : Nat) (acc : ByteArray), Rd w ⟨b, o, none⟩ (dV l) -> (Extern.Bytes.loadBytes ⟨b, o, none⟩ l.length acc).run P w = .ok ⟨acc.data ++ l.toArray⟩ w
 | [], b, o, acc, _ => by simp [Extern.Bytes.loadBytes]
 | u :: l, b, o, acc, h => by
  have h0 : w.cell? ⟨b, o, none⟩ = some (bv u) := by have := h 0 (bv u) rfl; rwa [iV] at this
  have h1 : Rd w ⟨b, o + 1, none⟩ (dV l) := by have := h.drop 1; simpa [dV] using this
  have hl : (Go.load ⟨b, o, none⟩).run P w = .ok (bv u) w := by simp [Go.load, Sem.run, h0]
  simp only [jO, Extern.Bytes.loadBytes, Sem.run_bind, hl, Result.andThen_ok, bv];rw [iV, yg l b (o + 1) _ h1];simp [ByteArray.push]
theorem Cx {P : Program} {w : World} {v : Value} {l : bN} (h : kL v l w) : (Extern.Bytes.bytesOf v).run P w = .ok ⟨l.toArray⟩ w := by
 rcases h with ⟨⟨a, rfl⟩, rfl⟩ | ⟨b, o, cap, rfl, -, h⟩
 ·cases a with
  | none => rfl
  | some a => rfl
 simp only [Extern.Bytes.bytesOf];rw [yg l _ _ _ h]
 congr 1
 show (⟨(#[] : Array UInt8) ++ l.toArray⟩ : ByteArray) = _
 rw [UE]
section
variable {P : Program} {n : Nat} {ops : Array Oper} {dr : Bool} {done r : List Nat} {K : gj -> World -> Prop} {e : gj} {w : World} {i d : Nat} {t : TypeId} {p : String} {af : Array Edge} {g : Option (Nat × Bool)}
theorem tG {l l1 l2 : List Nat} (hl : l = l1 ++ l2) {d : Nat} (q : Prop) [Decidable q] (M : World -> Prop) (hf : Fy (DB ops l1) e = true) (h1 : XL P n ops dr done l1 (fun e' w' => M w' /\ get e' d = some (.bool (decide q))) e w)
  (h2 : ∀ w, M w -> XL P n ops dr (l1.reverse ++ done) l2 K ((d, .bool (decide q)) :: e) w) : XL P n ops dr done l K e w := by
 subst hl;intro a ha;have h := h1 a ha;have key : ∀ (a' : Act) (w' : World), (∃ e', dT n e' a' /\ M w' /\ get e' d = some (.bool (decide q))) -> Kp (DB ops l1) a a' -> dT n ((d, .bool (decide q)) :: e) a' /\ M w' := fun a' w' ⟨e', Hh, hw, hg⟩ hk => by
  refine ⟨⟨by rw [j5 (wh hg), hk.defers]; exact ha.defers, hk.size.trans ha.size, ha.small, fun t v hv => ?_⟩, hw⟩;rcases lj hv with ⟨rfl, rfl⟩ | ⟨_, hv⟩
  ·exact Hh.get _ _ hg
  rw [hk.same t (ug hf hv)]; exact ha.get t v hv
 have hS : ∀ i ∈ l1, ∀ o, ops[i]? = some o -> ∀ t, o.dst = some t -> (DB ops l1).contains t = true := fun i hi o ho => AE hi ho
 cases dr
 ·exact Oa l1 l2 a w (D' (fun a' w' hx => by obtain ⟨h3, h4⟩ := key a' w' hx.1 hx.2; exact h2 w' h4 a' h3) _ _ _ (Kj _ _ _ hS h))
 exact Ob l1 l2 done a w (rV (fun a' w' hx => by obtain ⟨h3, h4⟩ := key a' w' hx.1 hx.2; exact h2 w' h4 a' h3) _ _ _ _ (A5 _ _ _ _ hS h))
theorem aac {f : FuncId} {x y : Operand} {ts : Array TypeId} {va vb : Value} {la lb : bN} (ho : ops[i]? = some ⟨some d, .call ⟨.value (.func f), #[x, y], ts⟩, t, p, af, g⟩)
  (h1 : (P.funcs[f]?).map (fun fn => fn.body.isNone) = some true) (h2 : (P.funcs[f]?).bind (fun fn => Extern.find fn) = some Extern.BytealgCompare.compare) (h3 : (P.funcs[f]?).map (fun fn => (Extern.findNext fn).isNone) = some true) (h4 : (P.funcs[f]?).map (fun fn => (fn.name == "runtime.NumGoroutine")) = some false)
  (hx : ev e x = some va) (hy : ev e y = some vb) (ha : kL va la w) (hb : kL vb lb w) (j6 : iI P ops dr done i = [])
  (h : XL P n ops dr (i :: done) r K ((d, iQ (bU la lb)) :: e) w) (hd : Nat.blt d n = true := by exact rfl) (hg : Gd ops e g := by first | trivial | exact ⟨_, rfl, rfl⟩) : XL P n ops dr done (i :: r) K e w := by
 refine iY ho (by simpa [cS] using hd) hg (ρ := rh e) (by
  intro q hZ; simp [Op.operands, Call.operands] at hZ;rcases hZ with rfl | hZ
  ·rfl
  ·exact Da hx hy hZ) rfl (v := iQ (bU la lb)) (w' := w) ?_ (gx j6) h
 cases hf : P.funcs[f]? with
 | none => simp [hf] at h1
 | some fn =>
  have D4 : fn.body.isNone = true := by simpa [hf] using h1
  have NT : Extern.find fn = some Extern.BytealgCompare.compare := by simpa [hf] using h2
  have h3' : Extern.findNext fn = none := by simpa [hf] using h3
  have h4' : (fn.name == "runtime.NumGoroutine") = false := by simpa [hf] using h4
  have hr : (Extern.BytealgCompare.compare #[va, vb]).run P w = .ok (iQ (bU la lb)) w := by
   have e1 : Extern.BytealgCompare.compare #[va, vb] = (do let a <-Extern.Bytes.bytesOf va; let b <-Extern.Bytes.bytesOf vb; pure (goInt (Extern.BytealgCompare.cmp a b))) := rfl;rw [e1];simp only [Sem.run_bind, Cx ha, Cx hb, Result.andThen_ok, Sem.run_pure, YZ, goInt]
  simp only [execOp, resolve, show rh e (.func f) = .func (.func f) #[] #[] from rfl, Deferred.ofValue, invoke, callFunc, Sem.run_bind, Sem.run_pure, Result.andThen_ok, program, Sem.run, hf, D4, NT, h3', h4'];simp [bO hx, bO hy, hr, Sem.run_bind, mark, Sem.run]
end
section
variable {G : Gh} {L R : List az} {w : World}
theorem fb {v v' : Value} {l l' : bN} (hw : ar G L w) (ka : aX L (kL v l)) (kb : aX L (kL v' l')) :
  Calls prog 97 #[v, v'] w (dv fun r w' => r = iQ (bU l l') /\ ar G L w') := by
 refine al (args := [_, _]) func97 rfl ntmps97 rfl rfl ?_;refine z8 ?_;refine aac rfl kR kR kR kR rfl rfl (ka.at hw) (kb.at hw) rfl ?_;refine z3 ?_;exact br rfl rfl rfl ⟨rfl, hw⟩
end
def kW (n : Int) : Prop := 1 <= n /\ n <= 65536
instance (n : Int) : Decidable (kW n) := by unfold kW; infer_instance
def lk (kind level next : Int) (n d : Nat) : Prop :=
 (kind = 1 -> d = 0 /\ next = 0 /\ level = 0 /\ 1 <= n /\ n <= 8) /\ (kind = 2 -> d = 0 /\ next = 0 /\ 1 <= level /\ level < 12 /\ 2 <= n /\ n <= 8) /\ (kind ≠ 1 -> kind ≠ 2 -> level = 0 /\ n = 0 /\ 1 <= d /\ d <= 480)
instance (kind level next : Int) (n d : Nat) : Decidable (lk kind level next n d) := by unfold lk; infer_instance
def fst (a b : Int) : Int := if a = 0 then b else a
theorem mR (a b c : Int) : fst (fst a b) c = fst a (fst b c) := by unfold fst; repeat' split <;> simp_all
theorem L8 (a : Int) : fst a 0 = a := by unfold fst; split <;> simp_all
theorem Eb (a : Int) : fst 0 a = a := rfl
def xL (q : Prop) [Decidable q] (e : Int) : Int := if q then 0 else e
def ub (kind : Int) (i : Nat) (x : It) : Int := if kind = 2 /\ i = 0 then xL (x.key.length = 0) 7 else xL (1 <= x.key.length /\ x.key.length <= 24) 7
def yW (kind : Int) (i : Nat) (dp : bN) (x : It) : Int := if kind = 2 /\ i = 0 then 0 else xL (i = 0 \/ 0 < bU x.key dp) 11
def Bj (kind : Int) (x : It) : Int := if kind = 2 then xL (x.value.length = 0 /\ x.size = 0) 8 else fst (xL (0 <= x.size /\ x.size <= 3840) 8) (if x.size <= 32 then xL ((x.value.length : Int) = x.size) 8 else xL (x.value.length = 0) 8)
def B4 (kind : Int) (x : It) : Int := if kind = 2 then xL (kW x.child) 15 else if x.size <= 32 then xL (x.child = 0) 15 else xL (kW x.child) 15
def uM (kind : Int) (i : Nat) (dp : bN) (x : It) : Int := fst (ub kind i x) (fst (yW kind i dp x) (fst (Bj kind x) (B4 kind x)))
def ir (kind : Int) : Nat -> bN -> List It -> Int
 | _, _, [] => 0
 | i, dp, x :: r => fst (uM kind i dp x) (ir kind (i + 1) x.key r)
def bD (p : Pg) : Int :=
 fst (fst (xL (1 <= p.kind /\ p.kind <= 3) 22) (xL (lk p.kind p.level p.next p.items.length p.data.length) 5))
  (fst (ir p.kind 0 [] p.items) (xL (p.next = 0 \/ kW p.next) 15))
def aA (p : Pg) : List Int :=
 (p.items.filterMap fun x => if p.kind = 2 \/ (p.kind = 1 /\ x.child ≠ 0) then some x.child else none) ++ (if p.kind = 3 /\ p.next ≠ 0 then [p.next] else [])
def rF (dp : bN) (l : List It) : bN := (l.getLast?.map It.key).getD dp
theorem CJ (kind : Int) (x : It) : ∀ (l : List It) (i : Nat) (dp : bN), ir kind i dp (l ++ [x]) = fst (ir kind i dp l) (uM kind (i + l.length) (rF dp l) x)
 | [], i, dp => by simp [ir, rF, L8, Eb]
 | y :: l, i, dp => by
  simp only [j4, ir, CJ kind x l, mR, jO];rw [show i + 1 + l.length = i + (l.length + 1) by omega]
  congr 3
  unfold rF;cases l <;> simp [List.getLast?_cons]
def bG (l : List Int) : List Value := l.map (iQ ·)
theorem cC (l : List Int) : (bG l).length = l.length := by simp [bG]
section
variable {G : Gh} {L R : List az} {w : World}
theorem qO {n : Int} (hw : ar G L w) : Calls prog 98 #[iQ n] w (dv fun r w' => r = .bool (decide (kW n)) /\ ar G L w') := by
 refine al (args := [_]) func98 rfl ntmps98 rfl rfl ?_;refine z9 ?_;refine aE (d := 5) rfl (fun h1 => ?_) fun h1 => ?_
 ·
  refine z6 ?_;exact br rfl rfl rfl ⟨by unfold kW; congr 1; exact cZ.2 oM, hw⟩
 refine z6 ?_;exact br rfl rfl rfl ⟨by unfold kW; congr 1; exact (decide_eq_false oM).symm, hw⟩
theorem J5 {p : bm} (hw : ar G L w) (hp : p.Ok L) :
  Calls prog 96 #[gQ p.cells] w (dv fun r w' => r = .bool (decide (lk p.kind p.level p.next p.l.length p.data.length)) /\ ar G L w') := by
 obtain ⟨a1, c1, h1, -, -⟩ := (hp.its.sl.at hw).form;obtain ⟨a2, c2, h2⟩ := (hp.data.at hw).form;rw [bA] at h1;simp only [bm.cells, h1, h2];clear h1 h2;refine al (args := [_]) func96 rfl ntmps96 rfl rfl ?_;refine z2 ?_;refine bE rfl rfl rfl hw rfl fun w b1 hw => ?_;refine z3 ?_;refine bu [0, 1, 2, 3, 4, 5, 6, 7, 8, 9, 10, 11, 12, 13] bK kR ?_;replace hw := hw.drawn (w.drawn + 1);refine z1 ?_;refine lD ao hw ?_;refine z2 ?_;refine lD ay hw ?_;refine z3 ?_;refine bY (l1 := [8, 9, 10, 11]) (l2 := [12, 13]) rfl (d := 16) ((p.data.length : Int) = 0 /\ p.next = 0) rfl ?_ ?_
 ·
  refine aE (d := 12) rfl (fun h1 => ?_) fun h1 => ?_
  ·
   refine z1 ?_;refine lD ai hw ?_;refine z3 ?_;refine cQ ?_;exact dC
  refine z5 ?_;refine cQ ?_;exact dC
 refine z7 ?_;refine lD ai hw ?_;refine z7 ?_;refine aS rfl (fun h2 => ?_) fun h2 => ?_
 ·
  refine z4 ?_;refine aE (d := 22) rfl (fun h3 => ?_) fun h3 => ?_
  ·
   refine z1 ?_;refine lD ai hw ?_;refine z3 ?_;refine aE (d := 27) rfl (fun h4 => ?_) fun h4 => ?_
   ·
    refine z4 ?_;refine aE (d := 31) rfl (fun h5 => ?_) fun h5 => ?_
    ·
     refine z6 ?_;exact br rfl rfl rfl ⟨congrArg Value.bool (by unfold lk; exact dC), hw.tail⟩
    refine z6 ?_;exact br rfl rfl rfl ⟨congrArg Value.bool (by unfold lk; exact dC), hw.tail⟩
   refine yb ?_;exact br rfl rfl rfl ⟨congrArg Value.bool (by unfold lk; exact dC), hw.tail⟩
  refine z15 ?_;exact br rfl rfl rfl ⟨congrArg Value.bool (by unfold lk; exact dC), hw.tail⟩
 refine z5 ?_;refine aS rfl (fun h6 => ?_) fun h6 => ?_
 ·
  refine z4 ?_;refine aE (d := 38) rfl (fun h7 => ?_) fun h7 => ?_
  ·
   refine z1 ?_;refine lD ai hw ?_;refine z3 ?_;refine aE (d := 43) rfl (fun h8 => ?_) fun h8 => ?_
   ·
    refine z1 ?_;refine lD ai hw ?_;refine z3 ?_;refine aE (d := 48) rfl (fun h9 => ?_) fun h9 => ?_
    ·
     refine z4 ?_;refine aE (d := 52) rfl (fun oG => ?_) fun oG => ?_
     ·
      refine z6 ?_;exact br rfl rfl rfl ⟨congrArg Value.bool (by unfold lk; exact dC), hw.tail⟩
     refine z6 ?_;exact br rfl rfl rfl ⟨congrArg Value.bool (by unfold lk; exact dC), hw.tail⟩
    refine yb ?_;exact br rfl rfl rfl ⟨congrArg Value.bool (by unfold lk; exact dC), hw.tail⟩
   refine z15 ?_;exact br rfl rfl rfl ⟨congrArg Value.bool (by unfold lk; exact dC), hw.tail⟩
  refine z20 ?_;exact br rfl rfl rfl ⟨congrArg Value.bool (by unfold lk; exact dC), hw.tail⟩
 refine z4 ?_;refine lD ai hw ?_;refine z2 ?_;refine aE (d := 59) rfl (fun Q9 => ?_) fun Q9 => ?_
 ·
  refine z4 ?_;refine aE (d := 63) rfl (fun Pb => ?_) fun Pb => ?_
  ·
   refine z1 ?_;refine lD ay hw ?_;refine z4 ?_;refine aE (d := 69) rfl (fun WW => ?_) fun WW => ?_
   ·
    refine z1 ?_;refine lD ay hw ?_;refine z6 ?_;exact br rfl rfl rfl ⟨congrArg Value.bool (by unfold lk; exact dC), hw.tail⟩
   refine z8 ?_;exact br rfl rfl rfl ⟨congrArg Value.bool (by unfold lk; exact dC), hw.tail⟩
  refine W9 ?_;exact br rfl rfl rfl ⟨congrArg Value.bool (by unfold lk; exact dC), hw.tail⟩
 refine z18 ?_;exact br rfl rfl rfl ⟨congrArg Value.bool (by unfold lk; exact dC), hw.tail⟩
theorem di {q : Prop} [Decidable q] {er fe : Int} {b : Nat} (hw : ar G (ag b [iQ fe] 41 :: L) w) :
  Calls prog 95 #[.bool (decide q), iQ er, pQ b] w (dv fun r w' => r = .tuple #[] /\ ar G (ag b [iQ (fst fe (xL q er))] 41 :: L) w') := by
 refine al (args := [_, _, _]) func95 rfl ntmps95 rfl rfl ?_;refine z3 ?_;refine jX rfl rfl ?_;refine z1 ?_;refine bY (l1 := [3, 4, 5]) (l2 := []) rfl (d := 10) (¬ q /\ fe = 0) rfl ?_ ?_
 ·
  refine aE (d := 7) rfl (fun h1 => ?_) fun h1 => ?_
  ·
   refine lD aD hw ?_;refine z3 ?_;refine cQ ?_
   first | (exact (decide_eq_false (fun h => h2 h.2)).symm) | (exact cZ.2 ⟨fun h => ⟨h1, h⟩, fun h => h.2⟩) | (exact (decide_eq_false (fun h => h1 h.1)).symm)
  refine z4 ?_;refine cQ ?_
  first | (exact (decide_eq_false (fun h => h2 h.2)).symm) | (exact cZ.2 ⟨fun h => ⟨h1, h⟩, fun h => h.2⟩) | (exact (decide_eq_false (fun h => h1 h.1)).symm)
 refine aH ?_;refine aS rfl (fun h2 => ?_) fun h2 => ?_
 ·
  refine z2 ?_;refine bS rfl tV rfl rfl aD rfl hw pK rfl rfl rfl fun w hw => ?_;refine aH ?_;exact j7 rfl rfl ⟨rfl, by unfold fst xL; rw [ah h2.2, ae h2.1]; exact hw⟩
 refine eH ?_;exact j7 rfl rfl ⟨rfl, by
 have e1 : fst fe (xL q er) = fe := by
  unfold fst xL
  by_cases hf : fe = 0
  ·rw [ah hf, ah (cJ.1 fun hq => h2 ⟨hq, hf⟩), hf]
  ·rw [ae hf]
 rw [e1]; exact hw⟩
end
theorem JA (dp : bN) (l : List It) (x : It) : rF dp (l ++ [x]) = x.key := by simp [rF]
theorem qn {q q' : Prop} [Decidable q] [Decidable q'] {e : Int} (h : q ↔ q') : xL q e = xL q' e := by unfold xL; exact ite_congr (propext h) (fun _ => rfl) (fun _ => rfl)
theorem xj {l : bN} {e : Int} : xL ((l.length : Int) = 0) e = xL (l.length = 0) e := qn oM
theorem sT {l : bN} {n e : Int} : xL ((l.length : Int) = 0 /\ n = 0) e = xL (l.length = 0 /\ n = 0) e := qn oM
theorem IJ (p : bm) : bD p.pg = fst (fst (xL (1 <= p.kind /\ p.kind <= 3) 22) (xL (lk p.kind p.level p.next p.l.length p.data.length) 5)) (fst (ir p.kind 0 [] (p.l.map bT.it)) (xL (p.next = 0 \/ kW p.next) 15)) := by
 unfold bD;refine congr (congrArg fst (congrArg (fst _) (qn ?_))) rfl;simp only [bm.pg, bA]
theorem YU (a b : Int) (h : a ≠ 0) : fst a b = a := by simp [fst, h]
section
variable {G : Gh} {L R : List az} {w : World}
theorem yu {p : bm} (hw : ar G L w) (hp : p.Ok L) :
  Calls prog 53 #[gQ p.cells] w (dv fun r w' => r = iQ (bD p.pg) /\ ar G L w') := by
 obtain ⟨a1, c1, h1, -, -⟩ := (hp.its.sl.at hw).form;obtain ⟨a2, c2, h2⟩ := (hp.data.at hw).form;have T9 := hp.its.len;have iE := hp.its;have kO := hp.its.sl;rw [bA] at h1;rw [h1] at kO
 have gJ : p.cells = [iQ p.kind, iQ p.level, .slice a1 p.l.length c1, .slice a2 p.data.length c2, iQ p.next] := by simp only [bm.cells, h1, h2]
 have adu : #[iQ p.kind, iQ p.level, .slice a1 p.l.length c1, .slice a2 p.data.length c2, iQ p.next] = p.cells.toArray := by rw [gJ]
 rw [gJ];refine al (args := [_]) func53 rfl ntmps53 rfl rfl ?_;refine z2 ?_;refine bE rfl rfl rfl hw rfl fun w b1 hw => ?_;refine z4 ?_;refine aN rfl rk hw rfl fun w b3 hw => ?_;refine bS (l' := [iQ 0]) rfl tV rfl rfl aD rfl hw pK rfl rfl rfl fun w hw => ?_;refine z3 ?_;refine mO (v1 := #[]) (v2 := #[pQ b3]) rfl (by intro z hz; simp at hz; subst hz; exact ⟨_, rfl⟩) sM (by simp only [oS, cG, j3]; rfl) ?_;refine z6 ?_;refine lD ai hw ?_;refine z2 ?_;refine bY (l1 := [5, 6, 7, 8]) (l2 := [9]) rfl (d := 18) (1 <= p.kind /\ p.kind <= 3) rfl ?_ ?_
 ·
  refine aE (d := 14) rfl (fun h1 => ?_) fun h1 => ?_
  ·
   refine z1 ?_;refine lD ai hw ?_;refine z3 ?_;refine cQ ?_;exact dC
  refine z5 ?_;refine cQ ?_;exact dC
 refine iN rfl rfl cR rfl rfl (di (q := 1 <= p.kind /\ p.kind <= 3) (er := 22) (fe := 0) (hw.pick (A := ag b3 _ _) pK)) rfl fun w RD hv => ?_;obtain ⟨-, hw⟩ := hv;rw [Eb] at hw;refine z4 ?_;refine bt rfl rfl (aj.cw ad hw pK sM) ?_;refine an rfl HN rfl (by have h := J5 (p := p) hw (hp.of sF); rw [gJ] at h; exact h) rfl (fun w Xk hv => ?_);obtain ⟨rfl, hw⟩ := hv;refine iN rfl rfl cR rfl rfl (di (q := lk p.kind p.level p.next p.l.length p.data.length) (er := 5) (hw.pick (A := ag b3 _ _) pK)) rfl fun w v23 hv => ?_;obtain ⟨-, hw⟩ := hv;refine z4 ?_;refine lD aD hw ?_;refine z2 ?_;refine aS rfl (fun h2 => ?_) fun h2 => ?_
 ·
  refine z2 ?_;refine lD aD hw ?_;refine z3 ?_;exact br rfl rfl rfl ⟨by rw [IJ, YU _ (fst (ir _ _ _ _) _) h2], hw.tail.tail⟩
 refine z9 ?_;refine lD ao hw ?_;refine z4 ?_;have hF := cJ.1 h2;rw [hF] at hw;refine cO (fun m e w => ∃ (k : Nat) (av : Value), k <= p.l.length /\ m = p.l.length - k /\ e = [(1, pQ b1), (3, pQ b3), (4, .func (.func 95) #[] #[pQ b3]), (5, av), (28, .slice a1 p.l.length c1), (29, iQ p.l.length), (30, iQ k)] /\ aX L (kL av (rF [] ((p.l.map bT.it).take k))) /\ ar G (ag b3 [iQ (ir p.kind 0 [] ((p.l.map bT.it).take k))] 41 :: ag b1 [iQ p.kind, iQ p.level, .slice a1 p.l.length c1, .slice a2 p.data.length c2, iQ p.next] 75 :: L) w)
  (m := p.l.length) sB
  ⟨0, _, fo _, rfl, rfl, fun _ _ _ => .inl ⟨⟨none, rfl⟩, rfl⟩, hw⟩ ?_
 rintro m e w ⟨k, av, hk, rfl, rfl, CS, hw⟩;refine z5 ?_;refine aS rfl (fun h3 => ?_) fun h3 => ?_
 ·
  have nS : k < p.l.length := oM;obtain ⟨x, hx⟩ : ∃ x, p.l[k]? = some x := ⟨_, cV nS⟩;have ot := iE.it x (ed hx);have xO := ot.k;have vu : (p.l.map bT.cells)[k]? = some x.cells := by rw [dB, hx]; rfl
  obtain ⟨ak, ck, Qs⟩ := (ot.k.at hw.tail.tail).form;obtain ⟨av2, cv2, hvv⟩ := (ot.v.at hw.tail.tail).form;have Vh : x.cells = [.slice ak x.it.key.length ck, .slice av2 x.it.value.length cv2, iQ x.it.child, iQ x.it.size] := by simp only [bT.cells, Qs, hvv]
  rw [Qs] at xO;obtain ⟨aav, cav, hfv⟩ := (CS.at hw.tail.tail).form;obtain ⟨ab, CU⟩ : ∃ ab, ab = rF [] ((p.l.map bT.it).take k) := ⟨_, rfl⟩;obtain ⟨E, hE⟩ : ∃ E, E = ir p.kind 0 [] ((p.l.map bT.it).take k) := ⟨_, rfl⟩;have JT : ir p.kind 0 [] ((p.l.map bT.it).take (k + 1)) = fst E (uM p.kind k ab x.it) := by
   rw [PQ, dB, hx, hE, CU];simp only [RW, Option.toList_some];rw [CJ, fK, bA, r8, Nc oM]
  have hL1 : rF [] ((p.l.map bT.it).take (k + 1)) = x.it.key := by
   rw [PQ, dB, hx];exact JA _ _ _
  rw [<-CU] at CS hfv;rw [<-hE] at hw
  obtain ⟨bb, oo, rfl⟩ := ((kO.of sF).at hw).nn (by rw [bA]; omega);refine z6 ?_;refine dD rfl aG aY rfl rfl ⟨oM, oM⟩ ?_;refine bt rfl rfl (aj.many aI rfl (by rw [fQ]; exact ((kO.of sF).at hw).at vu)) ?_;refine aN rfl fV hw rfl fun w b7 hw => ?_;refine z1 ?_;refine aL (cs := x.cells) (l' := x.cells) rfl tV rfl rfl aI rfl (mB (ot.of sF) hw) hw pK sM rfl rfl fun w hw => ?_;rw [Vh] at hw;refine z4 ?_;refine lD ay hw ?_;refine z3 ?_;refine mZ (fun e w => e = [(1, pQ b1), (3, pQ b3), (4, .func (.func 95) #[] #[pQ b3]), (5, av), (7, pQ b7), (28, .slice (some ⟨bb, oo, none⟩) p.l.length c1), (29, iQ p.l.length), (30, iQ k)] /\ ar G (ag b3 [iQ (fst E (fst (ub p.kind k x.it) (yW p.kind k ab x.it)))] 41 :: ag b7 [.slice ak x.it.key.length ck, .slice av2 x.it.value.length cv2, iQ x.it.child, iQ x.it.size] 114 :: ag b1 [iQ p.kind, iQ p.level, .slice (some ⟨bb, oo, none⟩) p.l.length c1, .slice a2 p.data.length c2, iQ p.next] 75 :: L) w) ?_ ?_
  ·
   refine z3 ?_;refine lD ai hw ?_;refine z2 ?_;refine bY (l1 := [4, 5, 6]) (l2 := []) rfl (d := 44) (p.kind = 2 /\ k = 0) rfl ?_ ?_
   ·
    refine aE (d := 41) rfl (fun h4 => ?_) fun h4 => ?_
    ·
     refine z4 ?_;refine cQ ?_;exact dC
    refine z4 ?_;refine cQ ?_;exact dC
   refine aH ?_;refine aS rfl (fun h5 => ?_) fun h5 => ?_
   ·
    refine z4 ?_;refine iN rfl rfl cR rfl rfl (di (q := (x.it.key.length : Int) = 0) (er := 7) (hw.pick (A := ag b3 _ _) pK)) rfl fun w v48 hv => ?_;obtain ⟨-, hw⟩ := hv;refine aH ?_;have e1 : fst (ub p.kind k x.it) (yW p.kind k ab x.it) = xL ((x.it.key.length : Int) = 0) 7 := by
     unfold ub yW; rw [ah h5, ah h5, L8]; exact qn oM
    rw [e1];exact ⟨[(1, _), (3, _), (4, _), (5, _), (7, _), (28, _), (29, _), (30, _)], sB, rfl, hw.b [ag b3 _ _, ag b7 _ _, ag b1 _ _]⟩
   refine z6 ?_;refine bY (l1 := [4, 5, 6]) (l2 := [7]) rfl (d := 55) (1 <= (x.it.key.length : Int) /\ (x.it.key.length : Int) <= 24) rfl ?_ ?_
   ·
    refine aE (d := 52) rfl (fun h6 => ?_) fun h6 => ?_
    ·
     refine z4 ?_;refine cQ ?_;exact dC
    refine z4 ?_;refine cQ ?_;exact dC
   refine iN rfl rfl cR rfl rfl (di (q := 1 <= (x.it.key.length : Int) /\ (x.it.key.length : Int) <= 24) (er := 7) (hw.pick (A := ag b3 _ _) pK)) rfl fun w v56 hv => ?_;obtain ⟨-, hw⟩ := hv;refine z6 ?_;refine tG (l1 := [4, 5, 6, 7, 8, 9]) (l2 := [10]) rfl (d := 66) (k = 0 \/ 0 < bU x.it.key ab) (fun w => ar G (ag b3 [iQ (fst E (xL (1 <= (x.it.key.length : Int) /\ (x.it.key.length : Int) <= 24) 7))] 41 :: ag b7 [.slice ak x.it.key.length ck, .slice av2 x.it.value.length cv2, iQ x.it.child, iQ x.it.size] 114 :: ag b1 [iQ p.kind, iQ p.level, .slice (some ⟨bb, oo, none⟩) p.l.length c1, .slice a2 p.data.length c2, iQ p.next] 75 :: L) w) rfl ?_ ?_
   ·
    refine aE (d := 60) rfl (fun h7 => ?_) fun h7 => ?_
    ·
     refine z7 ?_;refine ⟨hw, congrArg some (congrArg Value.bool ?_)⟩;exact dC
    refine z1 ?_;refine lD ay hw ?_;refine z1 ?_;refine an rfl eT rfl (fb hw (xO.of sF) (CS.of sF)) rfl fun w v64 hv => ?_;obtain ⟨rfl, hw⟩ := hv;refine z3 ?_;refine ⟨hw, congrArg some (congrArg Value.bool ?_)⟩;exact dC
   clear hw; intro w hw;refine iN rfl rfl cR rfl rfl (di (q := k = 0 \/ 0 < bU x.it.key ab) (er := 11) (hw.pick (A := ag b3 _ _) pK)) rfl fun w v67 hv => ?_;obtain ⟨-, hw⟩ := hv;refine aH ?_;have e1 : fst (ub p.kind k x.it) (yW p.kind k ab x.it) = fst (xL (1 <= (x.it.key.length : Int) /\ (x.it.key.length : Int) <= 24) 7) (xL (k = 0 \/ 0 < bU x.it.key ab) 11) := by
    unfold ub yW; rw [ae h5, ae h5]; exact congr (congrArg fst (qn oM)) (qn oM)
   rw [e1, <-mR];exact ⟨[(1, _), (3, _), (4, _), (5, _), (7, _), (28, _), (29, _), (30, _)], sB, rfl, hw.b [ag b3 _ _, ag b7 _ _, ag b1 _ _]⟩
  clear hw;rintro e w ⟨rfl, hw⟩;refine z3 ?_;refine lD ay hw ?_;refine z6 ?_;refine lD ai hw ?_;refine z2 ?_;refine aS rfl (fun h8 => ?_) fun h8 => ?_
  ·
   refine z4 ?_;refine lD ay hw ?_;refine z3 ?_;refine bY (l1 := [6, 7, 8, 9]) (l2 := [10]) rfl (d := 82) ((x.it.value.length : Int) = 0 /\ x.it.size = 0) rfl ?_ ?_
   ·
    refine aE (d := 78) rfl (fun h9 => ?_) fun h9 => ?_
    ·
     refine z1 ?_;refine lD ai hw ?_;refine z3 ?_;refine cQ ?_;exact dC
    refine z5 ?_;refine cQ ?_;exact dC
   refine iN rfl rfl cR rfl rfl (di (q := (x.it.value.length : Int) = 0 /\ x.it.size = 0) (er := 8) (hw.pick (A := ag b3 _ _) pK)) rfl fun w v83 hv => ?_;obtain ⟨-, hw⟩ := hv;refine z5 ?_;refine lD ai hw ?_;refine an rfl pF rfl (qO hw) rfl fun w v87 hv => ?_;obtain ⟨rfl, hw⟩ := hv;refine iN rfl rfl cR rfl rfl (di (q := kW x.it.child) (er := 15) (hw.pick (A := ag b3 _ _) pK)) rfl fun w v88 hv => ?_;obtain ⟨-, hw⟩ := hv;refine z6 ?_;refine ⟨p.l.length - (k + 1), oM, [(1, _), (3, _), (4, _), (5, _), (28, _), (29, _), (30, iQ (k + 1 : Nat))], sB, k + 1, _, oM, rfl, rfl, by rw [hL1]; exact xO, ?_⟩;rw [JT];simp only [mR, xj, sT] at hw;unfold uM Bj B4;rw [ah h8, ah h8]
   try simp only [mR, xj, sT]
   exact (hw.b [ag b7 _ _, ag b3 _ _, ag b1 _ _]).tail
  refine z5 ?_;refine lD ai hw ?_;refine z2 ?_;refine bY (l1 := [5, 6, 7, 8]) (l2 := [9]) rfl (d := 97) (0 <= x.it.size /\ x.it.size <= 3840) rfl ?_ ?_
  ·
   refine aE (d := 93) rfl (fun oG => ?_) fun oG => ?_
   ·
    refine z1 ?_;refine lD ai hw ?_;refine z3 ?_;refine cQ ?_;exact dC
   refine z5 ?_;refine cQ ?_;exact dC
  refine iN rfl rfl cR rfl rfl (di (q := 0 <= x.it.size /\ x.it.size <= 3840) (er := 8) (hw.pick (A := ag b3 _ _) pK)) rfl fun w v98 hv => ?_;obtain ⟨-, hw⟩ := hv;refine z4 ?_;refine lD ai hw ?_;refine z2 ?_;refine aS rfl (fun Q9 => ?_) fun Q9 => ?_
  ·
   refine z4 ?_;refine lD ay hw ?_;refine z2 ?_;refine lD ai hw ?_;refine z1 ?_;refine iN rfl rfl cR rfl rfl (di (q := (x.it.value.length : Int) = x.it.size) (er := 8) (hw.pick (A := ag b3 _ _) pK)) rfl fun w aae hv => ?_;obtain ⟨-, hw⟩ := hv;refine z4 ?_;refine lD ai hw ?_;refine z1 ?_;refine iN rfl rfl cR rfl rfl (di (q := x.it.child = 0) (er := 15) (hw.pick (A := ag b3 _ _) pK)) rfl fun w ac5 hv => ?_;obtain ⟨-, hw⟩ := hv;refine z5 ?_;refine ⟨p.l.length - (k + 1), oM, [(1, _), (3, _), (4, _), (5, _), (28, _), (29, _), (30, iQ (k + 1 : Nat))], sB, k + 1, _, oM, rfl, rfl, by rw [hL1]; exact xO, ?_⟩;rw [JT];simp only [mR, xj, sT] at hw;unfold uM Bj B4;rw [ae h8, ah Q9, ae h8, ah Q9]
   try simp only [mR, xj, sT]
   exact (hw.b [ag b7 _ _, ag b3 _ _, ag b1 _ _]).tail
  refine z4 ?_;refine lD ay hw ?_;refine z2 ?_;refine iN rfl rfl cR rfl rfl (di (q := (x.it.value.length : Int) = 0) (er := 8) (hw.pick (A := ag b3 _ _) pK)) rfl fun w ac3 hv => ?_;obtain ⟨-, hw⟩ := hv;refine z4 ?_;refine lD ai hw ?_;refine an rfl pF rfl (qO hw) rfl fun w ac1 hv => ?_;obtain ⟨rfl, hw⟩ := hv;refine iN rfl rfl cR rfl rfl (di (q := kW x.it.child) (er := 15) (hw.pick (A := ag b3 _ _) pK)) rfl fun w ac0 hv => ?_;obtain ⟨-, hw⟩ := hv;refine z5 ?_;refine ⟨p.l.length - (k + 1), oM, [(1, _), (3, _), (4, _), (5, _), (28, _), (29, _), (30, iQ (k + 1 : Nat))], sB, k + 1, _, oM, rfl, rfl, by rw [hL1]; exact xO, ?_⟩;rw [JT];simp only [mR, xj, sT] at hw;unfold uM Bj B4;rw [ae h8, ae Q9, ae h8, ae Q9]
  try simp only [mR, xj, sT]
  exact (hw.b [ag b7 _ _, ag b3 _ _, ag b1 _ _]).tail
 refine z5 ?_;refine lD ai hw ?_;refine z2 ?_;refine tG (l1 := [5, 6, 7, 8]) (l2 := [9]) rfl (d := 135) (p.next = 0 \/ kW p.next) (fun w => ar G (ag b3 [iQ (ir p.kind 0 [] ((p.l.map bT.it).take k))] 41 :: ag b1 [iQ p.kind, iQ p.level, .slice a1 p.l.length c1, .slice a2 p.data.length c2, iQ p.next] 75 :: L) w) rfl ?_ ?_
 ·
  refine aE (d := 131) rfl (fun Pb => ?_) fun Pb => ?_
  ·
   refine z5 ?_;refine ⟨hw, congrArg some (congrArg Value.bool ?_)⟩
   first | exact (decide_eq_true (Or.inl Pb)).symm | exact cZ.2 ⟨.inr, fun h => h.resolve_left Pb⟩
  refine z1 ?_;refine lD ai hw ?_;refine an rfl pF rfl (qO hw) rfl fun w acZ hv => ?_;obtain ⟨rfl, hw⟩ := hv;refine z2 ?_;refine ⟨hw, congrArg some (congrArg Value.bool ?_)⟩
  first | exact (decide_eq_true (Or.inl Pb)).symm | exact cZ.2 ⟨.inr, fun h => h.resolve_left Pb⟩
 clear hw; intro w hw;refine iN rfl rfl cR rfl rfl (di (q := p.next = 0 \/ kW p.next) (er := 15) (hw.pick (A := ag b3 _ _) pK)) rfl fun w aad hv => ?_;obtain ⟨-, hw⟩ := hv;refine z3 ?_;refine lD aD hw ?_;refine z3 ?_;exact br rfl rfl rfl ⟨by
 rw [IJ, hF, Eb, show (p.l.map bT.it).take k = p.l.map bT.it from vN (by rw [bA]; omega)], hw.tail.tail⟩
end
theorem gz {q : Prop} [Decidable q] {e : Int} (h : e ≠ 0) : xL q e = 0 ↔ q := by unfold xL; by_cases hq : q <;> simp [hq, h]
theorem bZ {a b : Int} : fst a b = 0 ↔ a = 0 /\ b = 0 := by unfold fst; by_cases h : a = 0 <;> simp [h]
theorem bm.Ok.form {G : Gh} {w : World} {L : List az} {p : bm} (h : p.Ok L) (hw : ar G L w) : ∃ a1 c1 a2 c2, p.s = .slice a1 p.l.length c1 /\ p.d = .slice a2 p.data.length c2 /\ p.cells = [iQ p.kind, iQ p.level, .slice a1 p.l.length c1, .slice a2 p.data.length c2, iQ p.next] := by
 obtain ⟨a1, c1, h1, -, -⟩ := (h.its.sl.at hw).form;obtain ⟨a2, c2, h2⟩ := (h.data.at hw).form;rw [bA] at h1;exact ⟨a1, c1, a2, c2, h1, h2, by simp only [bm.cells, h1, h2]⟩
theorem bT.Ok.form {G : Gh} {w : World} {L : List az} {x : bT} (h : x.Ok L) (hw : ar G L w) : ∃ a1 c1 a2 c2, x.kv = .slice a1 x.it.key.length c1 /\ x.vv = .slice a2 x.it.value.length c2 /\ x.cells = [.slice a1 x.it.key.length c1, .slice a2 x.it.value.length c2, iQ x.it.child, iQ x.it.size] := by
 obtain ⟨a1, c1, h1⟩ := (h.k.at hw).form;obtain ⟨a2, c2, h2⟩ := (h.v.at hw).form;exact ⟨a1, c1, a2, c2, h1, h2, by simp only [bT.cells, h1, h2]⟩
def vW (kind : Int) (l : List It) : List Int := l.filterMap fun x => if kind = 2 \/ (kind = 1 /\ x.child ≠ 0) then some x.child else none
theorem Nu (kind : Int) (l : List It) (x : It) : vW kind (l ++ [x]) = vW kind l ++ (if kind = 2 \/ (kind = 1 /\ x.child ≠ 0) then [x.child] else []) := by
 unfold vW;rw [List.filterMap_append]
 by_cases h : kind = 2 \/ (kind = 1 /\ x.child ≠ 0) <;> simp [h]
theorem Is (kind : Int) (l : List It) : (vW kind l).length <= l.length := List.length_filterMap_le _ _
theorem LG (p : bm) : aA p.pg = vW p.kind (p.l.map bT.it) ++ (if p.kind = 3 /\ p.next ≠ 0 then [p.next] else []) := rfl
theorem Py {p : bm} {k : Nat} {x : bT} (hx : p.l[k]? = some x) : (p.l.map bT.it).take (k + 1) = (p.l.map bT.it).take k ++ [x.it] := by
 rw [PQ, dB, hx]; rfl
theorem RK {p : bm} {k : Nat} (h : p.l.length <= k) : (p.l.map bT.it).take k = p.l.map bT.it := vN (by rw [bA]; omega)
theorem BK (l : List Int) (n : Int) : bG (l ++ [n]) = bG l ++ [iQ n] := by simp [bG]
section
variable {G : Gh} {L R : List az} {w : World}
theorem uu {p : bm} (hw : ar G L w) (hp : p.Ok L) :
  Calls prog 106 #[gQ p.cells] w (dv fun r w' => ar G (row 3 1 r (aA p.pg).length (bG (aA p.pg)) :: L) w') := by
 have T9 := hp.its.len;have iE := hp.its;have kO := hp.its.sl;obtain ⟨a1, c1, a2, c2, h1, h2, gJ⟩ := hp.form hw;rw [h1] at kO;rw [gJ];clear h1 h2;refine al (args := [_]) func106 rfl ntmps106 rfl rfl ?_;refine z2 ?_;refine bE rfl rfl rfl hw rfl fun w b1 hw => ?_;refine yb ?_;refine lD ao hw ?_;refine z4 ?_;have hw := cf hw 3 1;refine cO (fun m e w => ∃ (k : Nat) (u : Value), k <= p.l.length /\ m = p.l.length - k /\ e = [(1, pQ b1), (3, u), (7, .slice a1 p.l.length c1), (8, iQ p.l.length), (9, iQ k)] /\ ar G (row 3 1 u (vW p.kind ((p.l.map bT.it).take k)).length (bG (vW p.kind ((p.l.map bT.it).take k))) :: ag b1 [iQ p.kind, iQ p.level, .slice a1 p.l.length c1, .slice a2 p.data.length c2, iQ p.next] 75 :: L) w)
  (m := p.l.length) sB
  ⟨0, _, fo _, rfl, rfl, hw⟩ ?_
 rintro m e w ⟨k, u, hk, rfl, rfl, hw⟩;refine z5 ?_;refine aS rfl (fun h1 => ?_) fun h1 => ?_
 ·
  have nS : k < p.l.length := oM;obtain ⟨x, hx⟩ : ∃ x, p.l[k]? = some x := ⟨_, cV nS⟩;have ot := iE.it x (ed hx);have vu : (p.l.map bT.cells)[k]? = some x.cells := by rw [dB, hx]; rfl
  obtain ⟨b, o, rfl⟩ := ((kO.of sF).at hw).nn (by rw [bA]; omega);have Tb : (vW p.kind ((p.l.map bT.it).take k)).length <= k := K1 (Is _ _) (by rw [fK]; omega);have JT := Nu p.kind ((p.l.map bT.it).take k) x.it;rw [<-Py hx] at JT;refine z5 ?_;refine dD rfl aG aY rfl rfl ⟨oM, oM⟩ ?_;refine bt rfl rfl (aj.many aI rfl (by rw [fQ]; exact ((kO.of sF).at hw).at vu)) ?_;refine aN rfl fV hw rfl fun w b5 hw => ?_;refine aL (cs := x.cells) (l' := x.cells) rfl tV rfl rfl aI rfl (mB (ot.of sF) hw) hw pK sM rfl rfl fun w hw => ?_;refine z4 ?_;refine lD ai hw ?_;refine z2 ?_;refine bY (l1 := [4, 5, 6, 7, 8, 9, 10, 11, 12]) (l2 := []) rfl (d := 25) (p.kind = 2 \/ (p.kind = 1 /\ x.it.child ≠ 0)) rfl ?_ ?_
  ·
   refine aE (d := 16) rfl (fun h2 => ?_) fun h2 => ?_
   ·
    refine yb ?_;refine cQ ?_;exact dC
   refine z1 ?_;refine lD ai hw ?_;refine z2 ?_;refine aE (d := 20) rfl (fun h3 => ?_) fun h3 => ?_
   ·
    refine z1 ?_;refine lD ai hw ?_;refine z1 ?_;refine zM rfl rfl rfl rfl ?_;refine z2 ?_;refine cQ ?_;exact dC
   refine z3 ?_;refine zN rfl rfl rfl rfl ?_;refine z2 ?_;refine cQ ?_;exact dC
  refine aH ?_;refine aS rfl (fun h4 => ?_) fun h4 => ?_
  ·
   refine z3 ?_;refine lD ai hw ?_;refine hY (cs := [iQ x.it.child]) rfl bP cT k9 dM rfl rfl rfl hw rfl fun w b29 hw => ?_;refine gP (m := (vW p.kind ((p.l.map bT.it).take k)).length) (k := 1) (news := [iQ x.it.child]) rfl bP cT qR k9 rfl rfl hw pK (Rd.nP hw pK) rfl (by intro z hz; simp at hz; subst hz; rfl) mL oM rfl (fun w v30 hw => ?_);refine z6 ?_;refine ⟨p.l.length - (k + 1), oM, [(1, _), (3, _), (7, _), (8, _), (9, iQ (k + 1 : Nat))], sB, k + 1, _, oM, rfl, rfl, ?_⟩;rw [JT, ah h4, BK, cj, jt];exact (hw.b [ag b29 _ _, ag b5 _ _, row 3 1 v30 _ _, ag b1 _ _]).tail.tail
  refine z5 ?_;refine ⟨p.l.length - (k + 1), oM, [(1, _), (3, _), (7, _), (8, _), (9, iQ (k + 1 : Nat))], sB, k + 1, _, oM, rfl, rfl, ?_⟩;rw [JT, ae h4, my];exact (hw.b [ag b5 _ _, row 3 1 u _ _, ag b1 _ _]).tail
 rw [RK oM] at hw;have Tb : (vW p.kind (p.l.map bT.it)).length <= p.l.length := K1 (Is _ _) (by rw [bA]; omega);refine z5 ?_;refine lD ai hw ?_;refine z2 ?_;refine bY (l1 := [4, 5, 6, 7]) (l2 := []) rfl (d := 39) (p.kind = 3 /\ p.next ≠ 0) rfl ?_ ?_
 ·
  refine aE (d := 35) rfl (fun h5 => ?_) fun h5 => ?_
  ·
   refine z1 ?_;refine lD ai hw ?_;refine z3 ?_;refine cQ ?_;exact dC
  refine z5 ?_;refine cQ ?_;exact dC
 refine aH ?_;refine aS rfl (fun h6 => ?_) fun h6 => ?_
 ·
  refine z3 ?_;refine lD ai hw ?_;refine hY (cs := [iQ p.next]) rfl bP cT k9 dM rfl rfl rfl hw rfl fun w b43 hw => ?_;refine gP (m := (vW p.kind (p.l.map bT.it)).length) (k := 1) (news := [iQ p.next]) rfl bP cT qR k9 rfl rfl hw pK (Rd.nP hw pK) rfl (by intro z hz; simp at hz; subst hz; rfl) mL oM rfl (fun w v44 hw => ?_);refine z8 ?_;exact br rfl rfl rfl (by
 rw [LG, ah h6, BK, cj, jt];exact (hw.b [ag b43 _ _, ag b1 _ _, row 3 1 v44 _ _]).tail.tail)
 refine z7 ?_;exact br rfl rfl rfl (by
 rw [LG, ae h6, my];exact (hw.b [ag b1 _ _, row 3 1 u _ _]).tail)
end

section
variable {P : Program} {n : Nat} {ops : Array Oper} {dr : Bool} {done r : List Nat} {K : gj -> World -> Prop} {e : gj} {w : World} {i d : Nat} {t s s' c : TypeId} {p : String} {af : Array Edge} {g : Option (Nat × Bool)} {x y : Operand} {G : Gh} {L R : List az} {T : TypeId}
theorem aab {b o dl dc : Nat} {v : Value} {l : bN} {cur l' : List Value} (ho : ops[i]? = some ⟨some d, .call ⟨.builtin .copy, #[x, y], #[s, s']⟩, t, p, af, g⟩) (hs : P.underlying s = some (.slice c)) (xo : (P.info? c).map (·.size) = some 1)
  (hx : ev e x = some (.slice (some ⟨b, o, none⟩) dl dc)) (hy : ev e y = some v) (hw : ar G L w) (hp : dg (ag b cur T) L R) (hr : kL v l w) (hl : l.length <= dl) (xP : o + l.length <= cur.length)
  (NK : cur.take o ++ dV l ++ cur.drop (o + l.length) = l') (j6 : iI P ops dr done i = [])
  (h : ∀ w', ar G (ag b l' T :: R) w' -> XL P n ops dr (i :: done) r K ((d, iQ l.length) :: e) w') (hd : Nat.blt d n = true := by exact rfl) (hg : Gd ops e g := by first | trivial | exact ⟨_, rfl, rfl⟩) : XL P n ops dr done (i :: r) K e w := by
 rcases hr with ⟨⟨a, rfl⟩, rfl⟩ | ⟨b', o', cap, rfl, hc, hR⟩
 ·have Kq : l' = cur := by rw [<-NK]; show cur.take o ++ [] ++ cur.drop (o + 0) = cur; simp
  subst Kq;have OW := run_copy_none (P := P) w s s' t c (some ⟨b, o, none⟩) a dl dc 0 0 hs xo (Nat.zero_min _);refine iY ho (by simpa [cS] using hd) hg (ρ := rh e) (by intro z hZ; simp [Op.operands, Call.operands] at hZ; exact Da hx hy hZ) rfl (v := iQ 0) (w' := w) ?_ (gx j6) (h _ (hw.pick hp));simp only [execOp, resolve, invoke, builtin, Sem.run_bind, Sem.run_pure, Result.andThen_ok, oS, cG, j3, bO hx, bO hy, OW];rfl
 have hb : (dV l).length = l.length := ox l;refine abi (cs := dV l) (l' := l') (hd := hd) (hg := hg) ho hs xo hx hy hw hp hR (by rw [hb]; exact (Nc hl).symm) (sS _) (by rw [hb]; exact xP) (by rw [hb]; exact NK) j6 (fun w' oE => ?_);rw [hb];exact h w' oE
end
structure Rg where
 lo : bN
 hi : bN
 eR : Bool
structure yE where
 rg : Rg
 lv : Value
 hv : Value
def yE.cells (r : yE) : List Value := [r.lv, r.hv, .bool r.rg.eR]
structure yE.Ok (L : List az) (r : yE) : Prop where
 lo : aX L (kL r.lv r.rg.lo)
 hi : aX L (kL r.hv r.rg.hi)
 sl : bz r.rg.lo
 sh : bz r.rg.hi
theorem yE.Ok.of {L L' : List az} {r : yE} (h : r.Ok L) (s : Ps L L') : r.Ok L' := ⟨h.lo.of s, h.hi.of s, h.sl, h.sh⟩
def tR (r : yE) : List az := [row 5 1 r.lv r.rg.lo.length (dV r.rg.lo), row 5 1 r.hv r.rg.hi.length (dV r.rg.hi)]
theorem EB {r : yE} {L R : List az} (h1 : bz r.rg.lo) (h2 : bz r.rg.hi) (p1 : dg (row 5 1 r.lv r.rg.lo.length (dV r.rg.lo)) L R) {R' : List az} (p2 : dg (row 5 1 r.hv r.rg.hi.length (dV r.rg.hi)) L R') : r.Ok L := ⟨vH rfl p1, vH rfl p2, h1, h2⟩
def iJ (k : bN) : Prop := 1 <= k.length /\ k.length <= 24
instance (k : bN) : Decidable (iJ k) := by unfold iJ; infer_instance
def lH (r : Rg) (k : bN) : Prop := iJ k /\ 0 <= bU k r.lo /\ (r.eR = true \/ bU k r.hi < 0)
instance (r : Rg) (k : bN) : Decidable (lH r k) := by unfold lH; infer_instance
def ju (a b : bN) : bN := if bU a b < 0 then b else a
def xM (a b : bN) : bN := if 0 < bU a b then b else a
def gL (a b : Rg) : Rg := ⟨ju a.lo b.lo, if a.eR = true then (if b.eR = true then [] else b.hi) else if b.eR = true then a.hi else xM a.hi b.hi, a.eR && b.eR⟩
theorem Np {a b : bN} (ha : bz a) (hb : bz b) : bz (ju a b) := by unfold ju; split <;> assumption
theorem No {a b : bN} (ha : bz a) (hb : bz b) : bz (xM a b) := by unfold xM; split <;> assumption
theorem n' : bz [] := fo _
theorem EU {a b : Rg} (h1 : bz a.lo) (h2 : bz a.hi) (h3 : bz b.lo) (h4 : bz b.hi) : bz (gL a b).lo /\ bz (gL a b).hi := by
 refine ⟨Np h1 h3, ?_⟩
 show bz (if a.eR = true then (if b.eR = true then [] else b.hi) else if b.eR = true then a.hi else xM a.hi b.hi)
 repeat' split
 all_goals first | exact n' | exact h4 | exact h2 | exact No h2 h4
theorem Cf (b : Bool) : ∃ q : Prop, ∃ _ : Decidable q, b = decide q /\ (b = true ↔ q) := ⟨b = true, inferInstance, by simp, Iff.rfl⟩
section
variable {G : Gh} {L R : List az} {w : World}
theorem yt {v : Value} {l : bN} (hw : ar G L w) (kl : aX L (kL v l)) : Calls prog 171 #[v] w (dv fun r w' => r = .bool (decide (iJ l)) /\ ar G L w') := by
 obtain ⟨a, cap, rfl⟩ := (kl.at hw).form;refine al (args := [_]) func171 rfl ntmps171 rfl rfl ?_;refine yb ?_;refine bY (l1 := [4, 5, 6, 7]) (l2 := [8]) rfl (d := 10) (iJ l) rfl ?_ ?_
 ·
  refine aE (d := 6) rfl (fun h1 => ?_) fun h1 => ?_
  ·
   refine z5 ?_;refine cQ ?_;unfold iJ; exact dC
  refine z5 ?_;refine cQ ?_;unfold iJ; exact dC
 refine z3 ?_;exact br rfl rfl rfl ⟨rfl, hw⟩
theorem wE {r : yE} {v : Value} {k : bN} (hw : ar G L w) (hr : r.Ok L) (kl : aX L (kL v k)) :
  Calls prog 139 #[gQ r.cells, v] w (dv fun u w' => u = .bool (decide (lH r.rg k)) /\ ar G L w') := by
 have oF := hr.lo;have hhi := hr.hi;obtain ⟨q, dq, hq1, Qo⟩ := Cf r.rg.eR;have gJ : r.cells = [r.lv, r.hv, .bool (decide q)] := by rw [<-hq1]; rfl
 rw [gJ];refine al (args := [_, _]) func139 rfl ntmps139 rfl rfl ?_;refine z2 ?_;refine bE rfl rfl rfl hw rfl fun w b2 hw => ?_;refine z5 ?_;refine an rfl wR rfl (yt hw (kl.of sF)) rfl fun w v6 hv => ?_;obtain ⟨rfl, hw⟩ := hv;refine z1 ?_;refine tG (l1 := [3, 4, 5, 6, 7, 8]) (l2 := [9, 10, 11, 12, 13, 14, 15, 16, 17, 18, 19, 20]) rfl (d := 13) (iJ k /\ 0 <= bU k r.rg.lo) (fun w => ar G (ag b2 [r.lv, r.hv, .bool (decide q)] 64 :: L) w) rfl ?_ ?_
 ·
  refine aE (d := 7) rfl (fun h1 => ?_) fun h1 => ?_
  ·
   refine z2 ?_;refine lD ay hw ?_;refine an rfl eT rfl (fb hw (kl.of sF) (oF.of sF)) rfl fun w v11 hv => ?_;obtain ⟨rfl, hw⟩ := hv;refine z3 ?_;refine ⟨hw, congrArg some (congrArg Value.bool ?_)⟩
   first | exact (decide_eq_false (fun h => h1 h.1)).symm | exact cZ.2 ⟨fun h => ⟨h1, h⟩, fun h => h.2⟩
  refine z7 ?_;refine ⟨hw, congrArg some (congrArg Value.bool ?_)⟩
  first | exact (decide_eq_false (fun h => h1 h.1)).symm | exact cZ.2 ⟨fun h => ⟨h1, h⟩, fun h => h.2⟩
 clear hw; intro w hw;refine z1 ?_;refine tG (l1 := [10, 11, 12, 13, 14, 15, 16, 17, 18, 19]) (l2 := [20]) rfl (d := 24) (lH r.rg k) (fun w => ar G (ag b2 [r.lv, r.hv, .bool (decide q)] 64 :: L) w) rfl ?_ ?_
 ·
  refine aE (d := 14) rfl (fun h2 => ?_) fun h2 => ?_
  ·
   refine z1 ?_;refine lD cr hw ?_;refine z1 ?_;refine aE (d := 17) rfl (fun h3 => ?_) fun h3 => ?_
   ·
    refine z5 ?_;refine zM rfl rfl rfl rfl ?_;refine z2 ?_;refine ⟨hw, congrArg some (congrArg Value.bool ?_)⟩
    first | exact (decide_eq_true ⟨h2.1, h2.2, .inl (Qo.2 h3)⟩).symm | exact cZ.2 ⟨fun h => ⟨h2.1, h2.2, .inr h⟩, fun h => h.2.2.resolve_left (fun h4 => h3 (Qo.1 h4))⟩ | exact (decide_eq_false (fun h => h2 ⟨h.1, h.2.1⟩)).symm
   refine z2 ?_;refine lD ay hw ?_;refine an rfl eT rfl (fb hw (kl.of sF) (hhi.of sF)) rfl fun w Wj hv => ?_;obtain ⟨rfl, hw⟩ := hv;refine z1 ?_;refine zN rfl rfl rfl rfl ?_;refine z2 ?_;refine ⟨hw, congrArg some (congrArg Value.bool ?_)⟩
   first | exact (decide_eq_true ⟨h2.1, h2.2, .inl (Qo.2 h3)⟩).symm | exact cZ.2 ⟨fun h => ⟨h2.1, h2.2, .inr h⟩, fun h => h.2.2.resolve_left (fun h4 => h3 (Qo.1 h4))⟩ | exact (decide_eq_false (fun h => h2 ⟨h.1, h.2.1⟩)).symm
  refine Oc ?_;refine ⟨hw, congrArg some (congrArg Value.bool ?_)⟩
  first | exact (decide_eq_true ⟨h2.1, h2.2, .inl (Qo.2 h3)⟩).symm | exact cZ.2 ⟨fun h => ⟨h2.1, h2.2, .inr h⟩, fun h => h.2.2.resolve_left (fun h4 => h3 (Qo.1 h4))⟩ | exact (decide_eq_false (fun h => h2 ⟨h.1, h.2.1⟩)).symm
 clear hw; intro w hw;refine z3 ?_;exact br rfl rfl rfl ⟨rfl, hw.tail⟩
theorem gp {v : Value} {l : bN} {m : Nat} (hw : ar G L w) (kl : aX L (kL v l)) (hs : bz l) (hm : m <= 64) : Calls prog 152 #[v, iQ m] w (dv fun r w' => ar G (row 5 1 r l.length (dV l) :: L) w') := by
 obtain ⟨a, cap, rfl⟩ := (kl.at hw).form;unfold bz at hs;refine al (args := [_, _]) func152 rfl ntmps152 rfl rfl ?_;refine KA ?_;refine KC rfl bL dX pk zJ rfl rfl ⟨oM, oM⟩ oM oM hw rfl fun w TK hw => ?_;refine z6 ?_;refine aab (l := l) rfl bL dX rfl rfl hw pK ((kl.of sF).at hw) sM (by simp [yO]; omega) rfl rfl (fun w hw => ?_);refine z7 ?_;exact br rfl rfl rfl (np (xs := dV l) (m := l.length) hw (by rw [ox, KZ]) oM mL (by simp [yO, ox]; omega))
theorem AH {v u : Value} {a b : bN} (hw : ar G L w) (ka : aX L (kL v a)) (kb : aX L (kL u b)) (ha : bz a) (hb : bz b) : Calls prog 151 #[v, u] w (dv fun r w' => ar G (row 5 1 r (ju a b).length (dV (ju a b)) :: L) w') := by
 refine al (args := [_, _]) func151 rfl ntmps151 rfl rfl ?_;refine z9 ?_;refine an rfl eT rfl (fb hw (ka.of sF) (kb.of sF)) rfl fun w v7 hv => ?_;obtain ⟨rfl, hw⟩ := hv;refine z2 ?_;refine aS rfl (fun h1 => ?_) fun h1 => ?_
 ·
  refine z7 ?_;refine an rfl fE rfl (gp (m := 0) hw (kb.of sF) hb oM) rfl fun w v11 hv => ?_;refine z3 ?_;exact br rfl rfl rfl (by rw [show ju a b = b from ah h1]; exact hv)
 refine z4 ?_;refine an rfl fE rfl (gp (m := 0) hw (ka.of sF) ha oM) rfl fun w v11 hv => ?_;refine z3 ?_;exact br rfl rfl rfl (by rw [show ju a b = a from ae h1]; exact hv)
theorem J1 {v u : Value} {a b : bN} (hw : ar G L w) (ka : aX L (kL v a)) (kb : aX L (kL u b)) (ha : bz a) (hb : bz b) : Calls prog 153 #[v, u] w (dv fun r w' => ar G (row 5 1 r (xM a b).length (dV (xM a b)) :: L) w') := by
 refine al (args := [_, _]) func153 rfl ntmps153 rfl rfl ?_;refine z9 ?_;refine an rfl eT rfl (fb hw (ka.of sF) (kb.of sF)) rfl fun w v7 hv => ?_;obtain ⟨rfl, hw⟩ := hv;refine z2 ?_;refine aS rfl (fun h1 => ?_) fun h1 => ?_
 ·
  refine z7 ?_;refine an rfl fE rfl (gp (m := 0) hw (kb.of sF) hb oM) rfl fun w v11 hv => ?_;refine z3 ?_;exact br rfl rfl rfl (by rw [show xM a b = b from ah h1]; exact hv)
 refine z4 ?_;refine an rfl fE rfl (gp (m := 0) hw (ka.of sF) ha oM) rfl fun w v11 hv => ?_;refine z3 ?_;exact br rfl rfl rfl (by rw [show xM a b = a from ae h1]; exact hv)
end
end Go.Proofs.YteifbglognfgdaaGreatDoor.X
