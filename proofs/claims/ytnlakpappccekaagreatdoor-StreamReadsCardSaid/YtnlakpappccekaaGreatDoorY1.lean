/- Part 1 of what the proof of this claim stands on: rules for walking the code, and what its functions answer; no conditions. -/
import Derived.Deep.Quiet
import Derived.Tactics
import Derived.OrdersIn
import Derived.RangeFuncRecord
import Derived.Scope
import Derived.WalkKit
import Derived.Test.YtnlakpappccekaaGreatDoorRows
import Derived.RecoverIn
import Derived.Laws.StructEq
import Derived.Lib.AppendZeros
import Derived.OpenShut
import Derived.ReadAgain
import Derived.HandedShaped
import Derived.Test.YtnlakpappccekaaGreatDoorTie
import Derived.Test.YtnlakpappccekaaGreatDoorCards
import Derived.ProofKit
import Derived.LaidMore
import Derived.SevenTiedAt
namespace Go.Proofs.YtnlakpappccekaaGreatDoor.X
set_option linter.unusedVariables false
set_option linter.unusedSimpArgs false
set_option maxRecDepth 20000
set_option maxHeartbeats 8000000
def Ret (R : Value → World → Prop) : Ending → World → Prop := fun e w => ∃ v, e = .returned v ∧ R v w
def okind (P : Program) : Op → Nat
 | .move _ | .assign _ | .pick .. | .fieldAddr .. | .field .. | .unOp .. | .extract .. | .nilCheck _ | .slice .. | .indexAddr .. | .index ..
 | .makeInterface .. | .makeFunc .. | .build .. | .typeAssert .. => 0
 | .binOp op t x y _ =>
  if op matches .eql | .neq then
   match P.underlying t with
   | some (.pointer _) | some (.interface _) => if Region.isConst x || Region.isConst y then 0 else 1
   | _ => 0
  else 0
 | .convert s d _ => match P.underlying s, P.underlying d with | some (.int _), some (.int _) => 0 | some (.string), some (.string) => 0 | some (.slice _), some (.string) => 1 | _, _ => 2
 | .load .. | .lookup .. | .entry _ | .waits _ => 1
 | .call { callee := .builtin b, argTypes, .. } => match b with
  | .len | .cap => match (argTypes[0]?).bind P.underlying with | some (.map ..) | some (.chan ..) => 1 | _ => 0
  | .min | .max | .complex | .real | .imag => 0
  | _ => 2
 | _ => 2
def Fw (ro : Option Nat) : Fence := { Fence.wide with round := ro }
theorem room_fw (ro : Option Nat) (m : Nat) : (Fw ro).room m := fun d hd => by cases hd
def Round1 (P : Program) (l : Nat) (f : FuncId) (tmps : Array Value) (assign body : Code) (w : World) (R : Ending → World → Prop) : Prop := RoundIn (Fw none) 0 P l f tmps assign body w R
theorem Round1.fw {P : Program} {l : Nat} {f : FuncId} {tmps : Array Value} {assign body : Code} {w : World} {R : Ending → World → Prop} (h : Round1 P l f tmps assign body w R) (ro : Option Nat) (n : Nat) : RoundIn (Fw ro) n P l f tmps assign body w R :=
 ⟨trivial, fun c cs _ => h.2 c cs (room_fw _ _)⟩
theorem Calls.fw {P : Program} {f : FuncId} {args : Array Value} {w : World} {R : Ending → World → Prop} (h : Calls P f args w R) (ro : Option Nat) (n : Nat) : CallsIn (Fw ro) n P f args w R :=
 ⟨trivial, fun cs _ => (callsIn_wide (n := 0).2 h).2 cs (room_fw none _)⟩
theorem Round1.ex {P : Program} {l : Nat} {f : FuncId} {tmps : Array Value} {assign body : Code} {w : World} {V : Value → World → Prop} (h : Round1 P l f tmps assign body w (Ret V)) : ∃ v w', V v w' := by
 obtain ⟨e, w', ⟨v, _, hv⟩, _⟩ := h.2 default [] (room_fw none _); exact ⟨_, _, hv⟩
section
variable {P : Program} {ops : Array Oper} {md : Region.Mode}
def runS (P : Program) (s : Sem Next) (k : Nat) (w : World) (V : Value → World → Prop) : Prop :=
 match k with
 | 0 => ∃ v, (∀ w', s.run P w' = .ok (.value v) w') ∧ V v w
 | 1 => ∃ v, s.run P w = .ok (.value v) w ∧ V v w
 | _ => match s.run P w with
  | .ok (.value v) w' => V v w'
  | .ok .skip w' => V undef w'
  | .ok (.enter f args) w' => Calls P f args w' (Ret V)
  | .ok (.round l f tmps assign body) w' => Round1 P l f tmps assign body w' (Ret V)
  | _ => False
theorem runS_mono {s : Sem Next} {k : Nat} {w : World} {V V' : Value → World → Prop} (h : ∀ v w', V v w' → V' v w') (hh : runS P s k w V) : runS P s k w V' := by
 unfold runS at *
 match k with
 | 0 => obtain ⟨v, h1, h2⟩ := hh; exact ⟨v, h1, h _ _ h2⟩
 | 1 => obtain ⟨v, h1, h2⟩ := hh; exact ⟨v, h1, h _ _ h2⟩
 | k + 2 =>
  simp only at hh ⊢
  generalize s.run P w = r at *
  cases r with
  | ok n w' =>
   cases n <;> simp only at hh ⊢
   case value v => exact h _ _ hh
   case skip => exact h _ _ hh
   case enter f args => exact hh.mono fun e w'' ⟨v, he, hv⟩ => ⟨v, he, h _ _ hv⟩
   case round => exact RoundIn.mono hh fun e w'' ⟨v, he, hv⟩ => ⟨v, he, h _ _ hv⟩
  | halt x w' => exact hh.elim
theorem runS_ex {s : Sem Next} {k : Nat} {w : World} {V : Value → World → Prop} (hh : runS P s k w V) : ∃ v w', V v w' := by
 unfold runS at hh
 match k with
 | 0 => obtain ⟨v, _, h2⟩ := hh; exact ⟨_, _, h2⟩
 | 1 => obtain ⟨v, _, h2⟩ := hh; exact ⟨_, _, h2⟩
 | k + 2 =>
  simp only at hh
  generalize s.run P w = r at *
  cases r with
  | ok n w' =>
   cases n <;> simp only at hh
   case value v => exact ⟨_, _, hh⟩
   case skip => exact ⟨_, _, hh⟩
   case enter f args => obtain ⟨e, w'', fr, ⟨v, _, hv⟩, _⟩ := hh []; exact ⟨_, _, hv⟩
   case round => exact hh.ex
  | halt x w' => exact hh.elim
def SOp (P : Program) (ops : Array Oper) (o : Oper) (K : Act → World → Prop) (a : Act) (w : World) : Prop :=
 if Region.wanted o (yielded ops a.tmps) then runS P (execOp a.eval o) (okind P o.op) w (fun v w' => K (a.put o.dst v) w') else K (a.put o.dst undef) w
theorem SOp_mono {o : Oper} {K K' : Act → World → Prop} {a : Act} {w : World} (h : ∀ v w', K (a.put o.dst v) w' → K' (a.put o.dst v) w') (hh : SOp P ops o K a w) : SOp P ops o K' a w := by
 unfold SOp at *
 split
 ·rename_i hw; rw [if_pos hw] at hh; exact runS_mono (fun v w' => h v w') hh
 rename_i hw; rw [if_neg hw] at hh; exact h _ _ hh
theorem SOp_ex {o : Oper} {K : Act → World → Prop} {a : Act} {w : World} (hh : SOp P ops o K a w) : ∃ v w', K (a.put o.dst v) w' := by
 unfold SOp at hh
 split at hh
 ·exact runS_ex hh
 exact ⟨_, _, hh⟩
def deps (md : Region.Mode) (ops : Array Oper) (i : Nat) : List Nat :=
 (List.range ops.size).foldl (fun s j => if s.contains j then s else match ops[j]? with
  | some o => if o.after.any (fun e => Region.binds md e && s.contains e.on) then j :: s else s
  | none => s) [i]
structure Closed (md : Region.Mode) (ops : Array Oper) (listed : Array Bool) : Prop where
 size : listed.size = ops.size
 preds : ∀ j o, ops[j]? = some o → listed.getD j false = true → ∀ e ∈ o.after, Region.binds md e = true → listed.getD e.on false = true
theorem deps_inv (i : Nat) : ∀ j ∈ deps md ops i, j = i ∨ ∃ o, ops[j]? = some o ∧ ∃ e ∈ o.after, Region.binds md e = true ∧ e.on ∈ deps md ops i ∧
  ∀ listed, Closed md ops listed → listed.getD i false = false → listed.getD e.on false = false := by
 unfold deps
 suffices h : ∀ (l : List Nat) (s : List Nat),
   (∀ j ∈ s, j = i ∨ ∃ o, ops[j]? = some o ∧ ∃ e ∈ o.after, Region.binds md e = true ∧ e.on ∈ s ∧ ∀ listed, Closed md ops listed → listed.getD i false = false → listed.getD e.on false = false) →
   (∀ j ∈ (l.foldl (fun s j => if s.contains j then s else match ops[j]? with
    | some o => if o.after.any (fun e => Region.binds md e && s.contains e.on) then j :: s else s
    | none => s) s), j = i ∨ ∃ o, ops[j]? = some o ∧ ∃ e ∈ o.after, Region.binds md e = true ∧ e.on ∈ (l.foldl (fun s j => if s.contains j then s else match ops[j]? with
    | some o => if o.after.any (fun e => Region.binds md e && s.contains e.on) then j :: s else s
    | none => s) s) ∧ ∀ listed, Closed md ops listed → listed.getD i false = false → listed.getD e.on false = false) from
  h _ [i] (by simp)
 intro l
 induction l with
 | nil => intro s hs; exact hs
 | cons k l ih =>
  intro s hs
  simp only [List.foldl_cons]
  refine ih _ ?_
  split
  ·exact hs
  split
  ·rename_i o ho
   split
   ·rename_i hany
    obtain ⟨e, he, hb⟩ := Array.any_eq_true'.1 hany
    simp only [Bool.and_eq_true, List.contains_iff_mem] at hb
    intro j hj
    rcases List.mem_cons.1 hj with rfl | hj
    ·refine .inr ⟨o, ho, e, he, hb.1, List.mem_cons_of_mem _ hb.2, fun listed hc hi => ?_⟩
     rcases hs _ hb.2 with h1 | ⟨o', ho', e', he', hb', _, hall⟩
     ·rw [h1]; exact hi
     cases hl : listed.getD e.on false with
     | false => rfl
     | true => have := hc.preds _ _ ho' hl e' he' hb'; rw [hall listed hc hi] at this; cases this
    rcases hs j hj with h1 | ⟨o', ho', e', he', hb', hm, hall⟩
    ·exact .inl h1
    exact .inr ⟨o', ho', e', he', hb', List.mem_cons_of_mem _ hm, hall⟩
   exact hs
  exact hs
theorem deps_unlisted {i j : Nat} {listed : Array Bool} (hc : Closed md ops listed) (hi : listed.getD i false = false) (hj : j ∈ deps md ops i) : listed.getD j false = false := by
 rcases deps_inv i j hj with h | ⟨o, ho, e, he, hb, _, hall⟩
 ·rw [h]; exact hi
 cases hl : listed.getD j false with
 | false => rfl
 | true => have := hc.preds _ _ ho hl e he hb; rw [hall listed hc hi] at this; cases this
theorem deps_not_ready {i j : Nat} {listed : Array Bool} (hc : Closed md ops listed) (hi : listed.getD i false = false) (hj : j ∈ deps md ops i) (hne : j ≠ i) : j ∉ Region.ready md ops listed := by
 intro hr
 obtain ⟨_, o, ho, hall⟩ := mem_ready.1 hr
 rcases deps_inv i j hj with h | ⟨o', ho', e, he, hb, _, hun⟩
 ·exact hne h
 have : o' = o := Option.some.inj (ho'.symm.trans ho)
 subst this
 have h1 := hall e he hb
 rw [hun listed hc hi] at h1; cases h1
theorem unl {listed : Array Bool} {i : Nat} (h : listed.getD i true = false) : listed.getD i false = false := by
 rcases Nat.lt_or_ge i listed.size with h' | h'
 ·simp [h'] at h ⊢; exact h
 simp [Array.getElem?_eq_none h'] at h
theorem Closed.set {listed : Array Bool} {i : Nat} (hc : Closed md ops listed) (hi : i ∈ Region.ready md ops listed) : Closed md ops (listed.setIfInBounds i true) := by
 obtain ⟨_, oi, hoi, hall⟩ := mem_ready.1 hi
 refine ⟨by simp [hc.size], fun j oj hj hl e he hb => ?_⟩
 by_cases hij : i = j
 ·subst hij
  have : oj = oi := Option.some.inj (hj.symm.trans hoi)
  subst this
  exact getD_set_true (hall e he hb)
 rw [getD_set_ne false hij] at hl
 exact getD_set_true (hc.preds j oj hj hl e he hb)
def comm (k1 k2 : Nat) : Bool := k1 == 0 || k2 == 0 || k1 == 1
def pb (P : Program) (md : Region.Mode) (ops : Array Oper) (q i : Nat) : Bool :=
 match ops[q]?, ops[i]? with
 | some oq, some oi => Nat.ble 2 (okind P oi.op) && okind P oq.op == 1 && !(deps md ops q).contains i
 | _, _ => false
def Chk (P : Program) (ops : Array Oper) (o : Oper) (a : Act) (w : World) : Prop :=
 Region.wanted o (yielded ops a.tmps) = true → ∃ v, (execOp a.eval o).run P w = .ok (.value v) w ∧ ∀ d, o.dst = some d → a.tmps.getD d undef = v
def Rechk (P : Program) (md : Region.Mode) (ops : Array Oper) (done : List Nat) (i : Nat) (a : Act) (w : World) : Prop :=
 ∀ q ∈ done, pb P md ops q i = true → ∀ o, ops[q]? = some o → Chk P ops o a w
def SOpR (P : Program) (md : Region.Mode) (ops : Array Oper) (done : List Nat) (i : Nat) (o : Oper) (K : Act → World → Prop) (a : Act) (w : World) : Prop :=
 if Region.wanted o (yielded ops a.tmps) then
  runS P (execOp a.eval o) (okind P o.op) w (fun v w' => Rechk P md ops done i (a.put o.dst v) w' ∧ K (a.put o.dst v) w')
 else K (a.put o.dst undef) w
theorem SOpR_SOp {done : List Nat} {i : Nat} {o : Oper} {K : Act → World → Prop} {a : Act} {w : World} (h : SOpR P md ops done i o K a w) : SOp P ops o K a w := by
 unfold SOpR at h; unfold SOp
 split
 ·rename_i hw; rw [if_pos hw] at h; exact runS_mono (fun v w' h => h.2) h
 rename_i hw; rw [if_neg hw] at h; exact h
theorem SOpR_mono {done : List Nat} {i : Nat} {o : Oper} {K K' : Act → World → Prop} {a : Act} {w : World} (h : ∀ v w', K (a.put o.dst v) w' → K' (a.put o.dst v) w') (hh : SOpR P md ops done i o K a w) :
  SOpR P md ops done i o K' a w := by
 unfold SOpR at *
 split
 ·rename_i hw; rw [if_pos hw] at hh; exact runS_mono (fun v w' hk => ⟨hk.1, h v w' hk.2⟩) hh
 rename_i hw; rw [if_neg hw] at hh; exact h _ _ hh
theorem Chk_put {oq oi : Oper} (hs : ∀ cs b, oq.op ≠ .select cs b) (hcl : ∀ d, oi.dst = some d → d ∉ oq.looksAt ops ∧ oq.dst ≠ some d) {a : Act} {w : World} {v : Value} :
  Chk P ops oq (a.put oi.dst v) w ↔ Chk P ops oq a w := by
 unfold Chk
 rw [wanted_put oq a oi.dst v fun d hd => (hcl d hd).1, execOp_put oq hs a oi.dst v fun d hd => (hcl d hd).1]
 have e : ∀ d, oq.dst = some d → (a.put oi.dst v).tmps.getD d undef = a.tmps.getD d undef := fun d hd => by
  cases hi : oi.dst with
  | none => rfl
  | some c =>
   have hne : c ≠ d := fun hcd => (hcl c hi).2 (by rw [hd, hcd])
   simp [Act.put, Array.getElem?_setIfInBounds_ne hne]
 constructor <;> intro h hw <;> obtain ⟨u, h1, h2⟩ := h hw <;> refine ⟨u, h1, fun d hd => ?_⟩
 ·rw [← e d hd]; exact h2 d hd
 rw [e d hd]; exact h2 d hd
theorem pb_spec {q i : Nat} {oq oi : Oper} (hq : ops[q]? = some oq) (hi : ops[i]? = some oi) (h : pb P md ops q i = true) : 2 ≤ okind P oi.op ∧ okind P oq.op = 1 ∧ i ∉ deps md ops q := by
 unfold pb at h; rw [hq, hi] at h
 simpa [and_assoc] using h
theorem SOpR_swap {done : List Nat} {i j : Nat} {oi oj : Oper} (hi : ops[i]? = some oi) (hj : ops[j]? = some oj)
  (hap : oi.apart ops oj = true) (hsel : ∀ (j : Nat) (o : Oper) cs b, ops[j]? = some o → o.op ≠ .select cs b)
  (hc : comm (okind P oi.op) (okind P oj.op) = true) (hnd : j ∉ deps md ops i) (hself : okind P oi.op = 1 → ∀ d, oi.dst = some d → d ∉ oi.looksAt ops) {n : Nat} (hdi : ∀ d, oi.dst = some d → d < n) {K : Act → World → Prop} {a : Act} {w : World} (hsz : a.tmps.size = n)
  (hci : ∀ q ∈ done, ∀ oq, ops[q]? = some oq → okind P oq.op = 1 → ∀ d, oi.dst = some d → d ∉ oq.looksAt ops ∧ oq.dst ≠ some d)
  (hcj : ∀ q ∈ done, ∀ oq, ops[q]? = some oq → okind P oq.op = 1 → ∀ d, oj.dst = some d → d ∉ oq.looksAt ops ∧ oq.dst ≠ some d)
  (h : SOpR P md ops done i oi (SOpR P md ops (i :: done) j oj K) a w) : SOpR P md ops done j oj (SOpR P md ops (j :: done) i oi K) a w := by
 have hsi : ∀ cs b, oi.op ≠ .select cs b := fun cs b => hsel i oi cs b hi
 have hsj : ∀ cs b, oj.op ≠ .select cs b := fun cs b => hsel j oj cs b hj
 obtain ⟨h1, h2, h3⟩ := Oper.apart_spec hap
 have wj : ∀ v, Region.wanted oj (yielded ops (a.put oi.dst v).tmps) = Region.wanted oj (yielded ops a.tmps) := fun v => wanted_put oj a oi.dst v h1
 have ej : ∀ v, execOp (a.put oi.dst v).eval oj = execOp a.eval oj := fun v => execOp_put oj hsj a oi.dst v h1
 have wi : ∀ u, Region.wanted oi (yielded ops (a.put oj.dst u).tmps) = Region.wanted oi (yielded ops a.tmps) := fun v => wanted_put oi a oj.dst v h3
 have ei : ∀ u, execOp (a.put oj.dst u).eval oi = execOp a.eval oi := fun v => execOp_put oi hsi a oj.dst v h3
 have pc : ∀ v u, (a.put oi.dst v).put oj.dst u = (a.put oj.dst u).put oi.dst v := fun v u => Act.put_comm a v u h2
 have chI : ∀ q ∈ done, ∀ oq, ops[q]? = some oq → okind P oq.op = 1 → ∀ (b : Act) v w', Chk P ops oq (b.put oi.dst v) w' ↔ Chk P ops oq b w' := fun q hq oq hoq hk b v w' =>
  Chk_put (hsel q oq · · hoq) (hci q hq oq hoq hk)
 have chJ : ∀ q ∈ done, ∀ oq, ops[q]? = some oq → okind P oq.op = 1 → ∀ (b : Act) v w', Chk P ops oq (b.put oj.dst v) w' ↔ Chk P ops oq b w' := fun q hq oq hoq hk b v w' =>
  Chk_put (hsel q oq · · hoq) (hcj q hq oq hoq hk)
 have reJ : ∀ v u w', Rechk P md ops (i :: done) j ((a.put oi.dst v).put oj.dst u) w' → Rechk P md ops done j (a.put oj.dst u) w' := fun v u w' hr q hq hp oq hoq => by
  obtain ⟨_, hk, _⟩ := pb_spec hoq hj hp
  have := hr q (List.mem_cons_of_mem _ hq) hp oq hoq
  rw [pc] at this
  exact (chI q hq oq hoq hk _ v w').1 this
 have reI : ∀ v u w', Rechk P md ops done i (a.put oi.dst v) w' → Rechk P md ops (j :: done) i ((a.put oj.dst u).put oi.dst v) w' := fun v u w' hr q hq hp oq hoq => by
  obtain ⟨hk2, hk, _⟩ := pb_spec hoq hi hp
  rcases List.mem_cons.1 hq with rfl | hq
  ·have : oq = oj := Option.some.inj (hoq.symm.trans hj)
   subst this
   simp [comm, hk] at hc; omega
  rw [← pc]; exact (chJ q hq oq hoq hk _ u w').2 (hr q hq hp oq hoq)
 by_cases hwi : Region.wanted oi (yielded ops a.tmps) = true
 case neg =>
  unfold SOpR at h; rw [if_neg hwi, wj] at h
  unfold SOpR
  by_cases hwj : Region.wanted oj (yielded ops a.tmps) = true
  ·rw [if_pos hwj, ej] at h; rw [if_pos hwj]
   refine runS_mono (fun u w' ⟨hr, hK⟩ => ⟨reJ undef u w' hr, ?_⟩) h
   rw [wi, if_neg hwi, ← pc]; exact hK
  rw [if_neg hwj] at h; rw [if_neg hwj, wi, if_neg hwi, ← pc]; exact h
 by_cases hwj : Region.wanted oj (yielded ops a.tmps) = true
 case neg =>
  unfold SOpR at h; rw [if_pos hwi] at h
  unfold SOpR; rw [if_neg hwj, wi, if_pos hwi, ei]
  refine runS_mono (fun v w' ⟨hr, hK⟩ => ⟨reI v undef w' hr, ?_⟩) h
  rw [wj, if_neg hwj, pc] at hK; exact hK
 by_cases ki : okind P oi.op = 0
 ·unfold SOpR at h; rw [if_pos hwi, ki] at h
  obtain ⟨v, hv, hr0, hK⟩ := h
  rw [wj, if_pos hwj, ej] at hK
  unfold SOpR; rw [if_pos hwj]
  refine runS_mono (fun u w' ⟨hr, hK'⟩ => ⟨reJ v u w' hr, ?_⟩) hK
  rw [wi, if_pos hwi, ei, ki]
  refine ⟨v, hv, fun q hq hp oq hoq => ?_, by rw [← pc]; exact hK'⟩
  obtain ⟨hk2, _⟩ := pb_spec hoq hi hp; omega
 by_cases kj : okind P oj.op = 0
 ·unfold SOpR at h; rw [if_pos hwi] at h
  obtain ⟨v0, w0, _, h0⟩ := runS_ex h
  rw [wj, if_pos hwj, ej, kj] at h0
  obtain ⟨u, hu, _⟩ := h0
  unfold SOpR; rw [if_pos hwj, kj]
  refine ⟨u, hu, fun q hq hp oq hoq => ?_, ?_⟩
  ·obtain ⟨hk2, _⟩ := pb_spec hoq hj hp; omega
  rw [wi, if_pos hwi, ei]
  refine runS_mono (fun v w' ⟨hr, hK⟩ => ⟨reI v u w' hr, ?_⟩) h
  rw [wj, if_pos hwj, ej, kj] at hK
  obtain ⟨u', hu', _, hK⟩ := hK
  have : u' = u := by have := (hu' w').symm.trans (hu w'); simpa using this
  subst this
  rw [← pc]; exact hK
 have hk : okind P oi.op = 1 := by simpa [comm, ki, kj] using hc
 unfold SOpR at h; rw [if_pos hwi, hk] at h
 obtain ⟨v, hv, _, h⟩ := h
 rw [wj, if_pos hwj, ej] at h
 unfold SOpR; rw [if_pos hwj]
 by_cases kj1 : okind P oj.op = 1
 ·rw [kj1] at h ⊢
  obtain ⟨u, hu, hr, hK⟩ := h
  refine ⟨u, hu, reJ v u w hr, ?_⟩
  rw [wi, if_pos hwi, ei, hk]
  refine ⟨v, hv, fun q hq hp oq hoq => ?_, by rw [← pc]; exact hK⟩
  obtain ⟨hk2, _⟩ := pb_spec hoq hi hp; omega
 refine runS_mono (fun u w' ⟨hr, hK⟩ => ⟨reJ v u w' hr, ?_⟩) h
 rw [wi, if_pos hwi, ei, hk]
 have hp : pb P md ops i j = true := by unfold pb; simp only [hi, hj]; simp [hk, hnd]; omega
 have hch := hr i (List.mem_cons_self ..) hp oi hi
 have hwi' : Region.wanted oi (yielded ops ((a.put oi.dst v).put oj.dst u).tmps) = true := by rw [pc, wanted_put oi _ oi.dst v (hself hk), wi]; exact hwi
 obtain ⟨v', h4, h5⟩ := hch hwi'
 rw [pc, execOp_put oi hsi _ oi.dst v (hself hk), ei] at h4
 refine ⟨v', h4, fun q hq hp oq hoq => ?_, ?_⟩
 ·obtain ⟨hk2, _⟩ := pb_spec hoq hi hp; omega
 rw [pc] at hK
 cases hd : oi.dst with
 | none => rw [hd] at hK; exact hK
 | some d =>
  have e1 := h5 d hd
  have e2 : ((a.put oi.dst v).put oj.dst u).tmps.getD d undef = v := by
   rw [pc, hd]
   have hs2 : (a.put oj.dst u).tmps.size = n := by cases oj.dst <;> simp [Act.put, hsz]
   have hlt := hdi d hd
   generalize a.put oj.dst u = b at hs2
   simp [Act.put, hs2, hlt]
  rw [e2] at e1; subst e1
  rw [hd] at hK; exact hK
def SAny (P : Program) (md : Region.Mode) (ops : Array Oper) (Q : Act → World → Prop) : Nat → Array Bool → List Nat → Act → World → Prop
 | 0, listed, _, a, w => Region.ready md ops listed = [] ∧ Q a w
 | fuel + 1, listed, done, a, w =>
  (Region.ready md ops listed = [] → Q a w) ∧ ∀ i ∈ Region.ready md ops listed, ∀ o, ops[i]? = some o → SOpR P md ops done i o (SAny P md ops Q fuel (listed.setIfInBounds i true) (i :: done)) a w
theorem not_defer {o : Oper} {ρ : Operand → Value} {w : World} {V : Value → World → Prop} (h : runS P (execOp ρ o) (okind P o.op) w V) : ∀ c, o.op ≠ .defer c := by
 intro c hc
 have hk : okind P o.op = 2 := by rw [hc]; rfl
 rw [hk] at h
 unfold runS at h
 unfold execOp at h
 rw [hc] at h
 simp only [Sem.run_bind] at h
 generalize (resolve ρ c o.type).run P w = r at h
 cases r with
 | ok d w' => simp [Result.andThen] at h
 | halt x w' => simp [Result.andThen] at h
theorem wpOp_of_SOp {ro : Option Nat} {i : Nat} {o : Oper} (ho : ops[i]? = some o) {a : Act} {w : World} {K K' : Act → World → Prop} {Q' : Exit → Act → World → Prop} (h : ∀ a w', K a w' → K' a w') (hh : SOp P ops o K a w) : wpOpIn (Fw ro) 0 P ops Q' i K' a w := by
 unfold wpOpIn
 simp only [ho]
 unfold SOp at hh
 split
 ·rename_i hw
  rw [if_pos hw] at hh
  refine ⟨fun _ _ => trivial, ?_⟩
  rw [Oper.semAt_eq _ _ _ (not_defer hh)]
  unfold runS at hh
  split at hh
  ·obtain ⟨v, hv, hK⟩ := hh; rw [hv w]; exact h _ _ hK
  ·obtain ⟨v, hv, hK⟩ := hh; rw [hv]; exact h _ _ hK
  generalize (execOp a.eval o).run P w = r at *
  cases r with
  | ok n w' =>
   cases n <;> simp only [Oper.uponIn] at hh ⊢
   case value v => exact h _ _ hh
   case skip => exact h _ _ hh
   case enter f args => exact ⟨(fun hd => by cases hd), Calls.fw (Calls.mono hh fun e w'' ⟨v, he, hv⟩ => by subst he; exact h _ _ hv) _ _⟩
   case round => exact ⟨(fun hd => by cases hd), Round1.fw (RoundIn.mono hh fun e w'' ⟨v, he, hv⟩ => by subst he; exact h _ _ hv) _ _⟩
  | halt x w' => exact hh.elim
 rename_i hw; rw [if_neg hw] at hh; exact ⟨fun _ _ => trivial, h _ _ hh⟩
theorem wpAny_of_SAny {ro : Option Nat} {Q : Act → World → Prop} {Q' : Exit → Act → World → Prop} (hQ : ∀ a w, Q a w → Q' .normal a w) : ∀ (fuel : Nat) (listed : Array Bool) (done : List Nat) (a : Act) (w : World),
  SAny P md ops Q fuel listed done a w → wpAnyIn (Fw ro) 0 P md ops Q' fuel listed a w
 | 0, _, _, _, _, h => ⟨h.1, hQ _ _ h.2⟩
 | fuel + 1, _, _, _, _, h => ⟨fun h0 => hQ _ _ (h.1 h0), fun i hi => by
   obtain ⟨_, o, ho, _⟩ := mem_ready.1 hi
   exact wpOp_of_SOp ho (fun a' w' => wpAny_of_SAny hQ fuel _ _ a' w') (SOpR_SOp (h.2 i hi o ho))⟩
structure CleanR (P : Program) (md : Region.Mode) (ops : Array Oper) (n : Nat) : Prop where
 sel : ∀ (j : Nat) (o : Oper) cs b, ops[j]? = some o → o.op ≠ .select cs b
 dst : ∀ (j : Nat) (o : Oper), ops[j]? = some o → ∀ d, o.dst = some d → d < n
 reads : ∀ (q : Nat) (oq : Oper), ops[q]? = some oq → okind P oq.op = 1 → ∀ (i : Nat) (oi : Oper), ops[i]? = some oi → (∀ d, oi.dst = some d → d ∉ oq.looksAt ops ∧ (i = q ∨ oq.dst ≠ some d)) ∨ (i ≠ q ∧ q ∈ deps md ops i)
theorem put_size {a : Act} {n : Nat} (h : a.tmps.size = n) (d : Option Tmp) (v : Value) : (a.put d v).tmps.size = n := by cases d <;> simp [Act.put, h]
theorem SOpR_done {d1 d2 : List Nat} (h : ∀ q ∈ d2, q ∈ d1) {i : Nat} {o : Oper} {K : Act → World → Prop} {a : Act} {w : World} (hh : SOpR P md ops d1 i o K a w) : SOpR P md ops d2 i o K a w := by
 unfold SOpR at *
 split
 ·rename_i hw; rw [if_pos hw] at hh; exact runS_mono (fun v w' hk => ⟨fun q hq => hk.1 q (h q hq), hk.2⟩) hh
 rename_i hw; rw [if_neg hw] at hh; exact hh
theorem SAny_done {Q : Act → World → Prop} : ∀ (fuel : Nat) (listed : Array Bool) (d1 d2 : List Nat) (a : Act) (w : World), (∀ q ∈ d2, q ∈ d1) → SAny P md ops Q fuel listed d1 a w → SAny P md ops Q fuel listed d2 a w
 | 0, _, _, _, _, _, _, h => h
 | fuel + 1, listed, d1, d2, a, w, hs, h => ⟨h.1, fun i hi o ho => SOpR_done hs (SOpR_mono (fun v w' h' => SAny_done fuel _ (i :: d1) (i :: d2) _ _ (fun q hq => by
   rcases List.mem_cons.1 hq with rfl | hq
   ·exact List.mem_cons_self ..
   ·exact List.mem_cons_of_mem _ (hs q hq)) h') (h.2 i hi o ho))⟩
theorem SAny_first {n : Nat} (hcl : CleanR P md ops n) {Q : Act → World → Prop} {i : Nat} {oi : Oper} (hi : ops[i]? = some oi) :
  ∀ (fuel : Nat) (listed : Array Bool) (done : List Nat) (a : Act) (w : World), a.tmps.size = n → Closed md ops listed → (∀ q ∈ done, listed.getD q false = true) →
   (∀ j oj, ops[j]? = some oj → j ≠ i → listed.getD j true = false → j ∉ deps md ops i → oi.apart ops oj = true ∧ comm (okind P oi.op) (okind P oj.op) = true) →
   i ∈ Region.ready md ops listed → SOpR P md ops done i oi (SAny P md ops Q fuel (listed.setIfInBounds i true) (i :: done)) a w → SAny P md ops Q (fuel + 1) listed done a w := by
 have clean : ∀ (listed : Array Bool) (done : List Nat), Closed md ops listed → (∀ q ∈ done, listed.getD q false = true) → ∀ i oi, ops[i]? = some oi → listed.getD i true = false →
   ∀ q ∈ done, ∀ oq, ops[q]? = some oq → okind P oq.op = 1 → ∀ d, oi.dst = some d → d ∉ oq.looksAt ops ∧ oq.dst ≠ some d := by
  intro listed done hc hd i oi hi hun q hq oq hoq hk d hdi
  have hqi : i ≠ q := fun e => by subst e; have := hd _ hq; rw [unl hun] at this; cases this
  rcases hcl.reads q oq hoq hk i oi hi with h | ⟨_, h⟩
  ·exact ⟨(h d hdi).1, (h d hdi).2.resolve_left hqi⟩
  have := deps_unlisted hc (unl hun) h; rw [hd _ hq] at this; cases this
 intro fuel
 induction fuel with
 | zero =>
  intro listed done a w hsz hc hd _ hr H
  refine ⟨fun h => (by rw [h] at hr; cases hr), fun j hj oj hoj => ?_⟩
  by_cases hji : j = i
  ·subst hji
   have : oj = oi := Option.some.inj (hoj.symm.trans hi)
   subst this; exact H
  have := ready_mono hj hji
  obtain ⟨_, _, h0⟩ := SOp_ex (SOpR_SOp H)
  rw [h0.1] at this
  cases this
 | succ fuel ih =>
  intro listed done a w hsz hc hd hfree hr H
  refine ⟨fun h => (by rw [h] at hr; cases hr), fun j hj oj hoj => ?_⟩
  by_cases hji : j = i
  ·subst hji
   have : oj = oi := Option.some.inj (hoj.symm.trans hi)
   subst this; exact H
  obtain ⟨hjun, _⟩ := mem_ready.1 hj
  obtain ⟨hiun, _⟩ := mem_ready.1 hr
  have hnd : j ∉ deps md ops i := fun h => deps_not_ready hc (unl hiun) h hji hj
  obtain ⟨hap, hcm⟩ := hfree j oj hoj hji hjun hnd
  have hH : SOpR P md ops done i oi (SOpR P md ops (i :: done) j oj (SAny P md ops Q fuel ((listed.setIfInBounds i true).setIfInBounds j true) (j :: i :: done))) a w :=
   SOpR_mono (fun v w' h => h.2 j (ready_mono hj hji) oj hoj) H
  have hself : okind P oi.op = 1 → ∀ d, oi.dst = some d → d ∉ oi.looksAt ops := fun hk d hd' => by
   rcases hcl.reads i oi hi hk i oi hi with h | ⟨h, _⟩
   ·exact (h d hd').1
   exact absurd rfl h
  have hS := SOpR_swap hi hoj hap hcl.sel hcm hnd hself (hcl.dst i oi hi) hsz (clean listed done hc hd i oi hi hiun) (clean listed done hc hd j oj hoj hjun) hH
  have hfree' : ∀ k ok, ops[k]? = some ok → k ≠ i → (listed.setIfInBounds j true).getD k true = false → k ∉ deps md ops i →
    oi.apart ops ok = true ∧ comm (okind P oi.op) (okind P ok.op) = true := fun k ok hk hki hun hno => by
   refine hfree k ok hk hki ?_ hno
   by_cases hjk : j = k
   ·subst hjk; exact hjun
   rw [getD_set_ne true hjk] at hun; exact hun
  have hd' : ∀ q ∈ j :: done, (listed.setIfInBounds j true).getD q false = true := fun q hq => by
   rcases List.mem_cons.1 hq with rfl | hq
   ·have hlt : q < listed.size := by rw [hc.size]; exact (Array.getElem?_eq_some_iff.1 hoj).1
    simp [hlt]
   exact getD_set_true (hd q hq)
  refine SOpR_mono (fun u w' h => ?_) hS
  refine ih (listed.setIfInBounds j true) (j :: done) _ w' (put_size hsz _ _) (hc.set hj) hd' hfree' (ready_mono hr (Ne.symm hji)) ?_
  rw [Array.setIfInBounds_comm _ _ hji]
  refine SOpR_mono (fun v w'' h => ?_) h
  exact SAny_done fuel _ (j :: i :: done) (i :: j :: done) _ _ (fun q hq => by simp at hq ⊢; rcases hq with h | h | h <;> simp [h]) h
def SL (P : Program) (ops : Array Oper) (Q : Act → World → Prop) : List Nat → List Nat → Act → World → Prop
 | _, [] => Q
 | done, i :: r => fun a w => match ops[i]? with
  | none => False
  | some o => SOpR P .any ops done i o (SL P ops Q (i :: done) r) a w
def freeP (P : Program) (ops : Array Oper) (listed : Array Bool) (i : Nat) : Bool :=
 (List.range ops.size).all fun j => j == i || listed.getD j true || (deps .any ops i).contains j ||
  (match ops[i]?, ops[j]? with
   | some oi, some oj => oi.apart ops oj && comm (okind P oi.op) (okind P oj.op)
   | _, _ => false)
def lexP (P : Program) (ops : Array Oper) : List Nat → Array Bool → Bool
 | [], listed => (Region.ready .any ops listed).isEmpty
 | i :: r, listed => (Region.ready .any ops listed).contains i && freeP P ops listed i && lexP P ops r (listed.setIfInBounds i true)
def dstB (n : Nat) (ops : Array Oper) : Bool := ops.all fun o => match o.dst with | some d => Nat.blt d n | none => true
def readsB (P : Program) (ops : Array Oper) : Bool :=
 (List.range ops.size).all fun q => match ops[q]? with
  | some oq => !(okind P oq.op == 1) || (List.range ops.size).all fun i => match ops[i]? with
   | some oi => (match oi.dst with
    | some d => (!(oq.looksAt ops).contains d && (i == q || !(oq.dst == some d))) || (!(i == q) && (deps .any ops i).contains q)
    | none => true)
   | none => true
  | none => true
def regB (P : Program) (ops : Array Oper) (n : Nat) (perm : List Nat) : Bool :=
 Region.noSelect ops && dstB n ops && readsB P ops && perm.length == ops.size && lexP P ops perm (Array.replicate ops.size false)
theorem clean_of {n : Nat} (h1 : Region.noSelect ops = true) (h2 : dstB n ops = true) (h3 : readsB P ops = true) : CleanR P .any ops n where
 sel := Region.noSelect_spec h1
 dst := fun j o ho d hd => by
  have := Array.all_eq_true_iff_forall_mem.1 h2 o (Array.mem_of_getElem? ho)
  rw [hd] at this; simpa using this
 reads := fun q oq hq hk i oi hi => by
  have hql : q < ops.size := (Array.getElem?_eq_some_iff.1 hq).1
  have hil : i < ops.size := (Array.getElem?_eq_some_iff.1 hi).1
  have a1 := List.all_eq_true.1 h3 q (List.mem_range.2 hql)
  simp only [hq, hk, beq_self_eq_true, Bool.not_true, Bool.false_or] at a1
  have a2 := List.all_eq_true.1 a1 i (List.mem_range.2 hil)
  simp only [hi] at a2
  cases hd : oi.dst with
  | none => exact .inl fun d h => by cases h
  | some d =>
   simp only [hd, Bool.or_eq_true, Bool.and_eq_true, Bool.not_eq_true', beq_iff_eq, List.contains_iff_mem, beq_eq_false_iff_ne] at a2
   rcases a2 with ⟨h4, h5⟩ | ⟨h4, h5⟩
   ·refine .inl fun d' hd' => ?_
    cases hd'
    refine ⟨fun hm => ?_, h5⟩
    have : (oq.looksAt ops).contains d = true := List.contains_iff_mem.2 hm
    rw [this] at h4; cases h4
   exact .inr ⟨h4, h5⟩
theorem SAny_lex {n : Nat} (hcl : CleanR P .any ops n) {Q : Act → World → Prop} : ∀ (perm : List Nat) (listed : Array Bool) (done : List Nat) (a : Act) (w : World), a.tmps.size = n → Closed .any ops listed →
  (∀ q ∈ done, listed.getD q false = true) → lexP P ops perm listed = true → SL P ops Q done perm a w → SAny P .any ops Q perm.length listed done a w
 | [], _, _, _, _, _, _, _, hB, h => ⟨by simpa [lexP] using hB, h⟩
 | i :: r, listed, done, a, w, hsz, hc, hd, hB, h => by
  simp only [lexP, Bool.and_eq_true] at hB
  obtain ⟨⟨hr, hf⟩, hB'⟩ := hB
  have hr' : i ∈ Region.ready .any ops listed := by simpa using hr
  obtain ⟨_, oi, hoi, _⟩ := mem_ready.1 hr'
  simp only [SL, hoi] at h
  refine SAny_first hcl hoi r.length listed done a w hsz hc hd (fun j oj hj hji hun hnd => ?_) hr' ?_
  ·have hlt : j < ops.size := (Array.getElem?_eq_some_iff.1 hj).1
   have h1 := List.all_eq_true.1 hf j (List.mem_range.2 hlt)
   have hb : (j == i) = false := by simpa using hji
   have hb2 : (deps .any ops i).contains j = false := by
    cases hx : (deps .any ops i).contains j with
    | false => rfl
    | true => exact absurd (List.contains_iff_mem.1 hx) hnd
   simp only [hb, hun, hb2, Bool.false_or, hoi, hj, Bool.and_eq_true] at h1
   exact h1
  refine SOpR_mono (fun v w' h' => SAny_lex hcl r _ _ _ _ (put_size hsz _ _) (hc.set hr') (fun q hq => ?_) hB' h') h
  rcases List.mem_cons.1 hq with rfl | hq
  ·have hlt : q < listed.size := by rw [hc.size]; exact (Array.getElem?_eq_some_iff.1 hoi).1
   simp [hlt]
  exact getD_set_true (hd q hq)
theorem wp_region_text {ro : Option Nat} {n : Nat} (perm : List Nat) {id : Nat} {Q : Exit → Act → World → Prop} {a : Act} {w : World} (hm : P.follows .mixedOrders = true) (hB : regB P ops n perm = true) (hsz : a.tmps.size = n)
  (h : SL P ops (Q .normal) [] perm a { w with drawn := w.drawn + 1 }) : (Code.region id ops true).wpIn (Fw ro) 0 P Q a w := by
 simp only [regB, Bool.and_eq_true, beq_iff_eq] at hB
 obtain ⟨⟨⟨⟨h1, h2⟩, h3⟩, h4⟩, h5⟩ := hB
 refine wpIn_region_any hm (wpAny_of_SAny (Q := Q .normal) (fun _ _ h => h) _ _ [] _ _ ?_)
 rw [← h4] at h5 ⊢
 refine SAny_lex (clean_of h1 h2 h3) perm _ [] a _ hsz ⟨by simp [h4], fun j o ho hl => ?_⟩ (fun q hq => by cases hq) h5 h
 exfalso
 rcases Nat.lt_or_ge j perm.length with h' | h'
 ·simp [h'] at hl
 simp [Array.getElem?_eq_none (show (Array.replicate perm.length false).size ≤ j by simpa using h')] at hl
def SN (P : Program) (ops : Array Oper) (Q : Act → World → Prop) : List Nat → Act → World → Prop
 | [] => Q
 | i :: r => fun a w => match ops[i]? with
  | none => False
  | some o => SOp P ops o (SN P ops Q r) a w
theorem wpOps_of_SN {ro : Option Nat} {Q : Exit → Act → World → Prop} : ∀ (l : List Nat) (a : Act) (w : World), SN P ops (Q .normal) l a w → wpOpsIn (Fw ro) 0 P ops Q l a w
 | [], _, _, h => h
 | i :: r, a, w, h => by
  rw [wpOpsIn_cons]
  simp only [SN] at h
  cases ho : ops[i]? with
  | none => rw [ho] at h; exact h.elim
  | some o =>
   rw [ho] at h
   exact wpOp_of_SOp ho (fun a' w' h' => wpOps_of_SN r a' w' h') h
theorem wp_region_plain {ro : Option Nat} {id : Nat} {Q : Exit → Act → World → Prop} {a : Act} {w : World} (h : SN P ops (Q .normal) (List.range ops.size) a w) : (Code.region id ops false).wpIn (Fw ro) 0 P Q a w :=
 wpIn_region (wpOps_of_SN _ a w h)
end
abbrev Env := List (Nat × Value)
def get : Env → Nat → Option Value
 | [], _ => none
 | (k, v) :: r, t => cond (Nat.beq k t && !Nat.beq t 1000000000) (some v) (get r t)
def marks : Env → List Value
 | [] => []
 | (k, v) :: r => cond (Nat.beq k 1000000000) (v :: marks r) (marks r)
def dfr : Value → Deferred
 | .pointer (some a) => { target := .collected a.block, args := #[] }
 | .func fn first captured => { target := .fn fn captured, args := first }
 | _ => { target := .nil, args := #[] }
theorem beq_no {k t : Nat} (h : k ≠ t) : Nat.beq k t = false := by cases hb : Nat.beq k t with | false => rfl | true => exact absurd (Nat.eq_of_beq_eq_true hb) h
theorem get_mk {e : Env} {v : Value} {t : Nat} (h : get e t = some v) : t ≠ 1000000000 := by
 induction e with
 | nil => cases h
 | cons x r ih =>
  obtain ⟨k, u⟩ := x
  rintro rfl
  simp only [get, Nat.beq_refl, Bool.not_true, Bool.and_false, cond] at h
  exact ih h rfl
theorem get_cons {e : Env} {k t : Nat} {u v : Value} (h : get ((k, u) :: e) t = some v) : (k = t ∧ u = v) ∨ (k ≠ t ∧ get e t = some v) := by
 have ht := get_mk h
 simp only [get, beq_no ht, Bool.not_false, Bool.and_true] at h
 by_cases hk : k = t
 ·subst hk; simp at h; exact .inl ⟨rfl, h⟩
 rw [beq_no hk] at h; exact .inr ⟨hk, h⟩
theorem marks_cons {e : Env} {k : Nat} {v : Value} (h : k ≠ 1000000000) : marks ((k, v) :: e) = marks e := by simp only [marks, beq_no h, cond]
def ev (e : Env) : Operand → Option Value
 | .tmp t => get e t
 | .const v => some v
 | .global g => some (.pointer (some ⟨g, 0, none⟩))
 | .func f => some (.func (.func f) #[] #[])
def putE (e : Env) : Option Tmp → Value → Env
 | some d, v => (d, v) :: e
 | none, _ => e
structure Agree (n : Nat) (e : Env) (a : Act) : Prop where
 defers : a.defers = (marks e).map dfr
 size : a.tmps.size = n
 small : n ≤ 1000000
 get : ∀ t v, get e t = some v → a.tmps.getD t undef = v
def SubG (e' e : Env) : Prop := ∀ t v, get e' t = some v → get e t = some v
theorem SubG.nil (e : Env) : SubG [] e := fun _ _ h => by cases h
theorem SubG.mark {e' e : Env} {v : Value} (h : SubG e' e) : SubG ((1000000000, v) :: e') e := fun t u hu => by
 rcases get_cons hu with ⟨h1, _⟩ | ⟨_, h2⟩
 ·exact absurd h1.symm (get_mk hu)
 exact h t u h2
theorem SubG.cons {e' e : Env} {k : Nat} {v : Value} (h : X.get e k = some v) (h' : SubG e' e) : SubG ((k, v) :: e') e := fun t u hu => by
 rcases get_cons hu with ⟨rfl, rfl⟩ | ⟨_, h2⟩
 ·exact h
 exact h' t u h2
structure Sub (e' e : Env) : Prop where
 get : SubG e' e
 marks : marks e' = marks e
theorem Sub.refl (e : Env) : Sub e e := ⟨fun _ _ h => h, rfl⟩
theorem Sub.cons {e' e : Env} {k : Nat} {v : Value} (h : X.get e k = some v) (h' : Sub e' e) : Sub ((k, v) :: e') e := ⟨SubG.cons h h'.get, (marks_cons (get_mk h)).trans h'.marks⟩
theorem Agree.sub {n : Nat} {e e' : Env} {a : Act} (h : Agree n e a) (hs : Sub e' e) : Agree n e' a := ⟨by rw [hs.marks]; exact h.defers, h.size, h.small, fun t v hv => h.get t v (hs.get t v hv)⟩
theorem Agree.put {n : Nat} {e : Env} {a : Act} (h : Agree n e a) {d : Nat} (hd : d < n) (v : Value) : Agree n ((d, v) :: e) (a.put (some d) v) := by
 have hs := h.small
 refine ⟨by rw [marks_cons (by omega)]; exact h.defers, by simp [Act.put, h.size], hs, fun t u hu => ?_⟩
 rcases get_cons hu with ⟨rfl, rfl⟩ | ⟨hk, hu⟩
 ·simp [Act.put, h.size, hd]
 have := h.get t u hu
 simp only [Act.put, Array.getD_eq_getD_getElem?, Array.getElem?_setIfInBounds_ne hk]
 simpa using this
theorem Agree.ev {n : Nat} {e : Env} {a : Act} (h : Agree n e a) {x : Operand} {v : Value} (hx : X.ev e x = some v) : a.eval x = v := by
 cases x with
 | tmp t => exact h.get t v hx
 | _ => simp [X.ev] at hx; simp [Act.eval, hx]
def dstOk (n : Nat) (o : Oper) : Bool := (match o.dst with | some d => Nat.blt d n | none => true) && (match o.op with | .select .. => false | _ => true)
theorem dstOk_sel {n : Nat} {o : Oper} (h : dstOk n o = true) : ∀ cs b, o.op ≠ .select cs b := by
 intro cs b he; unfold dstOk at h; rw [he] at h; simp at h
theorem Agree.putE {n : Nat} {e : Env} {a : Act} (h : Agree n e a) {o : Oper} (ho : dstOk n o = true) (v : Value) : Agree n (X.putE e o.dst v) (a.put o.dst v) := by
 unfold dstOk at ho
 cases hd : o.dst with
 | none => exact h
 | some d => rw [hd] at ho; simp only [Bool.and_eq_true] at ho; exact h.put (by simpa using ho.1) v
def XL (P : Program) (n : Nat) (ops : Array Oper) (dr : Bool) (done l : List Nat) (K : Env → World → Prop) (e : Env) (w : World) : Prop :=
 ∀ a, Agree n e a → cond dr (SL P ops (fun a' w' => ∃ e', Agree n e' a' ∧ K e' w') done l a w) (SN P ops (fun a' w' => ∃ e', Agree n e' a' ∧ K e' w') l a w)
def Gd (ops : Array Oper) (e : Env) : Option (Nat × Bool) → Prop
 | none => True
 | some (j, want) => ∃ d, (ops[j]?).bind (·.dst) = some d ∧ get e d = some (.bool want)
def pend (P : Program) (ops : Array Oper) (dr : Bool) (done : List Nat) (i : Nat) : List Nat := cond dr (done.filter fun q => pb P .any ops q i) []
def ChkE (P : Program) (n : Nat) (ops : Array Oper) (q : Nat) (e : Env) (w : World) : Prop := ∀ o, ops[q]? = some o → ∀ a, Agree n e a → Chk P ops o a w
section
variable {P : Program} {n : Nat} {ops : Array Oper} {dr : Bool} {done r : List Nat} {K : Env → World → Prop} {e : Env} {w : World} {o : Oper}
theorem xl_nil (h : K e w) : XL P n ops dr done [] K e w := fun a ha => by cases dr <;> exact ⟨e, ha, h⟩
theorem SN_mono {Q Q' : Act → World → Prop} (h : ∀ a w, Q a w → Q' a w) : ∀ (l : List Nat) (a : Act) (w : World), SN P ops Q l a w → SN P ops Q' l a w
 | [], a, w, hh => h a w hh
 | i :: l, a, w, hh => by
  simp only [SN] at hh ⊢
  split
  ·rename_i ho; rw [ho] at hh; exact hh
  rename_i o ho; rw [ho] at hh; exact SOp_mono (fun v w' => SN_mono h l _ w') hh
theorem SL_mono {Q Q' : Act → World → Prop} (h : ∀ a w, Q a w → Q' a w) : ∀ (l done : List Nat) (a : Act) (w : World), SL P ops Q done l a w → SL P ops Q' done l a w
 | [], _, a, w, hh => h a w hh
 | i :: l, done, a, w, hh => by
  simp only [SL] at hh ⊢
  split
  ·rename_i ho; rw [ho] at hh; exact hh
  rename_i o ho; rw [ho] at hh; exact SOpR_mono (fun v w' => SL_mono h l _ _ w') hh
theorem xl_weaken {e' : Env} (hs : Sub e' e) (h : XL P n ops dr done r K e' w) : XL P n ops dr done r K e w := fun a ha => h a (ha.sub hs)
theorem yielded_of {a : Act} (ha : Agree n e a) {j d : Nat} (hj : (ops[j]?).bind (·.dst) = some d) {b : Bool} (hd : get e d = some (.bool b)) : yielded ops a.tmps j = some b := by
 have h1 := ha.get d _ hd
 unfold yielded
 rw [hj]
 have h2 : a.tmps[d]? = some (.bool b) := by
  cases h3 : a.tmps[d]? with
  | none => simp [Array.getD_eq_getD_getElem?, h3, undef] at h1
  | some v => simp [Array.getD_eq_getD_getElem?, h3] at h1; rw [h1]
 simp [h2]
theorem yielded_not {a : Act} (ha : Agree n e a) {j d : Nat} (hj : (ops[j]?).bind (·.dst) = some d) (hd : get e d = some undef) : yielded ops a.tmps j = none := by
 have h1 := ha.get d _ hd
 unfold yielded
 rw [hj]
 cases h3 : a.tmps[d]? with
 | none => simp [h3]
 | some v => simp [Array.getD_eq_getD_getElem?, h3] at h1; simp [h3, h1, undef]
theorem wanted_of {a : Act} (ha : Agree n e a) (hg : Gd ops e o.guard) : Region.wanted o (yielded ops a.tmps) = true := by
 unfold Region.wanted
 cases hgd : o.guard with
 | none => rfl
 | some jw =>
  obtain ⟨j, want⟩ := jw
  rw [hgd] at hg
  obtain ⟨d, h1, h2⟩ := hg
  simp [yielded_of ha h1 h2]
theorem xl_step {i : Nat} (ho : ops[i]? = some o) (hd : dstOk n o = true) (hg : Gd ops e o.guard) {ρ : Operand → Value} (hρ : ∀ x ∈ o.op.operands, ev e x = some (ρ x))
  (h : runS P (execOp ρ o) (okind P o.op) w fun v w' => (∀ q ∈ pend P ops dr done i, ChkE P n ops q (putE e o.dst v) w') ∧ XL P n ops dr (i :: done) r K (putE e o.dst v) w') :
  XL P n ops dr done (i :: r) K e w := by
 intro a ha
 have he : execOp a.eval o = execOp ρ o := execOp_congr o (dstOk_sel hd) fun x hx => ha.ev (hρ x hx)
 cases dr
 ·simp only [SN, ho, cond]
  unfold SOp
  rw [if_pos (wanted_of ha hg), he]
  exact runS_mono (fun v w' h' => h'.2 _ (ha.putE hd v)) h
 simp only [SL, ho, cond]
 unfold SOpR
 rw [if_pos (wanted_of ha hg), he]
 refine runS_mono (fun v w' h' => ⟨fun q hq hb oq hoq => h'.1 q (List.mem_filter.2 ⟨hq, hb⟩) oq hoq _ (ha.putE hd v), h'.2 _ (ha.putE hd v)⟩) h
theorem xl_pure {i : Nat} (ho : ops[i]? = some o) (hd : dstOk n o = true) (hg : Gd ops e o.guard) {ρ : Operand → Value} (hρ : ∀ x ∈ o.op.operands, ev e x = some (ρ x)) (hk : okind P o.op = 0) {v : Value}
  (hv : ∀ w', (execOp ρ o).run P w' = .ok (.value v) w') (h : XL P n ops dr (i :: done) r K (putE e o.dst v) w) : XL P n ops dr done (i :: r) K e w := by
 refine xl_step ho hd hg hρ ?_
 rw [hk]
 refine ⟨v, hv, fun q hq => ?_, h⟩
 cases dr
 ·cases hq
 obtain ⟨_, hb⟩ := List.mem_filter.1 hq
 unfold pb at hb
 rw [ho] at hb
 split at hb
 ·rename_i oq oi h1 h2; cases h2; simp [hk] at hb
 cases hb
theorem xl_read {i : Nat} (ho : ops[i]? = some o) (hd : dstOk n o = true) (hg : Gd ops e o.guard) {ρ : Operand → Value} (hρ : ∀ x ∈ o.op.operands, ev e x = some (ρ x)) (hk : okind P o.op = 1) {v : Value}
  (hv : (execOp ρ o).run P w = .ok (.value v) w) (h : XL P n ops dr (i :: done) r K (putE e o.dst v) w) : XL P n ops dr done (i :: r) K e w := by
 refine xl_step ho hd hg hρ ?_
 rw [hk]
 refine ⟨v, hv, fun q hq => ?_, h⟩
 cases dr
 ·cases hq
 obtain ⟨_, hb⟩ := List.mem_filter.1 hq
 unfold pb at hb
 rw [ho] at hb
 split at hb
 ·rename_i oq oi h1 h2; cases h2; simp [hk] at hb
 cases hb
theorem xl_eff {i : Nat} (ho : ops[i]? = some o) (hd : dstOk n o = true) (hg : Gd ops e o.guard) {ρ : Operand → Value} (hρ : ∀ x ∈ o.op.operands, ev e x = some (ρ x)) (hk : okind P o.op = 2) {v : Value} {w' : World}
  (hv : (execOp ρ o).run P w = .ok (.value v) w') (hp : ∀ q ∈ pend P ops dr done i, ChkE P n ops q (putE e o.dst v) w') (h : XL P n ops dr (i :: done) r K (putE e o.dst v) w') : XL P n ops dr done (i :: r) K e w := by
 refine xl_step ho hd hg hρ ?_
 rw [hk]
 show match (execOp ρ o).run P w with | _ => _
 unfold runS
 rw [hv]
 exact ⟨hp, h⟩
theorem xl_effu {i : Nat} (ho : ops[i]? = some o) (hd : dstOk n o = true) (hg : Gd ops e o.guard) {ρ : Operand → Value} (hρ : ∀ x ∈ o.op.operands, ev e x = some (ρ x)) (hk : okind P o.op = 2) {w' : World}
  (hv : (execOp ρ o).run P w = .ok .skip w') (hp : ∀ q ∈ pend P ops dr done i, ChkE P n ops q (putE e o.dst undef) w') (h : XL P n ops dr (i :: done) r K (putE e o.dst undef) w') : XL P n ops dr done (i :: r) K e w := by
 refine xl_step ho hd hg hρ ?_
 rw [hk]
 unfold runS
 rw [hv]
 exact ⟨hp, h⟩
theorem xl_call {i : Nat} (ho : ops[i]? = some o) (hd : dstOk n o = true) (hg : Gd ops e o.guard) {ρ : Operand → Value} (hρ : ∀ x ∈ o.op.operands, ev e x = some (ρ x)) (hk : okind P o.op = 2) {f : FuncId} {args : Array Value}
  (hv : (execOp ρ o).run P w = .ok (.enter f args) w) {R : Value → World → Prop} (hc : Calls P f args w (Ret R))
  (h : ∀ v w', R v w' → (∀ q ∈ pend P ops dr done i, ChkE P n ops q (putE e o.dst v) w') ∧ XL P n ops dr (i :: done) r K (putE e o.dst v) w') : XL P n ops dr done (i :: r) K e w := by
 refine xl_step ho hd hg hρ ?_
 rw [hk]
 unfold runS
 rw [hv]
 exact hc.mono fun e w' ⟨v, he, hR⟩ => ⟨v, he, h v w' hR⟩
theorem xl_no {i j d : Nat} {want b : Bool} (ho : ops[i]? = some o) (hd : dstOk n o = true) (hg : o.guard = some (j, want)) (hj : (ops[j]?).bind (·.dst) = some d) (hv : get e d = some (.bool b)) (hb : b = !want)
  (h : XL P n ops dr (i :: done) r K (putE e o.dst undef) w) : XL P n ops dr done (i :: r) K e w := by
 intro a ha
 have hw : Region.wanted o (yielded ops a.tmps) = false := by simp [Region.wanted, hg, yielded_of ha hj hv, hb]
 cases dr
 ·simp only [SN, ho, cond]
  unfold SOp; rw [if_neg (by simp [hw])]
  exact h _ (ha.putE hd undef)
 simp only [SL, ho, cond]
 unfold SOpR; rw [if_neg (by simp [hw])]
 exact h _ (ha.putE hd undef)
theorem xl_none {i j d : Nat} {want : Bool} (ho : ops[i]? = some o) (hd : dstOk n o = true) (hg : o.guard = some (j, want)) (hj : (ops[j]?).bind (·.dst) = some d) (hv : get e d = some undef)
  (h : XL P n ops dr (i :: done) r K (putE e o.dst undef) w) : XL P n ops dr done (i :: r) K e w := by
 intro a ha
 have hw : Region.wanted o (yielded ops a.tmps) = false := by simp [Region.wanted, hg, yielded_not ha hj hv]
 cases dr
 ·simp only [SN, ho, cond]
  unfold SOp; rw [if_neg (by simp [hw])]
  exact h _ (ha.putE hd undef)
 simp only [SL, ho, cond]
 unfold SOpR; rw [if_neg (by simp [hw])]
 exact h _ (ha.putE hd undef)
theorem SN_app {Q : Act → World → Prop} : ∀ (l1 l2 : List Nat) (a : Act) (w : World), SN P ops (SN P ops Q l2) l1 a w → SN P ops Q (l1 ++ l2) a w
 | [], _, _, _, h => h
 | i :: l1, l2, a, w, h => by
  simp only [SN, List.cons_append] at h ⊢
  split
  ·rename_i ho; rw [ho] at h; exact h
  rename_i o ho; rw [ho] at h; exact SOp_mono (fun v w' => SN_app l1 l2 _ w') h
theorem SL_app {Q : Act → World → Prop} : ∀ (l1 l2 done : List Nat) (a : Act) (w : World), SL P ops (SL P ops Q (l1.reverse ++ done) l2) done l1 a w → SL P ops Q done (l1 ++ l2) a w
 | [], _, _, _, _, h => h
 | i :: l1, l2, done, a, w, h => by
  simp only [SL, List.cons_append, List.reverse_cons, List.append_assoc, List.nil_append] at h ⊢
  split
  ·rename_i ho; rw [ho] at h; exact h
  rename_i o ho; rw [ho] at h; exact SOpR_mono (fun v w' => SL_app l1 l2 _ _ w') h
structure Kp (S : List Nat) (a a' : Act) : Prop where
 defers : a'.defers = a.defers
 size : a'.tmps.size = a.tmps.size
 same : ∀ t, S.contains t = false → a'.tmps.getD t undef = a.tmps.getD t undef
theorem Kp.refl (S : List Nat) (a : Act) : Kp S a a := ⟨rfl, rfl, fun _ _ => rfl⟩
theorem Kp.trans {S : List Nat} {a b c : Act} (h : Kp S a b) (h' : Kp S b c) : Kp S a c := ⟨h'.defers.trans h.defers, h'.size.trans h.size, fun t ht => (h'.same t ht).trans (h.same t ht)⟩
theorem Kp.put {S : List Nat} {a : Act} {d : Option Tmp} (v : Value) (h : ∀ t, d = some t → S.contains t = true) : Kp S a (a.put d v) := by
 cases d with
 | none => exact Kp.refl S a
 | some t =>
  refine ⟨rfl, by simp [Act.put], fun u hu => ?_⟩
  have hne : t ≠ u := fun e => by subst e; rw [h t rfl] at hu; cases hu
  simp [Act.put, Array.getElem?_setIfInBounds_ne hne]
def dsts (ops : Array Oper) (l : List Nat) : List Nat := l.filterMap fun i => (ops[i]?).bind (·.dst)
theorem dsts_mem {l : List Nat} {i : Nat} {o : Oper} (hi : i ∈ l) (ho : ops[i]? = some o) : ∀ t, o.dst = some t → (dsts ops l).contains t = true := fun t ht => by
 rw [List.contains_iff_mem]
 exact List.mem_filterMap.2 ⟨i, hi, by rw [ho]; exact ht⟩
theorem SN_keep {Q : Act → World → Prop} {S : List Nat} : ∀ (l : List Nat) (a : Act) (w : World), (∀ i ∈ l, ∀ o, ops[i]? = some o → ∀ t, o.dst = some t → S.contains t = true) → SN P ops Q l a w → SN P ops (fun a' w' => Q a' w' ∧ Kp S a a') l a w
 | [], a, w, _, h => ⟨h, Kp.refl S a⟩
 | i :: l, a, w, hS, h => by
  simp only [SN] at h ⊢
  split
  ·rename_i ho; rw [ho] at h; exact h
  rename_i o ho
  rw [ho] at h
  exact SOp_mono (fun v w' hx => SN_mono (fun a' w'' hy => ⟨hy.1, (Kp.put v (hS i (List.mem_cons_self ..) o ho)).trans hy.2⟩) _ _ _ (SN_keep l _ w' (fun j hj => hS j (List.mem_cons_of_mem _ hj)) hx)) h
theorem SL_keep {Q : Act → World → Prop} {S : List Nat} : ∀ (l done : List Nat) (a : Act) (w : World), (∀ i ∈ l, ∀ o, ops[i]? = some o → ∀ t, o.dst = some t → S.contains t = true) → SL P ops Q done l a w → SL P ops (fun a' w' => Q a' w' ∧ Kp S a a') done l a w
 | [], _, a, w, _, h => ⟨h, Kp.refl S a⟩
 | i :: l, done, a, w, hS, h => by
  simp only [SL] at h ⊢
  split
  ·rename_i ho; rw [ho] at h; exact h
  rename_i o ho
  rw [ho] at h
  exact SOpR_mono (fun v w' hx => SL_mono (fun a' w'' hy => ⟨hy.1, (Kp.put v (hS i (List.mem_cons_self ..) o ho)).trans hy.2⟩) _ _ _ _ (SL_keep l _ _ w' (fun j hj => hS j (List.mem_cons_of_mem _ hj)) hx)) h
def freshE (S : List Nat) (e : Env) : Bool := e.all fun x => !S.contains x.1
theorem freshE_get {S : List Nat} {e : Env} {t : Nat} {v : Value} (h : freshE S e = true) (hg : get e t = some v) : S.contains t = false := by
 induction e with
 | nil => cases hg
 | cons x r ih =>
  obtain ⟨k, u⟩ := x
  simp only [freshE, List.all_cons, Bool.and_eq_true] at h
  rcases get_cons hg with ⟨rfl, _⟩ | ⟨_, hg⟩
  ·simpa using h.1
  exact ih h.2 hg
theorem xl_and {l l1 l2 : List Nat} (hl : l = l1 ++ l2) {d : Nat} (q : Prop) [Decidable q] (hf : freshE (dsts ops l1) e = true) (h1 : XL P n ops dr done l1 (fun e' w' => w' = w ∧ get e' d = some (.bool (decide q))) e w)
  (h2 : XL P n ops dr (l1.reverse ++ done) l2 K ((d, .bool (decide q)) :: e) w) : XL P n ops dr done l K e w := by
 subst hl
 intro a ha
 have h := h1 a ha
 have key : ∀ (a' : Act) (w' : World), (∃ e', Agree n e' a' ∧ w' = w ∧ get e' d = some (.bool (decide q))) → Kp (dsts ops l1) a a' → Agree n ((d, .bool (decide q)) :: e) a' ∧ w' = w := fun a' w' ⟨e', ha', hw, hg⟩ hk => by
  refine ⟨⟨by rw [marks_cons (get_mk hg), hk.defers]; exact ha.defers, hk.size.trans ha.size, ha.small, fun t v hv => ?_⟩, hw⟩
  rcases get_cons hv with ⟨rfl, rfl⟩ | ⟨_, hv⟩
  ·exact ha'.get _ _ hg
  rw [hk.same t (freshE_get hf hv)]; exact ha.get t v hv
 have hS : ∀ i ∈ l1, ∀ o, ops[i]? = some o → ∀ t, o.dst = some t → (dsts ops l1).contains t = true := fun i hi o ho => dsts_mem hi ho
 cases dr
 ·exact SN_app l1 l2 a w (SN_mono (fun a' w' hx => by obtain ⟨h3, rfl⟩ := key a' w' hx.1 hx.2; exact h2 a' h3) _ _ _ (SN_keep _ _ _ hS h))
 exact SL_app l1 l2 done a w (SL_mono (fun a' w' hx => by obtain ⟨h3, rfl⟩ := key a' w' hx.1 hx.2; exact h2 a' h3) _ _ _ _ (SL_keep _ _ _ _ hS h))
theorem xl_split {d : Nat} {p : Prop} [Decidable p] (hv : get e d = some (.bool (decide p))) (ht : p → XL P n ops dr done r K ((d, .bool true) :: e) w) (hf : ¬ p → XL P n ops dr done r K ((d, .bool false) :: e) w) :
  XL P n ops dr done r K e w := by
 by_cases hp : p
 ·exact xl_weaken (Sub.cons (by rw [hv]; simp [hp]) (Sub.refl e)) (ht hp)
 exact xl_weaken (Sub.cons (by rw [hv]; simp [hp]) (Sub.refl e)) (hf hp)
end
abbrev Cont := Env → World → Prop
def extOf : List (Nat × Cont) → Nat → Option Cont
 | [], _ => none
 | (k, K) :: r, t => cond (Nat.beq k t) (some K) (extOf r t)
def outAt (K : Cont) (E : List (Nat × Cont)) (F : Cont) (n : Nat) : Exit → Act → World → Prop
 | .normal, a, w => ∃ e, Agree n e a ∧ K e w
 | .ret, a, w => ∃ e, Agree n e a ∧ F e w
 | .exit id, a, w => ∃ K', extOf E id = some K' ∧ ∃ e, Agree n e a ∧ K' e w
 | _, _, _ => False
def X (P : Program) (n : Nat) (ro : Option Nat) (c : Code) (K : Cont) (E : List (Nat × Cont)) (F : Cont) (e : Env) (w : World) : Prop := ∀ a, Agree n e a → c.wpIn (Fw ro) 0 P (outAt K E F n) a w
section
variable {P : Program} {n : Nat} {ro : Option Nat} {c x y : Code} {K F : Cont} {E : List (Nat × Cont)} {e : Env} {w : World}
theorem x_weaken {e' : Env} (hs : Sub e' e) (h : X P n ro c K E F e' w) : X P n ro c K E F e w := fun a ha => h a (ha.sub hs)
theorem x_mono {K' F' : Cont} (h : X P n ro c K E F e w) (hn : ∀ e w, K e w → K' e w) (hr : ∀ e w, F e w → F' e w) : X P n ro c K' E F' e w := fun a ha =>
 wpIn_mono (h a ha) fun ex a w hq => by
  cases ex <;> simp only [outAt] at hq ⊢
  case normal => obtain ⟨e, h1, h2⟩ := hq; exact ⟨e, h1, hn _ _ h2⟩
  case ret => obtain ⟨e, h1, h2⟩ := hq; exact ⟨e, h1, hr _ _ h2⟩
  case exit id => exact hq
theorem x_skip (h : K e w) : X P n ro .skip K E F e w := fun a ha => wpIn_skip ⟨e, ha, h⟩
theorem x_ret (h : F e w) : X P n ro .ret K E F e w := fun a ha => wpIn_ret ⟨e, ha, h⟩
theorem x_exit {id : Nat} {K' : Cont} (hk : extOf E id = some K') (h : K' e w) : X P n ro (.exit id) K E F e w := fun a ha => wpIn_exit ⟨K', hk, e, ha, h⟩
theorem x_seq (h : X P n ro x (X P n ro y K E F) E F e w) : X P n ro (.seq x y) K E F e w := fun a ha =>
 wpIn_seq (wpIn_mono (h a ha) fun ex a w hq => by
  cases ex <;> simp only [outAt] at hq <;> simp only [Exit.then]
  case normal => obtain ⟨e, h1, h2⟩ := hq; exact h2 a h1
  case ret => exact hq
  case exit id => exact hq)
theorem x_join (J : Cont) (h : X P n ro x (fun e w => ∃ e', Sub e' e ∧ J e' w) E F e w) (h' : ∀ e w, J e w → X P n ro y K E F e w) : X P n ro (.seq x y) K E F e w :=
 x_seq (x_mono h (fun _ _ ⟨_, hs, hj⟩ => x_weaken hs (h' _ _ hj)) (fun _ _ h => h))
theorem x_cond {cnd : Operand} {t : Bool} (hc : ev e cnd = some (.bool t)) (ht : t = true → X P n ro x K E F e w) (hf : t = false → X P n ro y K E F e w) : X P n ro (.cond cnd x y) K E F e w := fun a ha =>
 wpIn_cond_split (ha.ev hc) (fun h => ht h a ha) (fun h => hf h a ha)
theorem x_cond_true {cnd : Operand} (hc : ev e cnd = some (.bool true)) (ht : X P n ro x K E F e w) : X P n ro (.cond cnd x y) K E F e w := x_cond hc (fun _ => ht) (fun h => by cases h)
theorem x_cond_false {cnd : Operand} (hc : ev e cnd = some (.bool false)) (hf : X P n ro y K E F e w) : X P n ro (.cond cnd x y) K E F e w := x_cond hc (fun h => by cases h) (fun _ => hf)
theorem x_if {cnd : Operand} {p : Prop} [Decidable p] (hc : ev e cnd = some (.bool (decide p))) (ht : p → X P n ro x K E F e w) (hf : ¬ p → X P n ro y K E F e w) : X P n ro (.cond cnd x y) K E F e w :=
 x_cond hc (fun h => ht (of_decide_eq_true h)) (fun h => hf (of_decide_eq_false h))
theorem x_block {id : Nat} (h : X P n ro x K ((id, K) :: E) F e w) : X P n ro (.block id x) K E F e w := fun a ha =>
 wpIn_block (wpIn_mono (h a ha) fun ex a w hq => by
  cases ex <;> simp only [outAt] at hq <;> simp only [Exit.inBlock]
  case normal => exact hq
  case ret => exact hq
  case exit id' =>
   obtain ⟨K', hk, e, h1, h2⟩ := hq
   simp only [extOf] at hk
   by_cases hid : id = id'
   ·subst hid; simp at hk; subst hk; rw [if_pos rfl]; exact ⟨e, h1, h2⟩
   ·rw [beq_no hid] at hk
    rw [if_neg (fun h => hid h.symm)]
    exact ⟨K', hk, e, h1, h2⟩)
theorem wp_loop_m {a : Act} {Q : Exit → Act → World → Prop} (I : Nat → Act → World → Prop) {m : Nat} (h₀ : I m a w)
  (round : ∀ m a w, I m a w → c.wpIn (Fw ro) 0 P (Exit.then (fun a' w' => ∃ m', m' < m ∧ I m' a' w') Q) a w) : (Code.loop c).wpIn (Fw ro) 0 P Q a w := by
 intro b k cs hro hb hr
 have key : ∀ m a w, I m a w →
   ∃ e a' w', Q e a' w' ∧ ArrivesIn (Machine.fenced P (Fw ro)) P (lone (b.atR a (.code c :: .inLoop c :: k)) cs w) b k cs e a' w' := by
  intro m
  induction m using Nat.strongRecOn with
  | _ m ih =>
   intro a w hI
   obtain ⟨e, a₁, w₁, hq, harr⟩ := round m a w hI b (.inLoop c :: k) cs hro hb hr
   cases e with
   | normal =>
    obtain ⟨m', hlt, hI₁⟩ := hq
    obtain ⟨e₂, a₂, w₂, hq₂, harr₂⟩ := ih m' hlt a₁ w₁ hI₁
    exact ⟨e₂, a₂, w₂, hq₂, .of_steps (StepsIn.trans harr (.one (fenced_calm hb hr rfl) stepR_inLoop)) harr₂⟩
   | exit id => exact ⟨_, a₁, w₁, hq, .pass (x := .inLoop c) rfl (fun _ _ => .inl (by simp)) harr⟩
   | goto l => exact ⟨_, a₁, w₁, hq, .pass (x := .inLoop c) rfl (fun _ _ => .inl (by simp)) harr⟩
   | ret => exact ⟨_, a₁, w₁, hq, .pass (x := .inLoop c) rfl (fun _ _ => .inl (by simp)) harr⟩
   | panic ch => exact ⟨_, a₁, w₁, hq, .pass (x := .inLoop c) rfl (fun _ _ => .inl (by simp)) harr⟩
   | outgrown => exact ⟨_, a₁, w₁, hq, .pass (x := .inLoop c) rfl (fun _ _ => .inl (by simp)) harr⟩
 obtain ⟨e, a', w', hq, harr⟩ := key m a w h₀
 exact ⟨e, a', w', hq, .of_steps (.one (fenced_calm hb hr rfl) stepR_loop) harr⟩
theorem x_loop (I : Nat → Cont) {m : Nat} {e₀ : Env} (hs : Sub e₀ e) (h₀ : I m e₀ w)
  (round : ∀ m e w, I m e w → X P n ro c (fun e' w' => ∃ m', m' < m ∧ ∃ e₁, Sub e₁ e' ∧ I m' e₁ w') E F e w) : X P n ro (.loop c) K E F e w := fun a ha =>
 wp_loop_m (fun m a w => ∃ e, Agree n e a ∧ I m e w) (m := m) ⟨e₀, ha.sub hs, h₀⟩ fun m a w ⟨e, ha, hI⟩ =>
  wpIn_mono (round m e w hI a ha) fun ex a w hq => by
   cases ex <;> simp only [outAt] at hq <;> simp only [Exit.then]
   case normal => obtain ⟨e', h1, m', hm, e₁, hs, hI⟩ := hq; exact ⟨m', hm, e₁, h1.sub hs, hI⟩
   case ret => exact hq
   case exit id => exact hq
theorem x_region {id : Nat} {ops : Array Oper} {l : List Nat} (hl : List.range ops.size = l) (h : XL P n ops false [] l K e w) : X P n ro (.region id ops false) K E F e w := fun a ha =>
 wp_region_plain (by rw [hl]; exact h a ha)
theorem x_draw {id : Nat} {ops : Array Oper} (perm : List Nat) (hm : P.follows .mixedOrders = true) (hB : regB P ops n perm = true) (h : XL P n ops true [] perm K e { w with drawn := w.drawn + 1 }) :
  X P n ro (.region id ops true) K E F e w := fun a ha => wp_region_text perm hm hB ha.size (h a ha)
theorem x_defer {id : Nat} {o : Oper} {d : Nat} {fs : FuncId} {t' : TypeId} {p p' : String} {af af' : Array Edge} {ts : Array TypeId} {fn : Fn} {first captured : Array Value} {hm : o = ⟨some d, o.op, o.type, p, af, none⟩}
  (hd : Nat.blt d n = true) (h : XL P n #[o] false [] [0] (fun e' w' => get e' d = some (.func fn first captured) ∧ K ((1000000000, .func fn first captured) :: e') w') e w) :
  X P n none (.region id #[o, ⟨none, .defer ⟨.value (.tmp d), #[], ts⟩, t', p', af', none⟩] false) K E F e w := fun a ha => by
 refine wpIn_region ?_
 have h1 := h a ha
 simp only [cond] at h1
 have hget : ∀ i : Nat, i < 1 → (#[o, (⟨none, .defer ⟨.value (.tmp d), #[], ts⟩, t', p', af', none⟩ : Oper)] : Array Oper)[i]? = (#[o] : Array Oper)[i]? := fun i hi => by
  have : i = 0 := by omega
  subst this; rfl
 show wpOpsIn (Fw none) 0 P _ (outAt K E F n) [0, 1] a w
 rw [wpOpsIn_cons]
 have h2 : SOp P #[o] o (fun a' w' => ∃ e', Agree n e' a' ∧ get e' d = some (.func fn first captured) ∧ K ((1000000000, .func fn first captured) :: e') w') a w := h1
 have hguard : o.guard = none := by rw [hm]
 have h3 : SOp P #[o, ⟨none, .defer ⟨.value (.tmp d), #[], ts⟩, t', p', af', none⟩] o (fun a' w' => ∃ e', Agree n e' a' ∧ get e' d = some (.func fn first captured) ∧ K ((1000000000, .func fn first captured) :: e') w') a w := by
  unfold SOp at h2 ⊢
  have hw : ∀ y, Region.wanted o y = true := fun y => by simp [Region.wanted, hguard]
  rw [if_pos (hw _)] at h2 ⊢; exact h2
 refine wpOp_of_SOp rfl (fun a' w' h' => ?_) h3
 obtain ⟨e', ha', hg, hK⟩ := h'
 rw [wpOpsIn_cons]
 unfold wpOpIn
 refine (show (if Region.wanted _ _ = true then _ else _ : Prop) from ?_)
 rw [if_pos (by simp [Region.wanted])]
 refine ⟨fun _ _ => trivial, ?_⟩
 have hev : a'.eval (.tmp d) = .func fn first captured := ha'.ev (x := .tmp d) hg
 have hrun : ∀ w', (execOp a'.eval (⟨none, .defer ⟨.value (.tmp d), #[], ts⟩, t', p', af', none⟩ : Oper)).run P w' = .ok (.defer (dfr (.func fn first captured))) w' := fun w' => by
  simp [execOp, resolve, hev, Deferred.ofValue, dfr]
 show Oper.uponIn (Fw none) 0 P (⟨none, .defer ⟨.value (.tmp d), #[], ts⟩, t', p', af', none⟩ : Oper) a' _ _ ((execOp a'.eval (⟨none, .defer ⟨.value (.tmp d), #[], ts⟩, t', p', af', none⟩ : Oper)).run P _)
 rw [hrun, Oper.uponIn_defer]
 refine ⟨_, ⟨?_, ha'.size, ha'.small, fun t v hv => ?_⟩, hK⟩
 ·simp [marks, ha'.defers, Act.put]
 rcases get_cons hv with ⟨h1, _⟩ | ⟨_, h2⟩
 ·exact absurd h1.symm (get_mk hv)
 exact ha'.get t v h2
end
def Defd (P : Program) (f : FuncId) (args : Array Value) (w : World) (R : Value → World → Prop) : Prop := CallsDIn (Fw none) 0 P f args .returning w fun en u w' => u = .returning ∧ Ret R en w'
def bodyEnd (P : Program) (n : Nat) (fn : Func) (R : Value → World → Prop) : Cont := fun e w =>
 ∀ a, Agree n e a → LeavesInM (Fw none) 0 P fn a.tmps (Ret R) a.defers .returning w
def argEnv : Nat → List Value → Env
 | _, [] => []
 | k, v :: r => (k, v) :: argEnv (k + 1) r
theorem get_argEnv : ∀ (l : List Value) (k t : Nat) (v : Value), get (argEnv k l) t = some v → k ≤ t ∧ l[t - k]? = some v
 | [], _, _, _, h => by cases h
 | u :: l, k, t, v, h => by
  rcases get_cons h with ⟨rfl, rfl⟩ | ⟨hk, h⟩
  ·simp
  obtain ⟨h1, h2⟩ := get_argEnv l (k + 1) t v h
  refine ⟨by omega, ?_⟩
  rw [show t - k = (t - (k + 1)) + 1 by omega]
  simpa using h2
theorem marks_argEnv : ∀ (l : List Value) (k : Nat), k + l.length ≤ 1000000 → marks (argEnv k l) = []
 | [], _, _ => rfl
 | u :: l, k, h => by
  simp only [argEnv]
  rw [marks_cons (by simp at h; omega)]
  exact marks_argEnv l (k + 1) (by simp at h; omega)
theorem agree_args {args : List Value} {n : Nat} (hle : Nat.ble args.length n = true) (hs : Nat.ble n 1000000 = true) : Agree n (argEnv 0 args) { tmps := args.toArray ++ Array.replicate (n - args.toArray.size) undef, defers := [] } := by
 have hle' : args.length ≤ n := by simpa using hle
 have hs' : n ≤ 1000000 := by simpa using hs
 refine ⟨by rw [marks_argEnv args 0 (by omega)]; rfl, by simp; omega, hs', fun t v hv => ?_⟩
 obtain ⟨_, h2⟩ := get_argEnv args 0 t v hv
 have hlt : t < args.length := by
  rcases Nat.lt_or_ge t args.length with h' | h'
  ·exact h'
  simp [List.getElem?_eq_none h'] at h2
 simp only [Array.getD_eq_getD_getElem?]
 rw [Array.getElem?_append_left (by simpa using hlt)]
 simp at h2 ⊢
 simp [h2]
theorem calls_of_x {P : Program} {f : FuncId} {fn : Func} {c : Code} {args : List Value} {w : World} {R : Value → World → Prop} {n : Nat}
  (hf : P.funcs[f]? = some fn) (hb : fn.body = some c) (hn : fn.ntmps = n) (hle : Nat.ble args.length n = true) (hs : Nat.ble n 1000000 = true)
  (h : X P n none c (bodyEnd P n fn R) [] (bodyEnd P n fn R) (argEnv 0 args) w) : Calls P f args.toArray w (Ret R) := by
 refine callsIn_wide (n := 0).1 (callsIn_of_wp_marks (F := Fw none) hf hb trivial ?_)
 refine wpIn_mono (h _ (by rw [hn]; exact agree_args hle hs)) fun ex a w hq => ?_
 cases ex <;> simp only [outAt, extOf, bodyEnd] at hq <;> simp only [bodyPostM]
 case normal => obtain ⟨e, ha, h1⟩ := hq; exact h1 a ha
 case ret => obtain ⟨e, ha, h1⟩ := hq; exact h1 a ha
 case exit => obtain ⟨K, hk, _⟩ := hq; cases hk
def Loads (P : Program) (w : World) (t : TypeId) (a : Addr) (v : Value) : Prop := (loadVar t a).run P w = .ok v w
def ResOk (P : Program) (e : Env) (w : World) : ResultVar → Value → Prop
 | .tmp t, v => get e t = some v
 | .cell t ty, v => ∃ a, get e t = some (.pointer (some a)) ∧ Loads P w ty a v
section
variable {P : Program} {n : Nat} {fn : Func} {R : Value → World → Prop} {e : Env} {w : World}
def Leave (P : Program) (n : Nat) (fn : Func) (R : Value → World → Prop) (e : Env) (ds : List Value) (w : World) : Prop :=
 ∀ a, Agree n e a → LeavesInM (Fw none) 0 P fn a.tmps (Ret R) (ds.map dfr) .returning w
theorem bodyEnd_leave {ds : List Value} (hm : marks e = ds) (h : Leave P n fn R e ds w) : bodyEnd P n fn R e w := fun a ha => by rw [ha.defers, hm]; exact h a ha
theorem Leave.of_run {v : Value} (h : ∀ a, Agree n e a → (results fn a.tmps).run P w = .ok v w) (hR : R v w) : Leave P n fn R e [] w := fun a ha => ⟨v, h a ha, v, rfl, hR⟩
theorem leave0 (hr : fn.results = #[]) (h : R (.tuple #[]) w) : Leave P n fn R e [] w := .of_run (fun a _ => by simp [results, hr]) h
def resSem (a : Act) : ResultVar → Sem Value
 | .tmp t => pure (a.tmps.getD t undef)
 | .cell x t => do loadVar t (← asAddr (a.tmps.getD x undef))
theorem run_resSem {r : ResultVar} {v : Value} {a : Act} (h : ResOk P e w r v) (ha : Agree n e a) : (resSem a r).run P w = .ok v w := by
 cases r with
 | tmp t => simp only [resSem, ha.get t v h]; rfl
 | cell x ty =>
  obtain ⟨q, h1, h2⟩ := h
  have h2' : (loadVar ty q).run P w = .ok v w := h2
  simp [resSem, ha.get x _ h1, asAddr, h2']
inductive ResAll (P : Program) (e : Env) (w : World) : List ResultVar → List Value → Prop where
 | nil : ResAll P e w [] []
 | cons {r : ResultVar} {v : Value} {rs : List ResultVar} {vs : List Value} (h : ResOk P e w r v) (h' : ResAll P e w rs vs) : ResAll P e w (r :: rs) (v :: vs)
theorem run_resAll {rs : List ResultVar} {vs : List Value} {a : Act} (h : ResAll P e w rs vs) (ha : Agree n e a) : (rs.mapM (resSem a)).run P w = .ok vs w := by
 induction h with
 | nil => rfl
 | cons h _ ih => simp [run_resSem h ha, ih]
theorem run_results {rs : List ResultVar} {vs : List Value} {a : Act} (hr : fn.results = rs.toArray) (h : ResAll P e w rs vs) (ha : Agree n e a) : (results fn a.tmps).run P w = .ok (if h : vs.toArray.size = 1 then vs.toArray[0] else .tuple vs.toArray) w := by
 have h1 := run_resAll h ha
 have h2 : results fn a.tmps = (do let vs ← rs.toArray.mapM (resSem a); pure (if h : vs.size = 1 then vs[0] else .tuple vs)) := by
  unfold results; rw [hr]; rfl
 rw [h2]
 simp only [List.mapM_toArray, bind_map_left, Sem.run_bind, h1, Result.andThen_ok, Sem.run_pure]
theorem leave1 {r : ResultVar} {v : Value} (hr : fn.results = #[r]) (hv : ResOk P e w r v) (h : R v w) : Leave P n fn R e [] w := .of_run (fun a ha => run_results (rs := [r]) (vs := [v]) hr (.cons hv .nil) ha) h
theorem leave2 {r r' : ResultVar} {v v' : Value} (hr : fn.results = #[r, r']) (hv : ResOk P e w r v) (hv' : ResOk P e w r' v') (h : R (.tuple #[v, v']) w) : Leave P n fn R e [] w := .of_run (fun a ha => run_results (rs := [r, r']) (vs := [v, v']) hr (.cons hv (.cons hv' .nil)) ha) h
theorem leave3 {r r' r'' : ResultVar} {v v' v'' : Value} (hr : fn.results = #[r, r', r'']) (hv : ResOk P e w r v) (hv' : ResOk P e w r' v') (hv'' : ResOk P e w r'' v'') (h : R (.tuple #[v, v', v'']) w) : Leave P n fn R e [] w := .of_run (fun a ha => run_results (rs := [r, r', r'']) (vs := [v, v', v'']) hr (.cons hv (.cons hv' (.cons hv'' .nil))) ha) h
theorem leave_call {fn' : FuncId} {first captured : Array Value} {ds : List Value} {Q : Value → World → Prop} (hb : (∃ f, P.funcs[fn']? = some f ∧ (f.name == "runtime.NumGoroutine") = false ∧ f.body.isNone = false))
  (hc : Defd P fn' (first ++ captured) w Q) (h : ∀ v w', Q v w' → Leave P n fn R e ds w') : Leave P n fn R e (.func (.func fn') first captured :: ds) w := fun a ha => by
 refine ⟨by simp, .inr ⟨(fun hd => by cases hd), .func fn', captured, fn', first ++ captured, rfl, ?_, fun _ _ => trivial, hc.1, fun c cs hm hr => ?_⟩⟩
 ·obtain ⟨f, h1, h2, h3⟩ := hb
  simp only [dfr, invoke, callFunc, Sem.run_bind, Sem.run_pure, Result.andThen_ok, program, Sem.run, h1, h2, h3]
  simp
 obtain ⟨en, u', w', fr, ⟨hu, v, hv, hQ⟩, hs, hk, hf, hg⟩ := hc.2 c cs hm (room_fw none _)
 subst hv
 exact ⟨_, u', w', fr, by subst hu; exact h v w' hQ a ha, hs, hk, hf, hg⟩
theorem end0 (hr : fn.results = #[]) (hm : marks e = []) (h : R (.tuple #[]) w) : bodyEnd P n fn R e w := bodyEnd_leave hm (leave0 hr h)
theorem end1 {r : ResultVar} {v : Value} (hr : fn.results = #[r]) (hm : marks e = []) (hv : ResOk P e w r v) (h : R v w) : bodyEnd P n fn R e w := bodyEnd_leave hm (leave1 hr hv h)
theorem end2 {r r' : ResultVar} {v v' : Value} (hr : fn.results = #[r, r']) (hm : marks e = []) (hv : ResOk P e w r v) (hv' : ResOk P e w r' v') (h : R (.tuple #[v, v']) w) : bodyEnd P n fn R e w := bodyEnd_leave hm (leave2 hr hv hv' h)
theorem end3 {r r' r'' : ResultVar} {v v' v'' : Value} (hr : fn.results = #[r, r', r'']) (hm : marks e = []) (hv : ResOk P e w r v) (hv' : ResOk P e w r' v') (hv'' : ResOk P e w r'' v'') (h : R (.tuple #[v, v', v'']) w) : bodyEnd P n fn R e w := bodyEnd_leave hm (leave3 hr hv hv' hv'' h)
end
theorem sG {e' e : Env} (h : SubG e' e := by repeat (first | exact SubG.nil _ | refine SubG.mark ?_ | refine SubG.cons rfl ?_)) : SubG e' e := h
theorem sB {e' e : Env} (h : SubG e' e := by repeat (first | exact SubG.nil _ | refine SubG.mark ?_ | refine SubG.cons rfl ?_)) (h' : marks e' = marks e := by exact rfl) : Sub e' e := ⟨h, h'⟩
abbrev HMap := Nat → Option Obj
abbrev Assn := HMap → Prop
structure Gh where
 os : Os
 tape : Nat → Question → Nat
 output : Array (Nat × ByteArray)
def ghOf (w : World) : Gh := ⟨w.os, w.tape, w.output⟩
def pt (b : Nat) (o : Obj) : Assn := fun h => h b = some o
def apartH (h1 h2 : HMap) : Prop := ∀ b, h1 b = none ∨ h2 b = none
def union (h1 h2 : HMap) : HMap := fun b => (h1 b).or (h2 b)
def all : List Assn → Assn
 | [], _ => True
 | A :: r, h => ∃ h1 h2, apartH h1 h2 ∧ (∀ b o, (union h1 h2) b = some o → h b = some o) ∧ A h1 ∧ all r h2
def Sat (g : Gh) (L : List Assn) (w : World) : Prop := ghOf w = g ∧ ∃ h : HMap, (∀ b o, h b = some o → w.heap[b]? = some o) ∧ all L h
inductive Pick (A : Assn) : List Assn → List Assn → Prop where
 | here {R} : Pick A (A :: R) R
 | there {B L R} (h : Pick A L R) : Pick A (B :: L) (B :: R)
theorem pK {A : Assn} {L R : List Assn} (h : Pick A L R := by repeat (first | with_reducible exact Pick.here | apply Pick.there)) : Pick A L R := h
theorem all_mono {L : List Assn} {h h' : HMap} (hh : ∀ b o, h b = some o → h' b = some o) (ha : all L h) : all L h' := by
 cases L with
 | nil => trivial
 | cons A r => obtain ⟨h1, h2, hd, hu, h3, h4⟩ := ha; exact ⟨h1, h2, hd, fun b o hb => hh b o (hu b o hb), h3, h4⟩
theorem union_left {h1 h2 : HMap} {b : Nat} {o : Obj} (h : h1 b = some o) : union h1 h2 b = some o := by simp [union, h]
theorem union_right {h1 h2 : HMap} (hd : apartH h1 h2) {b : Nat} {o : Obj} (h : h2 b = some o) : union h1 h2 b = some o := by
 have : h1 b = none := (hd b).resolve_right (by simp [h])
 simp [union, this, h]
theorem union_cases {h1 h2 : HMap} {b : Nat} {o : Obj} (h : union h1 h2 b = some o) : h1 b = some o ∨ h2 b = some o := by
 unfold union at h
 cases e : h1 b with
 | none => rw [e] at h; simp at h; exact .inr h
 | some x => rw [e] at h; simp at h; exact .inl (by rw [h])
theorem all_swap {A B : Assn} {R : List Assn} {h : HMap} (ha : all (A :: B :: R) h) : all (B :: A :: R) h := by
 obtain ⟨h1, h2, hd, hu, hA, h3, h4, hd', hu', hB, hR⟩ := ha
 have e : ∀ b o, h3 b = some o → h2 b = some o := fun b o hb => hu' b o (union_left hb)
 have e' : ∀ b o, h4 b = some o → h2 b = some o := fun b o hb => hu' b o (union_right hd' hb)
 have none_of : ∀ {x y : HMap}, (∀ b o, x b = some o → y b = some o) → ∀ b, y b = none → x b = none := fun hxy b hy => by
  cases hx : (_ : HMap) b with
  | none => exact hx
  | some o => rw [hxy b o hx] at hy; cases hy
 have d14 : apartH h1 h4 := fun b => (hd b).imp id (none_of e' b)
 have d13 : apartH h1 h3 := fun b => (hd b).imp id (none_of e b)
 refine ⟨h3, union h1 h4, fun b => ?_, fun b o hb => ?_, hB, h1, h4, d14, fun b o hb => hb, hA, hR⟩
 ·cases x3 : h3 b with
  | none => exact .inl rfl
  | some o =>
   refine .inr ?_
   have y1 : h1 b = none := (d13 b).resolve_right (by simp [x3])
   have y4 : h4 b = none := (hd' b).resolve_left (by simp [x3])
   simp [union, y1, y4]
 rcases union_cases hb with hb | hb
 ·exact hu b o (union_right hd (e b o hb))
 rcases union_cases hb with hb | hb
 ·exact hu b o (union_left hb)
 exact hu b o (union_right hd (e' b o hb))
theorem all_single {A : Assn} {h : HMap} (ha : A h) : all [A] h := by
 refine ⟨h, fun _ => none, fun b => .inr rfl, fun b o hb => ?_, ha, trivial⟩
 rcases union_cases hb with h | h
 ·exact h
 cases h
theorem all_cons_mono {A : Assn} {L L' : List Assn} (hh : ∀ h, all L h → all L' h) {h : HMap} (ha : all (A :: L) h) : all (A :: L') h := by
 obtain ⟨h1, h2, hd, hu, hA, hL⟩ := ha; exact ⟨h1, h2, hd, hu, hA, hh _ hL⟩
theorem all_pick {A : Assn} {L R : List Assn} (p : Pick A L R) : ∀ h, all L h → all (A :: R) h := by
 induction p with
 | here => exact fun _ h => h
 | there _ ih => exact fun h ha => all_swap (all_cons_mono ih ha)
section
variable {g : Gh} {L R L' : List Assn} {A B : Assn} {w : World} {b : Nat} {o : Obj}
theorem Sat.mono (hh : ∀ h, all L h → all L' h) (h : Sat g L w) : Sat g L' w := ⟨h.1, let ⟨x, h1, h2⟩ := h.2; ⟨x, h1, hh _ h2⟩⟩
theorem Sat.pick (h : Sat g L w) (p : Pick A L R) : Sat g (A :: R) w := h.mono (all_pick p)
theorem Sat.cons_mono (hh : ∀ h, A h → B h) (h : Sat g (A :: R) w) : Sat g (B :: R) w :=
 h.mono (L := A :: R) (L' := B :: R) fun _ ⟨h1, h2, hd, hu, hA, hR⟩ => ⟨h1, h2, hd, hu, hh _ hA, hR⟩
theorem Sat.tail (h : Sat g (A :: R) w) : Sat g R w := ⟨h.1, let ⟨x, hx, h1, h2, hd, hu, _, hR⟩ := h.2; ⟨h2, fun b o hb => hx b o (hu b o (union_right hd hb)), hR⟩⟩
theorem Sat.drop (h : Sat g L w) (p : Pick A L R) : Sat g R w := (h.pick p).tail
theorem Sat.head (h : Sat g (A :: R) w) : Sat g [A] w := ⟨h.1, let ⟨x, hx, h1, h2, hd, hu, hA, _⟩ := h.2
 ⟨h1, fun b o hb => hx b o (hu b o (union_left hb)), all_single hA⟩⟩
theorem Sat.pt_head (h : Sat g (pt b o :: R) w) : w.heap[b]? = some o := by
 obtain ⟨_, x, hx, h1, h2, hd, hu, hA, _⟩ := h
 exact hx b o (hu b o (union_left hA))
theorem Sat.pt (h : Sat g L w) (p : Pick (X.pt b o) L R) : w.heap[b]? = some o := (h.pick p).pt_head
theorem Sat.size (h : Sat g (X.pt b o :: R) w) : b < w.heap.size := by
 have := h.pt_head
 exact (Array.getElem?_eq_some_iff.1 this).1
theorem Sat.drawn (h : Sat g L w) (n : Nat) : Sat g L { w with drawn := n } := h
theorem Sat.push (h : Sat g L w) (o : Obj) : Sat g (X.pt w.heap.size o :: L) { w with heap := w.heap.push o } := by
 obtain ⟨hg, x, hx, hL⟩ := h
 refine ⟨hg, fun b => if b = w.heap.size then some o else x b, fun b o' hb => ?_, fun b => if b = w.heap.size then some o else none, x, fun b => ?_, fun b o' hb => ?_, ?_, hL⟩
 ·simp only at hb
  split at hb
  ·rename_i e; subst e; cases hb; simp
  have h1 := hx b o' hb
  have h2 := (Array.getElem?_eq_some_iff.1 h1).1
  simp only
  rw [Array.getElem?_push_lt (by omega)]; rw [← h1, Array.getElem?_eq_getElem]
 ·by_cases e : b = w.heap.size
  ·refine .inr ?_
   cases hb : x b with
   | none => rfl
   | some o' => have h1 := (Array.getElem?_eq_some_iff.1 (hx b o' hb)).1; omega
  exact .inl (by simp [e])
 ·rcases union_cases hb with hb | hb
  ·simp only at hb ⊢; split at hb
   ·rename_i e; simp [e, hb]
   cases hb
  simp only; split
  ·rename_i e; have h1 := (Array.getElem?_eq_some_iff.1 (hx b o' hb)).1; omega
  exact hb
 simp [X.pt]
theorem Sat.set (h : Sat g (X.pt b o :: R) w) (o' : Obj) : Sat g (X.pt b o' :: R) { w with heap := w.heap.setIfInBounds b o' } := by
 have hlt := h.size
 obtain ⟨hg, x, hx, h1, h2, hd, hu, hA, hR⟩ := h
 have h2b : h2 b = none := (hd b).resolve_left (by have : h1 b = some o := hA; simp [this])
 refine ⟨hg, fun k => if k = b then some o' else h2 k, fun k u hk => ?_, fun k => if k = b then some o' else none, h2, fun k => ?_, fun k u hk => ?_, by simp [X.pt], hR⟩
 ·simp only at hk
  split at hk
  ·rename_i e; subst e; cases hk; simp [hlt]
  rename_i e
  simp only
  rw [Array.getElem?_setIfInBounds_ne (fun e' => e e'.symm)]
  exact hx k u (hu k u (union_right hd hk))
 ·by_cases e : k = b
  ·exact .inr (by rw [e]; exact h2b)
  exact .inl (by simp [e])
 rcases union_cases hk with hk | hk
 ·simp only at hk ⊢; split at hk
  ·rename_i e; simp [e, hk]
  cases hk
 simp only; split
 ·rename_i e; rw [e, h2b] at hk; cases hk
 exact hk
def Old (w0 : World) : Assn := fun h => ∀ b o, w0.heap[b]? = some o → h b = some o
theorem Sat.start (w : World) : Sat (ghOf w) [Old w] w :=
 ⟨rfl, fun b => w.heap[b]?, fun _ _ h => h, all_single fun _ _ h => h⟩
theorem Sat.old_head {w0 : World} (h : Sat g (Old w0 :: R) w) {b : Nat} {o : Obj} (hb : w0.heap[b]? = some o) : w.heap[b]? = some o := by
 obtain ⟨_, x, hx, h1, h2, hd, hu, hA, _⟩ := h
 exact hx b o (hu b o (union_left (hA b o hb)))
def ex {α : Sort _} (F : α → Assn) : Assn := fun h => ∃ x, F x h
def lift (p : Prop) (A : Assn) : Assn := fun h => p ∧ A h
def both (M : List Assn) : Assn := all M
theorem Sat.ex_out {α : Sort _} {F : α → Assn} (h : Sat g (ex F :: R) w) : ∃ x, Sat g (F x :: R) w := by
 obtain ⟨hg, x, hx, h1, h2, hd, hu, ⟨y, hA⟩, hR⟩ := h
 exact ⟨y, hg, x, hx, h1, h2, hd, hu, hA, hR⟩
theorem Sat.ex_in {α : Sort _} {F : α → Assn} (x : α) (h : Sat g (F x :: R) w) : Sat g (ex F :: R) w := h.cons_mono fun _ h => ⟨x, h⟩
theorem Sat.lift_out {p : Prop} (h : Sat g (lift p A :: R) w) : p ∧ Sat g (A :: R) w := by
 obtain ⟨hg, x, hx, h1, h2, hd, hu, ⟨hp, hA⟩, hR⟩ := h
 exact ⟨hp, hg, x, hx, h1, h2, hd, hu, hA, hR⟩
theorem Sat.lift_in {p : Prop} (hp : p) (h : Sat g (A :: R) w) : Sat g (lift p A :: R) w := h.cons_mono fun _ h => ⟨hp, h⟩
theorem all_append : ∀ (M : List Assn) (R : List Assn) (h : HMap), all (both M :: R) h ↔ all (M ++ R) h
 | [], R, h => ⟨fun ⟨h1, h2, hd, hu, _, hR⟩ => all_mono (fun b o hb => hu b o (union_right hd hb)) hR,
   fun hR => ⟨fun _ => none, h, fun b => .inl rfl, fun b o hb => by rcases union_cases hb with h | h <;> first | cases h | exact h, trivial, hR⟩⟩
 | A :: M, R, h => by
  constructor
  ·rintro ⟨h1, h2, hd, hu, ⟨h3, h4, hd', hu', hA, hM⟩, hR⟩
   have e3 : ∀ b o, h3 b = some o → h1 b = some o := fun b o hb => hu' b o (union_left hb)
   have e4 : ∀ b o, h4 b = some o → h1 b = some o := fun b o hb => hu' b o (union_right hd' hb)
   have none_of : ∀ {x y : HMap}, (∀ b o, x b = some o → y b = some o) → ∀ b, y b = none → x b = none := fun hxy b hy => by
    cases hx : (_ : HMap) b with
    | none => exact hx
    | some o => rw [hxy b o hx] at hy; cases hy
   have d42 : apartH h4 h2 := fun b => (hd b).imp (none_of e4 b) id
   refine ⟨h3, union h4 h2, fun b => ?_, fun b o hb => ?_, hA, (all_append M R _).1 ⟨h4, h2, d42, fun _ _ h => h, hM, hR⟩⟩
   ·cases x3 : h3 b with
    | none => exact .inl rfl
    | some o =>
     refine .inr ?_
     have y4 : h4 b = none := (hd' b).resolve_left (by simp [x3])
     have y2 : h2 b = none := (hd b).resolve_left (by simp [e3 b o x3])
     simp [union, y2, y4]
   rcases union_cases hb with hb | hb
   ·exact hu b o (union_left (e3 b o hb))
   rcases union_cases hb with hb | hb
   ·exact hu b o (union_left (e4 b o hb))
   exact hu b o (union_right hd hb)
  rintro ⟨h3, h5, hd, hu, hA, hMR⟩
  obtain ⟨h4, h2, hd', hu', hM, hR⟩ := (all_append M R h5).2 hMR
  have e4 : ∀ b o, h4 b = some o → h5 b = some o := fun b o hb => hu' b o (union_left hb)
  have e2 : ∀ b o, h2 b = some o → h5 b = some o := fun b o hb => hu' b o (union_right hd' hb)
  have none_of : ∀ {x y : HMap}, (∀ b o, x b = some o → y b = some o) → ∀ b, y b = none → x b = none := fun hxy b hy => by
   cases hx : (_ : HMap) b with
   | none => exact hx
   | some o => rw [hxy b o hx] at hy; cases hy
  have d34 : apartH h3 h4 := fun b => (hd b).imp id (none_of e4 b)
  refine ⟨union h3 h4, h2, fun b => ?_, fun b o hb => ?_, ⟨h3, h4, d34, fun _ _ h => h, hA, hM⟩, hR⟩
  ·cases x2 : h2 b with
   | none => exact .inr rfl
   | some o =>
    refine .inl ?_
    have y4 : h4 b = none := (hd' b).resolve_right (by simp [x2])
    have y3 : h3 b = none := (hd b).resolve_right (by simp [e2 b o x2])
    simp [union, y3, y4]
  rcases union_cases hb with hb | hb
  ·rcases union_cases hb with hb | hb
   ·exact hu b o (union_left hb)
   exact hu b o (union_right hd (e4 b o hb))
  exact hu b o (union_right hd (e2 b o hb))
theorem Sat.both_out {M : List Assn} (h : Sat g (both M :: R) w) : Sat g (M ++ R) w := h.mono fun _ => (all_append M R _).1
theorem Sat.both_in {M : List Assn} (h : Sat g (M ++ R) w) : Sat g (both M :: R) w := h.mono fun _ => (all_append M R _).2
theorem assn_in {A : Assn} {M R : List Assn} {w : World} {G : Gh} (h : Sat G (M ++ R) w) (f : ∀ h, all M h → A h) : Sat G (A :: R) w := (Sat.both_in h).cons_mono f
theorem assn_out {A : Assn} {R : List Assn} {w : World} {G : Gh} (h : Sat G (A :: R) w) : ∃ hh, A hh ∧ ∀ M, all M hh → Sat G (M ++ R) w := by
 obtain ⟨hg, x, hx, h1, h2, hd, hu, hA, hR⟩ := h
 exact ⟨h1, hA, fun M hM => Sat.both_out ⟨hg, x, hx, h1, h2, hd, hu, hM, hR⟩⟩
inductive Bring : List Assn → List Assn → List Assn → Prop where
 | nil {L : List Assn} : Bring [] L L
 | cons {A : Assn} {As L M O : List Assn} (h : Pick A L M) (h' : Bring As M O) : Bring (A :: As) L (A :: O)
theorem bR {As L M : List Assn} (h : Bring As L M := by repeat (first | exact Bring.nil | (apply Bring.cons; repeat (first | with_reducible exact Pick.here | apply Pick.there)))) : Bring As L M := h
theorem all_bring {As L O : List Assn} (p : Bring As L O) : ∀ h, all L h → all O h := by
 induction p with
 | nil => exact fun _ h => h
 | cons h _ ih => exact fun x ha => all_cons_mono ih (all_pick h x ha)
theorem Sat.bring {As L O : List Assn} (h : Sat g L w) (p : Bring As L O) : Sat g O w := h.mono (all_bring p)
def Knows (L : List Assn) (p : World → Prop) : Prop := ∀ g w, Sat g L w → p w
theorem Knows.at {p : World → Prop} (k : Knows L p) (h : Sat g L w) : p w := k g w h
theorem Knows.cons {p : World → Prop} (k : Knows L p) (A : Assn) : Knows (A :: L) p := fun g w h => k g w h.tail
theorem Knows.head {p : World → Prop} (k : Knows [A] p) (R : List Assn) : Knows (A :: R) p := fun g w h => k g w h.head
theorem Knows.pick {p : World → Prop} (k : Knows (A :: R) p) (q : Pick A L R) : Knows L p := fun g w h => k g w (h.pick q)
inductive Suf : List Assn → List Assn → Prop where
 | refl (L : List Assn) : Suf L L
 | cons {L L' : List Assn} {A : Assn} (h : Suf L L') : Suf L (A :: L')
theorem sF {L L' : List Assn} (h : Suf L L' := by repeat (first | exact Suf.refl _ | apply Suf.cons)) : Suf L L' := h
theorem Knows.of {p : World → Prop} (k : Knows L p) (s : Suf L L') : Knows L' p := by
 induction s with
 | refl => exact k
 | cons _ ih => exact Knows.cons ih _
theorem Knows.mono {p q : World → Prop} (k : Knows L p) (h : ∀ w, p w → q w) : Knows L q := fun g w hh => h _ (k g w hh)
end
theorem Sat.b {g : Gh} {L O : List Assn} {w : World} (h : Sat g L w) (As : List Assn) (p : Bring As L O := by repeat (first | exact Bring.nil | (apply Bring.cons; repeat (first | with_reducible exact Pick.here | apply Pick.there)))) : Sat g O w := h.mono (all_bring p)
def rh (e : Env) : Operand → Value := fun x => (ev e x).getD undef
theorem rh_of {e : Env} {x : Operand} {v : Value} (h : ev e x = some v) : rh e x = v := by simp [rh, h]
theorem rh_k {e : Env} {x : Operand} {v : Value} (h : ev e x = some v) : ev e x = some (rh e x) := by simp [rh, h]
theorem oh1 {e : Env} {x : Operand} {v : Value} (hx : ev e x = some v) {z : Operand} (hz : z = x) : ev e z = some (rh e z) := by subst hz; exact rh_k hx
theorem oh2 {e : Env} {x y : Operand} {v u : Value} (hx : ev e x = some v) (hy : ev e y = some u) {z : Operand} (hz : z = x ∨ z = y) : ev e z = some (rh e z) := hz.elim (oh1 hx) (oh1 hy)
theorem oh3 {e : Env} {x y c : Operand} {v u s : Value} (hx : ev e x = some v) (hy : ev e y = some u) (hc : ev e c = some s) {z : Operand} (hz : z = x ∨ z = y ∨ z = c) : ev e z = some (rh e z) := hz.elim (oh1 hx) (oh2 hy hc)
def evs (e : Env) : List Operand → Option (List Value)
 | [] => some []
 | x :: r => match ev e x, evs e r with
  | some v, some vs => some (v :: vs)
  | _, _ => none
theorem evs_mem {e : Env} : ∀ {xs : List Operand} {vs : List Value}, evs e xs = some vs → (∀ z ∈ xs, ev e z = some (rh e z)) ∧ xs.map (rh e) = vs
 | [], _, h => by simp [evs] at h; subst h; simp
 | x :: r, vs, h => by
  simp only [evs] at h
  split at h
  ·rename_i v vs' h1 h2
   cases h
   obtain ⟨h3, h4⟩ := evs_mem h2
   refine ⟨fun z hz => ?_, by simp [rh_of h1, h4]⟩
   rcases List.mem_cons.1 hz with rfl | hz
   ·exact rh_k h1
   exact h3 z hz
  cases h
theorem wrap64 {x : Int} (h : -9223372036854775808 ≤ x ∧ x ≤ 9223372036854775807) : IntKind.i64.wrap x = x := by rw [IntKind.wrap_i64]; omega
section
variable {P : Program} {n : Nat} {ops : Array Oper} {dr : Bool} {done r : List Nat} {K : Env → World → Prop} {e : Env} {w : World} {i d : Nat} {t : TypeId} {p : String} {af : Array Edge} {g : Option (Nat × Bool)}
theorem x_mv {x : Operand} {v : Value} (ho : ops[i]? = some ⟨some d, .move x, t, p, af, g⟩) (hd : Nat.blt d n = true) (hg : Gd ops e g) (hx : ev e x = some v)
  (h : XL P n ops dr (i :: done) r K ((d, v) :: e) w) : XL P n ops dr done (i :: r) K e w :=
 xl_pure ho (by simpa [dstOk] using hd) hg (ρ := rh e) (by intro z hZ; simp [Op.operands] at hZ; exact oh1 hx hZ) rfl (v := v) (fun w' => by simp [execOp, rh_of hx]) h
theorem x_as {x : Operand} {v : Value} (ho : ops[i]? = some ⟨some d, .assign x, t, p, af, g⟩) (hd : Nat.blt d n = true) (hg : Gd ops e g) (hx : ev e x = some v)
  (h : XL P n ops dr (i :: done) r K ((d, v) :: e) w) : XL P n ops dr done (i :: r) K e w :=
 xl_pure ho (by simpa [dstOk] using hd) hg (ρ := rh e) (by intro z hZ; simp [Op.operands] at hZ; exact oh1 hx hZ) rfl (v := v) (fun w' => by simp [execOp, rh_of hx]) h
theorem x_pick {c a b : Operand} {q : Bool} {va vb : Value} (ho : ops[i]? = some ⟨some d, .pick c a b, t, p, af, g⟩) (hd : Nat.blt d n = true) (hg : Gd ops e g) (hc : ev e c = some (.bool q)) (ha : ev e a = some va) (hb : ev e b = some vb)
  (h : XL P n ops dr (i :: done) r K ((d, cond q va vb) :: e) w) : XL P n ops dr done (i :: r) K e w :=
 xl_pure ho (by simpa [dstOk] using hd) hg (ρ := rh e) (by intro z hZ; simp [Op.operands] at hZ; exact oh3 hc ha hb hZ) rfl (v := cond q va vb)
  (fun w' => by cases q <;> simp [execOp, rh_of hc, rh_of ha, rh_of hb, asBool]) h
theorem x_pickT {c a b : Operand} {va vb : Value} (ho : ops[i]? = some ⟨some d, .pick c a b, t, p, af, g⟩) (hd : Nat.blt d n = true) (hg : Gd ops e g) (hc : ev e c = some (.bool true)) (ha : ev e a = some va) (hb : ev e b = some vb)
  (h : XL P n ops dr (i :: done) r K ((d, va) :: e) w) : XL P n ops dr done (i :: r) K e w := x_pick ho hd hg hc ha hb h
theorem x_pickF {c a b : Operand} {va vb : Value} (ho : ops[i]? = some ⟨some d, .pick c a b, t, p, af, g⟩) (hd : Nat.blt d n = true) (hg : Gd ops e g) (hc : ev e c = some (.bool false)) (ha : ev e a = some va) (hb : ev e b = some vb)
  (h : XL P n ops dr (i :: done) r K ((d, vb) :: e) w) : XL P n ops dr done (i :: r) K e w := x_pick ho hd hg hc ha hb h
theorem x_bin {op : BinOp} {s u : TypeId} {x y : Operand} {vx vy v : Value} (ho : ops[i]? = some ⟨some d, .binOp op s x y u, t, p, af, g⟩) (hd : Nat.blt d n = true) (hg : Gd ops e g) (hk : okind P (.binOp op s x y u) = 0)
  (hx : ev e x = some vx) (hy : ev e y = some vy) (hr : ∀ w', (do eqGuard op s x y vx vy; binOp op s vx vy : Sem Value).run P w' = .ok v w')
  (h : XL P n ops dr (i :: done) r K ((d, v) :: e) w) : XL P n ops dr done (i :: r) K e w :=
 xl_pure ho (by simpa [dstOk] using hd) hg (ρ := rh e) (by intro z hZ; simp [Op.operands] at hZ; exact oh2 hx hy hZ) hk (v := v)
  (fun w' => by
   have := hr w'
   simp only [execOp, rh_of hx, rh_of hy]
   rw [Sem.run_bind, this]; rfl) h
theorem run_eqGuard_int {op : BinOp} {s : TypeId} {x y : Operand} {k k' : IntKind} {a b : Int} {w : World} : (eqGuard op s x y (.int k a) (.int k' b)).run P w = .ok () w := by
 unfold eqGuard; cases op <;> simp
theorem bk {op : BinOp} {s u : TypeId} {x y : Operand} (h : (op matches .eql | .neq) = false) : okind P (.binOp op s x y u) = 0 := by
 unfold okind; cases op <;> first | rfl | (simp at h)
variable {s u : TypeId} {x y : Operand} {k : IntKind} {a b : Int}
theorem x_add (ho : ops[i]? = some ⟨some d, .binOp .add s x y u, t, p, af, g⟩) (hd : Nat.blt d n = true) (hg : Gd ops e g) (hx : ev e x = some (.int k a)) (hy : ev e y = some (.int k b))
  (h : XL P n ops dr (i :: done) r K ((d, .int k (k.wrap (a + b))) :: e) w) : XL P n ops dr done (i :: r) K e w :=
 x_bin ho hd hg (bk rfl) hx hy (fun w' => by simp [run_eqGuard_int, binOp, Op.intArith]) h
theorem x_sub (ho : ops[i]? = some ⟨some d, .binOp .sub s x y u, t, p, af, g⟩) (hd : Nat.blt d n = true) (hg : Gd ops e g) (hx : ev e x = some (.int k a)) (hy : ev e y = some (.int k b))
  (h : XL P n ops dr (i :: done) r K ((d, .int k (k.wrap (a - b))) :: e) w) : XL P n ops dr done (i :: r) K e w :=
 x_bin ho hd hg (bk rfl) hx hy (fun w' => by simp [run_eqGuard_int, binOp, Op.intArith]) h
theorem x_mul (ho : ops[i]? = some ⟨some d, .binOp .mul s x y u, t, p, af, g⟩) (hd : Nat.blt d n = true) (hg : Gd ops e g) (hx : ev e x = some (.int k a)) (hy : ev e y = some (.int k b))
  (h : XL P n ops dr (i :: done) r K ((d, .int k (k.wrap (a * b))) :: e) w) : XL P n ops dr done (i :: r) K e w :=
 x_bin ho hd hg (bk rfl) hx hy (fun w' => by simp [run_eqGuard_int, binOp, Op.intArith]) h
theorem x_quo (ho : ops[i]? = some ⟨some d, .binOp .quo s x y u, t, p, af, g⟩) (hd : Nat.blt d n = true) (hg : Gd ops e g) (hx : ev e x = some (.int k a)) (hy : ev e y = some (.int k b)) (hb : b ≠ 0)
  (h : XL P n ops dr (i :: done) r K ((d, .int k (k.wrap (a.tdiv b))) :: e) w) : XL P n ops dr done (i :: r) K e w :=
 x_bin ho hd hg (bk rfl) hx hy (fun w' => by simp [run_eqGuard_int, binOp, Op.intDiv, hb]) h
theorem x_rem (ho : ops[i]? = some ⟨some d, .binOp .rem s x y u, t, p, af, g⟩) (hd : Nat.blt d n = true) (hg : Gd ops e g) (hx : ev e x = some (.int k a)) (hy : ev e y = some (.int k b)) (hb : b ≠ 0)
  (h : XL P n ops dr (i :: done) r K ((d, .int k (a.tmod b)) :: e) w) : XL P n ops dr done (i :: r) K e w :=
 x_bin ho hd hg (bk rfl) hx hy (fun w' => by simp [run_eqGuard_int, binOp, Op.intDiv, hb]) h
theorem x_addi (ho : ops[i]? = some ⟨some d, .binOp .add s x y u, t, p, af, g⟩) (hd : Nat.blt d n = true) (hg : Gd ops e g) (hx : ev e x = some (.int .i64 a)) (hy : ev e y = some (.int .i64 b)) (hb : -9223372036854775808 ≤ a + b ∧ a + b ≤ 9223372036854775807)
  (h : XL P n ops dr (i :: done) r K ((d, .int .i64 (a + b)) :: e) w) : XL P n ops dr done (i :: r) K e w := x_add ho hd hg hx hy (by rw [wrap64 hb]; exact h)
theorem x_subi (ho : ops[i]? = some ⟨some d, .binOp .sub s x y u, t, p, af, g⟩) (hd : Nat.blt d n = true) (hg : Gd ops e g) (hx : ev e x = some (.int .i64 a)) (hy : ev e y = some (.int .i64 b)) (hb : -9223372036854775808 ≤ a - b ∧ a - b ≤ 9223372036854775807)
  (h : XL P n ops dr (i :: done) r K ((d, .int .i64 (a - b)) :: e) w) : XL P n ops dr done (i :: r) K e w := x_sub ho hd hg hx hy (by rw [wrap64 hb]; exact h)
theorem x_muli (ho : ops[i]? = some ⟨some d, .binOp .mul s x y u, t, p, af, g⟩) (hd : Nat.blt d n = true) (hg : Gd ops e g) (hx : ev e x = some (.int .i64 a)) (hy : ev e y = some (.int .i64 b)) (hb : -9223372036854775808 ≤ a * b ∧ a * b ≤ 9223372036854775807)
  (h : XL P n ops dr (i :: done) r K ((d, .int .i64 (a * b)) :: e) w) : XL P n ops dr done (i :: r) K e w := x_mul ho hd hg hx hy (by rw [wrap64 hb]; exact h)
theorem x_and (ho : ops[i]? = some ⟨some d, .binOp .and s x y u, t, p, af, g⟩) (hd : Nat.blt d n = true) (hg : Gd ops e g) (hx : ev e x = some (.int k a)) (hy : ev e y = some (.int k b))
  (h : XL P n ops dr (i :: done) r K ((d, .int k (k.wrap (BitVec.ofInt k.bits a &&& BitVec.ofInt k.bits b).toNat)) :: e) w) : XL P n ops dr done (i :: r) K e w :=
 x_bin ho hd hg (bk rfl) hx hy (fun w' => by simp [run_eqGuard_int, binOp, Op.intBits]) h
theorem x_or (ho : ops[i]? = some ⟨some d, .binOp .or s x y u, t, p, af, g⟩) (hd : Nat.blt d n = true) (hg : Gd ops e g) (hx : ev e x = some (.int k a)) (hy : ev e y = some (.int k b))
  (h : XL P n ops dr (i :: done) r K ((d, .int k (k.wrap (BitVec.ofInt k.bits a ||| BitVec.ofInt k.bits b).toNat)) :: e) w) : XL P n ops dr done (i :: r) K e w :=
 x_bin ho hd hg (bk rfl) hx hy (fun w' => by simp [run_eqGuard_int, binOp, Op.intBits]) h
theorem x_xor (ho : ops[i]? = some ⟨some d, .binOp .xor s x y u, t, p, af, g⟩) (hd : Nat.blt d n = true) (hg : Gd ops e g) (hx : ev e x = some (.int k a)) (hy : ev e y = some (.int k b))
  (h : XL P n ops dr (i :: done) r K ((d, .int k (k.wrap (BitVec.ofInt k.bits a ^^^ BitVec.ofInt k.bits b).toNat)) :: e) w) : XL P n ops dr done (i :: r) K e w :=
 x_bin ho hd hg (bk rfl) hx hy (fun w' => by simp [run_eqGuard_int, binOp, Op.intBits]) h
theorem x_lt (ho : ops[i]? = some ⟨some d, .binOp .lss s x y u, t, p, af, g⟩) (hd : Nat.blt d n = true) (hg : Gd ops e g) (hx : ev e x = some (.int k a)) (hy : ev e y = some (.int k b))
  (h : XL P n ops dr (i :: done) r K ((d, .bool (decide (a < b))) :: e) w) : XL P n ops dr done (i :: r) K e w :=
 x_bin ho hd hg (bk rfl) hx hy (fun w' => by simp [run_eqGuard_int, binOp, Op.intCmp]) h
theorem x_le (ho : ops[i]? = some ⟨some d, .binOp .leq s x y u, t, p, af, g⟩) (hd : Nat.blt d n = true) (hg : Gd ops e g) (hx : ev e x = some (.int k a)) (hy : ev e y = some (.int k b))
  (h : XL P n ops dr (i :: done) r K ((d, .bool (decide (a ≤ b))) :: e) w) : XL P n ops dr done (i :: r) K e w :=
 x_bin ho hd hg (bk rfl) hx hy (fun w' => by simp [run_eqGuard_int, binOp, Op.intCmp]) h
theorem x_gt (ho : ops[i]? = some ⟨some d, .binOp .gtr s x y u, t, p, af, g⟩) (hd : Nat.blt d n = true) (hg : Gd ops e g) (hx : ev e x = some (.int k a)) (hy : ev e y = some (.int k b))
  (h : XL P n ops dr (i :: done) r K ((d, .bool (decide (b < a))) :: e) w) : XL P n ops dr done (i :: r) K e w :=
 x_bin ho hd hg (bk rfl) hx hy (fun w' => by simp [run_eqGuard_int, binOp, Op.intCmp]) h
theorem x_ge (ho : ops[i]? = some ⟨some d, .binOp .geq s x y u, t, p, af, g⟩) (hd : Nat.blt d n = true) (hg : Gd ops e g) (hx : ev e x = some (.int k a)) (hy : ev e y = some (.int k b))
  (h : XL P n ops dr (i :: done) r K ((d, .bool (decide (b ≤ a))) :: e) w) : XL P n ops dr done (i :: r) K e w :=
 x_bin ho hd hg (bk rfl) hx hy (fun w' => by simp [run_eqGuard_int, binOp, Op.intCmp]) h
theorem x_eq (ho : ops[i]? = some ⟨some d, .binOp .eql s x y u, t, p, af, g⟩) (hd : Nat.blt d n = true) (hg : Gd ops e g) (hk : okind P (.binOp .eql s x y u) = 0) (hx : ev e x = some (.int k a)) (hy : ev e y = some (.int k b))
  (h : XL P n ops dr (i :: done) r K ((d, .bool (decide (a = b))) :: e) w) : XL P n ops dr done (i :: r) K e w :=
 x_bin ho hd hg hk hx hy (fun w' => by simp [run_eqGuard_int, binOp, Op.intCmp]; by_cases h : a = b <;> simp [h]) h
theorem x_ne (ho : ops[i]? = some ⟨some d, .binOp .neq s x y u, t, p, af, g⟩) (hd : Nat.blt d n = true) (hg : Gd ops e g) (hk : okind P (.binOp .neq s x y u) = 0) (hx : ev e x = some (.int k a)) (hy : ev e y = some (.int k b))
  (h : XL P n ops dr (i :: done) r K ((d, .bool (decide (a ≠ b))) :: e) w) : XL P n ops dr done (i :: r) K e w :=
 x_bin ho hd hg hk hx hy (fun w' => by simp [run_eqGuard_int, binOp, Op.intCmp]; by_cases h : a = b <;> simp [h, bne]) h
theorem x_not {q : Bool} (ho : ops[i]? = some ⟨some d, .unOp .not s x, t, p, af, g⟩) (hd : Nat.blt d n = true) (hg : Gd ops e g) (hx : ev e x = some (.bool q))
  (h : XL P n ops dr (i :: done) r K ((d, .bool (!q)) :: e) w) : XL P n ops dr done (i :: r) K e w :=
 xl_pure ho (by simpa [dstOk] using hd) hg (ρ := rh e) (by intro z hZ; simp [Op.operands] at hZ; exact oh1 hx hZ) rfl (v := .bool (!q)) (fun w' => by simp [execOp, rh_of hx, Op.unary]) h
theorem x_notp {q : Prop} [Decidable q] (ho : ops[i]? = some ⟨some d, .unOp .not s x, t, p, af, g⟩) (hd : Nat.blt d n = true) (hg : Gd ops e g) (hx : ev e x = some (.bool (decide q)))
  (h : XL P n ops dr (i :: done) r K ((d, .bool (decide (¬ q))) :: e) w) : XL P n ops dr done (i :: r) K e w :=
 x_not ho hd hg hx (by rw [show (!decide q) = decide (¬ q) by simp]; exact h)
theorem x_conv {k' : IntKind} {D : TypeDesc} (ho : ops[i]? = some ⟨some d, .convert s u x, t, p, af, g⟩) (hd : Nat.blt d n = true) (hg : Gd ops e g) (hk : okind P (.convert s u x) = 0) (hs : P.underlying s = some D) (hu : P.underlying u = some (.int k')) (hx : ev e x = some (.int k a))
  (h : XL P n ops dr (i :: done) r K ((d, .int k' (k'.wrap a)) :: e) w) : XL P n ops dr done (i :: r) K e w :=
 xl_pure ho (by simpa [dstOk] using hd) hg (ρ := rh e) (by intro z hZ; simp [Op.operands] at hZ; exact oh1 hx hZ) hk (v := .int k' (k'.wrap a))
  (fun w' => by simp [execOp, rh_of hx, convert, run_underlying hs, run_underlying hu, Conv.intToInt]) h
theorem x_nc {q : Addr} (ho : ops[i]? = some ⟨some d, .nilCheck x, t, p, af, g⟩) (hd : Nat.blt d n = true) (hg : Gd ops e g) (hx : ev e x = some (.pointer (some q)))
  (h : XL P n ops dr (i :: done) r K ((d, .pointer (some q)) :: e) w) : XL P n ops dr done (i :: r) K e w :=
 xl_pure ho (by simpa [dstOk] using hd) hg (ρ := rh e) (by intro z hZ; simp [Op.operands] at hZ; exact oh1 hx hZ) rfl (v := .pointer (some q)) (fun w' => by simp [execOp, rh_of hx]) h
theorem x_ext {j : Nat} {vs : Array Value} {v : Value} (ho : ops[i]? = some ⟨some d, .extract x j, t, p, af, g⟩) (hd : Nat.blt d n = true) (hg : Gd ops e g) (hx : ev e x = some (.tuple vs)) (hv : vs.toList[j]? = some v)
  (h : XL P n ops dr (i :: done) r K ((d, v) :: e) w) : XL P n ops dr done (i :: r) K e w :=
 xl_pure ho (by simpa [dstOk] using hd) hg (ρ := rh e) (by intro z hZ; simp [Op.operands] at hZ; exact oh1 hx hZ) rfl (v := v) (fun w' => by
  have hv' : vs[j]? = some v := by simpa using hv
  simp [execOp, rh_of hx, Instr.extract, hv']) h
theorem x_mkf {f : Fn} {c1 c2 : Array Operand} {v1 v2 : Array Value} (ho : ops[i]? = some ⟨some d, .makeFunc f c1 c2, t, p, af, g⟩) (hd : Nat.blt d n = true) (hg : Gd ops e g) (hx : ∀ z ∈ c1 ++ c2, ∃ v, ev e z = some v)
  (h1 : c1.map (rh e) = v1) (h2 : c2.map (rh e) = v2) (h : XL P n ops dr (i :: done) r K ((d, .func f v1 v2) :: e) w) : XL P n ops dr done (i :: r) K e w :=
 xl_pure ho (by simpa [dstOk] using hd) hg (ρ := rh e) (by intro z hz; obtain ⟨v, hv⟩ := hx z hz; exact rh_k hv) rfl (v := .func f v1 v2) (fun w' => by simp [execOp, Instr.makeFunc, h1, h2]) h
theorem x_mki {D : TypeDesc} {v : Value} (ho : ops[i]? = some ⟨some d, .makeInterface s x, t, p, af, g⟩) (hd : Nat.blt d n = true) (hg : Gd ops e g) (hs : P.underlying s = some D) (hD : ∀ ms, D ≠ .interface ms) (hx : ev e x = some v)
  (h : XL P n ops dr (i :: done) r K ((d, .iface s v) :: e) w) : XL P n ops dr done (i :: r) K e w :=
 xl_pure ho (by simpa [dstOk] using hd) hg (ρ := rh e) (by intro z hZ; simp [Op.operands] at hZ; exact oh1 hx hZ) rfl (v := .iface s v) (fun w' => by
  simp only [execOp, rh_of hx, Instr.makeInterface, Sem.run_bind, run_underlying hs, Result.andThen_ok]
  cases D <;> first | rfl | exact absurd rfl (hD _)) h
theorem add_lit {b o k : Nat} : (⟨b, o, none⟩ : Addr).add k = ⟨b, o + k, none⟩ := by unfold Addr.add; split <;> simp_all
def fieldOff (P : Program) (s : TypeId) (f : Nat) : Option Nat :=
 match P.underlying s with
 | some (.struct fs) => match fs[f]? with
  | some fl => match P.info? fl.type with
   | some inf => if inf.size = 0 then none else some fl.offset
   | none => none
  | none => none
 | _ => none
theorem run_fieldAt {f b o k : Nat} (hf : fieldOff P s f = some k) (w : World) : (Instr.fieldAt s (.pointer (some ⟨b, o, none⟩)) f).run P w = .ok (.pointer (some ⟨b, o + k, none⟩)) w := by
 unfold fieldOff at hf
 split at hf
 ·rename_i fs hs
  split at hf
  ·rename_i fl hfl
   split at hf
   ·rename_i inf hinf
    split at hf
    ·cases hf
    rename_i h0
    cases hf
    simp [Instr.fieldAt, run_underlying hs, hfl, Instr.sureAddr, fieldPlace, sizeOf, typeInfo, hinf, h0, add_lit]
   cases hf
  cases hf
 cases hf
theorem x_fldk {f b o k : Nat} (ho : ops[i]? = some ⟨some d, .fieldAddr s x f, t, p, af, g⟩) (hd : Nat.blt d n = true) (hg : Gd ops e g) (hf : fieldOff P s f = some k) (hx : ev e x = some (.pointer (some ⟨b, o, none⟩)))
  (h : XL P n ops dr (i :: done) r K ((d, .pointer (some ⟨b, o + k, none⟩)) :: e) w) : XL P n ops dr done (i :: r) K e w :=
 xl_pure ho (by simpa [dstOk] using hd) hg (ρ := rh e) (by intro z hZ; simp [Op.operands] at hZ; exact oh1 hx hZ) rfl (v := .pointer (some ⟨b, o + k, none⟩)) (fun w' => by simp only [execOp, rh_of hx, Sem.run_bind, run_fieldAt hf]; rfl) h
theorem x_fld {f b k : Nat} (ho : ops[i]? = some ⟨some d, .fieldAddr s x f, t, p, af, g⟩) (hd : Nat.blt d n = true) (hg : Gd ops e g) (hf : fieldOff P s f = some k) (hx : ev e x = some (.pointer (some ⟨b, 0, none⟩)))
  (h : XL P n ops dr (i :: done) r K ((d, .pointer (some ⟨b, k, none⟩)) :: e) w) : XL P n ops dr done (i :: r) K e w := x_fldk ho hd hg hf hx (by rw [Nat.zero_add]; exact h)
theorem x_idx {c : TypeId} {b o len cap z : Nat} (ho : ops[i]? = some ⟨some d, .indexAddr s x y, t, p, af, g⟩) (hd : Nat.blt d n = true) (hg : Gd ops e g) (hs : P.underlying s = some (.slice c)) (hz : (P.info? c).map (·.size) = some z)
  (hx : ev e x = some (.slice (some ⟨b, o, none⟩) len cap)) (hy : ev e y = some (.int k a)) (ha : 0 ≤ a ∧ a < len)
  (h : XL P n ops dr (i :: done) r K ((d, .pointer (some ⟨b, o + a.toNat * z, none⟩)) :: e) w) : XL P n ops dr done (i :: r) K e w :=
 xl_pure ho (by simpa [dstOk] using hd) hg (ρ := rh e) (by intro z hZ; simp [Op.operands] at hZ; exact oh2 hx hy hZ) rfl (v := .pointer (some ⟨b, o + a.toNat * z, none⟩)) (fun w' => by
  cases hi : P.info? c with
  | none => simp [hi] at hz
  | some inf =>
   have hsz : inf.size = z := by simpa [hi] using hz
   simp [execOp, rh_of hx, rh_of hy, Instr.indexAt, asIntOf, run_underlying hs, ha.1, ha.2, sizeOf, typeInfo, hi, hsz, add_lit]) h
theorem x_idx1 {c : TypeId} {b o len cap : Nat} (ho : ops[i]? = some ⟨some d, .indexAddr s x y, t, p, af, g⟩) (hd : Nat.blt d n = true) (hg : Gd ops e g) (hs : P.underlying s = some (.slice c)) (hz : (P.info? c).map (·.size) = some 1)
  (hx : ev e x = some (.slice (some ⟨b, o, none⟩) len cap)) (hy : ev e y = some (.int k a)) (ha : 0 ≤ a ∧ a < len)
  (h : XL P n ops dr (i :: done) r K ((d, .pointer (some ⟨b, o + a.toNat, none⟩)) :: e) w) : XL P n ops dr done (i :: r) K e w := x_idx ho hd hg hs hz hx hy ha (by rw [Nat.mul_one]; exact h)
theorem x_len {c : TypeId} {q : Option Addr} {len cap : Nat} (ho : ops[i]? = some ⟨some d, .call ⟨.builtin .len, #[x], #[s]⟩, t, p, af, g⟩) (hd : Nat.blt d n = true) (hg : Gd ops e g) (hk : okind P (.call ⟨.builtin .len, #[x], #[s]⟩) = 0) (hs : P.underlying s = some (.slice c))
  (hx : ev e x = some (.slice q len cap)) (h : XL P n ops dr (i :: done) r K ((d, .int .i64 len) :: e) w) : XL P n ops dr done (i :: r) K e w :=
 xl_pure ho (by simpa [dstOk] using hd) hg (ρ := rh e) (by intro z hZ; simp [Op.operands, Call.operands] at hZ; exact oh1 hx hZ) hk (v := .int .i64 len)
  (fun w' => by simp [execOp, resolve, invoke, builtin, rh_of hx, Builtin.len_, run_underlying hs, goInt]) h
theorem run_bound {k : IntKind} {v : Int} {y : Nat} {c : BoundsCode} (h0 : 0 ≤ v ∧ v ≤ y) (w : World) : (Instr.sliceBound (.int k v) y c).run P w = .ok v.toNat w := by
 simp [Instr.sliceBound, asIntOf, h0.1, h0.2]
theorem x_cut {c : TypeId} {b o len cap z : Nat} {lo hi : Int} {kl kh : IntKind} {l h' : Operand} (ho : ops[i]? = some ⟨some d, .slice s x (some l) (some h') none, t, p, af, g⟩) (hd : Nat.blt d n = true) (hg : Gd ops e g) (hs : P.underlying s = some (.slice c)) (hz : (P.info? c).map (·.size) = some z)
  (hx : ev e x = some (.slice (some ⟨b, o, none⟩) len cap)) (hl : ev e l = some (.int kl lo)) (hh : ev e h' = some (.int kh hi)) (hb : 0 ≤ lo ∧ lo ≤ hi ∧ hi ≤ cap) (hlc : lo < cap)
  (h : XL P n ops dr (i :: done) r K ((d, .slice (some ⟨b, o + lo.toNat * z, none⟩) (hi.toNat - lo.toNat) (cap - lo.toNat)) :: e) w) : XL P n ops dr done (i :: r) K e w :=
 xl_pure ho (by simpa [dstOk] using hd) hg (ρ := rh e) (by intro z hZ; simp [Op.operands] at hZ; exact oh3 hx hl hh hZ) rfl
  (v := .slice (some ⟨b, o + lo.toNat * z, none⟩) (hi.toNat - lo.toNat) (cap - lo.toNat)) (fun w' => by
   cases hi' : P.info? c with
   | none => simp [hi'] at hz
   | some inf =>
    have hsz : inf.size = z := by simpa [hi'] using hz
    have h1 := run_bound (P := P) (k := kh) (v := hi) (y := cap) (c := .sliceAcap) ⟨by omega, hb.2.2⟩ w'
    have h2 := run_bound (P := P) (k := kl) (v := lo) (y := hi.toNat) (c := .sliceB) ⟨hb.1, by omega⟩ w'
    have hne : ¬ cap = lo.toNat := by omega
    simp [execOp, rh_of hx, rh_of hl, rh_of hh, Instr.sliceAt, Instr.slice, Instr.sliceBounds, run_underlying hs, h1, h2, sizeOf, typeInfo, hi', hsz, hne, add_lit]) h
theorem x_cutH {c : TypeId} {q : Option Addr} {len cap : Nat} {hi : Int} {kh : IntKind} {h' : Operand} (ho : ops[i]? = some ⟨some d, .slice s x none (some h') none, t, p, af, g⟩) (hd : Nat.blt d n = true) (hg : Gd ops e g) (hs : P.underlying s = some (.slice c)) (hz : ((P.info? c).map (·.size)).isSome = true)
  (hx : ev e x = some (.slice q len cap)) (hq : ∀ a, q = some a → a.spot = none) (hh : ev e h' = some (.int kh hi)) (hb : 0 ≤ hi ∧ hi ≤ cap)
  (h : XL P n ops dr (i :: done) r K ((d, .slice q hi.toNat cap) :: e) w) : XL P n ops dr done (i :: r) K e w :=
 xl_pure ho (by simpa [dstOk] using hd) hg (ρ := rh e) (by intro z hZ; simp [Op.operands] at hZ; exact oh2 hx hh hZ) rfl
  (v := .slice q hi.toNat cap) (fun w' => by
   cases hi' : P.info? c with
   | none => simp [hi'] at hz
   | some inf =>
    have h1 := run_bound (P := P) (k := kh) (v := hi) (y := cap) (c := .sliceAcap) hb w'
    cases q with
    | none => simp [execOp, rh_of hx, rh_of hh, Instr.sliceAt, Instr.slice, Instr.sliceBounds, run_underlying hs, h1, sizeOf, typeInfo, hi']
    | some a => simp [execOp, rh_of hx, rh_of hh, Instr.sliceAt, Instr.slice, Instr.sliceBounds, run_underlying hs, h1, sizeOf, typeInfo, hi', Addr.add]) h
theorem x_cutL {c : TypeId} {b o len cap z : Nat} {lo : Int} {kl : IntKind} {l : Operand} (ho : ops[i]? = some ⟨some d, .slice s x (some l) none none, t, p, af, g⟩) (hd : Nat.blt d n = true) (hg : Gd ops e g) (hs : P.underlying s = some (.slice c)) (hz : (P.info? c).map (·.size) = some z)
  (hx : ev e x = some (.slice (some ⟨b, o, none⟩) len cap)) (hl : ev e l = some (.int kl lo)) (hb : 0 ≤ lo ∧ lo ≤ len) (hlc : lo < cap)
  (h : XL P n ops dr (i :: done) r K ((d, .slice (some ⟨b, o + lo.toNat * z, none⟩) (len - lo.toNat) (cap - lo.toNat)) :: e) w) : XL P n ops dr done (i :: r) K e w :=
 xl_pure ho (by simpa [dstOk] using hd) hg (ρ := rh e) (by intro z hZ; simp [Op.operands] at hZ; exact oh2 hx hl hZ) rfl
  (v := .slice (some ⟨b, o + lo.toNat * z, none⟩) (len - lo.toNat) (cap - lo.toNat)) (fun w' => by
   cases hi' : P.info? c with
   | none => simp [hi'] at hz
   | some inf =>
    have hsz : inf.size = z := by simpa [hi'] using hz
    have h2 := run_bound (P := P) (k := kl) (v := lo) (y := len) (c := .sliceB) hb w'
    have hne : ¬ cap = lo.toNat := by omega
    simp [execOp, rh_of hx, rh_of hl, Instr.sliceAt, Instr.slice, Instr.sliceBounds, run_underlying hs, h2, sizeOf, typeInfo, hi', hsz, hne, add_lit]) h
theorem x_build {ps : Array (Nat × Operand)} {vs : List Value} {v : Value} (ho : ops[i]? = some ⟨some d, .build s ps, t, p, af, g⟩) (hd : Nat.blt d n = true) (hg : Gd ops e g) (hx : evs e (ps.toList.map (·.2)) = some vs)
  (hr : ∀ w', (Instr.build s ((ps.toList.map (·.1)).zip vs).toArray).run P w' = .ok v w')
  (h : XL P n ops dr (i :: done) r K ((d, v) :: e) w) : XL P n ops dr done (i :: r) K e w := by
 obtain ⟨hk, hm⟩ := evs_mem hx
 refine xl_pure ho (by simpa [dstOk] using hd) hg (ρ := rh e) (by intro z hz; exact hk z (by simpa [Op.operands] using hz)) rfl (v := v) (fun w' => ?_) h
 have e1 : (ps.map fun (j, z) => (j, rh e z)) = ((ps.toList.map (·.1)).zip vs).toArray := by
  apply Array.ext'
  rw [← hm]
  simp only [Array.toList_map]
  generalize ps.toList = q
  induction q with
  | nil => rfl
  | cons x q ih => obtain ⟨a, b⟩ := x; simp only [List.map_cons, List.zip_cons_cons, ih]
 simp only [execOp, e1, Sem.run_bind, hr]; rfl
end
def blk (b : Nat) (l : List Value) (T : TypeId) : Assn := pt b (.cells l.toArray T (0, 0))
def Rd (w : World) (a : Addr) (cs : List Value) : Prop := ∀ j u, cs[j]? = some u → w.cell? (a.add j) = some u
def aggB (P : Program) (t : TypeId) : Bool := match P.underlying t with | some (.struct _) | some (.array _ _) => true | _ => false
def oneB (P : Program) (t : TypeId) : Bool := (P.underlying t).isSome && !aggB P t && (P.info? t).any (·.size == 1)
def manyB (P : Program) (t : TypeId) (z : Nat) : Bool := aggB P t && (P.info? t).any (·.size == z)
def zeroOf (P : Program) (t : TypeId) : Option (Array Value) := (P.info? t).bind fun i => i.zero.map Value.cells
def rep (n : Nat) (v : Value) : List Value := List.replicate n v
@[simp] theorem rep_length (n : Nat) (v : Value) : (rep n v).length = n := List.length_replicate ..
section
variable {P : Program} {w : World} {t : TypeId} {a : Addr} {v : Value} {g : Gh} {L R : List Assn} {b o : Nat} {l : List Value} {T : TypeId}
theorem run_isAgg {x : Bool} (h : aggB P t = x) (hs : (P.underlying t).isSome = true) (w : World) : (isAgg t).run P w = .ok x w := by
 cases hu : P.underlying t with
 | none => rw [hu] at hs; cases hs
 | some d =>
  unfold aggB at h; rw [hu] at h
  unfold isAgg
  rw [Sem.run_bind, run_underlying hu w]
  cases d <;> simp_all
theorem oneB_spec (h : oneB P t = true) : (P.underlying t).isSome = true ∧ aggB P t = false ∧ ∃ i, P.info? t = some i ∧ i.size = 1 := by
 simp only [oneB, Bool.and_eq_true, Bool.not_eq_true', Option.any_eq_true] at h
 obtain ⟨⟨h1, h2⟩, i, hi, h3⟩ := h
 exact ⟨h1, h2, i, hi, by simpa using h3⟩
theorem manyB_spec {z : Nat} (h : manyB P t z = true) : (P.underlying t).isSome = true ∧ aggB P t = true ∧ ∃ i, P.info? t = some i ∧ i.size = z := by
 simp only [manyB, Bool.and_eq_true, Option.any_eq_true] at h
 obtain ⟨h1, i, hi, h3⟩ := h
 refine ⟨?_, h1, i, hi, by simpa using h3⟩
 unfold aggB at h1
 cases hu : P.underlying t with
 | none => rw [hu] at h1; cases h1
 | some d => rfl
theorem cell_blk (h : Sat g L w) (p : Pick (blk b l T) L R) : w.cell? ⟨b, o, none⟩ = l[o]? := by
 rw [cell_of_row w b o _ _ _ (h.pt p)]; simp
theorem Rd.of_blk (h : Sat g L w) (p : Pick (blk b l T) L R) : Rd w ⟨b, o, none⟩ (l.drop o) := fun j u hu => by
 rw [add_lit, cell_blk h p]; simpa [List.getElem?_drop] using hu
theorem Rd.take {cs : List Value} (h : Rd w a cs) (m : Nat) : Rd w a (cs.take m) := fun j u hu => by
 rw [List.getElem?_take] at hu
 split at hu
 ·exact h j u hu
 cases hu
theorem Rd.drop {cs : List Value} {b o : Nat} (h : Rd w ⟨b, o, none⟩ cs) (m : Nat) : Rd w ⟨b, o + m, none⟩ (cs.drop m) := fun j u hu => by
 rw [add_lit, Nat.add_assoc, ← add_lit]; exact h (m + j) u (by simpa [List.getElem?_drop] using hu)
theorem Rd.nil {a : Addr} : Rd w a [] := fun j u hu => by simp at hu
theorem Loads.one (h : oneB P t = true) (hc : w.cell? a = some v) : Loads P w t a v := by
 obtain ⟨h1, h2, _⟩ := oneB_spec h
 unfold Loads loadVar
 rw [Sem.run_bind, run_isAgg h2 h1]
 simp [load, Sem.run, hc]
theorem Loads.many {z : Nat} {cs : List Value} (h : manyB P t z = true) (hz : cs.length = z) (hr : Rd w a cs) : Loads P w t a (.agg cs.toArray) := by
 obtain ⟨h1, h2, i, hi, hs⟩ := manyB_spec h
 unfold Loads loadVar
 rw [Sem.run_bind, run_isAgg h2 h1]
 have hl := run_loadCells_list (P := P) w a cs hr
 simp [sizeOf, typeInfo, hi, hs, ← hz, hl]
theorem Loads.blk1 (h : oneB P t = true) (hw : Sat g L w) (p : Pick (blk b l T) L R) (hv : l[o]? = some v) : Loads P w t ⟨b, o, none⟩ v := Loads.one h (by rw [cell_blk hw p]; exact hv)
theorem Loads.blkN {z : Nat} {cs : List Value} (h : manyB P t z = true) (hw : Sat g L w) (p : Pick (blk b l T) L R) (hv : (l.drop o).take z = cs) (hz : cs.length = z) : Loads P w t ⟨b, o, none⟩ (.agg cs.toArray) :=
 Loads.many h hz (by rw [← hv]; exact (Rd.of_blk hw p).take z)
theorem Loads.blkA {z : Nat} (h : manyB P t z = true) (hw : Sat g L w) (p : Pick (blk b l T) L R) (hz : l.length = z) : Loads P w t ⟨b, 0, none⟩ (.agg l.toArray) :=
 Loads.many h hz (by have := Rd.of_blk (o := 0) hw p; simpa using this)
def Ones (cs : List Value) : Prop := ∀ u ∈ cs, u.oneCell' = true
theorem setRow_eq (h : w.heap[b]? = some (.cells l.toArray T (0, 0))) (c : Array Value) : w.setRow b c = { w with heap := w.heap.setIfInBounds b (.cells c T (0, 0)) } := by
 have hlt := (Array.getElem?_eq_some_iff.1 h).1
 have hget : w.heap[b] = .cells l.toArray T (0, 0) := by simpa [Array.getElem?_eq_getElem hlt] using h
 unfold World.setRow
 congr 1
 apply Array.ext
 ·simp
 intro i h1 h2
 by_cases e : b = i
 ·subst e; simp [Array.getElem_modify, hget]
 rw [Array.getElem_modify, if_neg e, Array.getElem_setIfInBounds, if_neg e]
theorem Sat.setBlk (h : Sat g L w) (p : Pick (blk b l T) L R) (l' : List Value) : Sat g (blk b l' T :: R) (w.setRow b l'.toArray) := by
 have h1 := h.pick p
 rw [setRow_eq h1.pt_head]
 exact h1.set _
theorem run_storeBlk (h : Sat g L w) (p : Pick (blk b l T) L R) {cs : List Value} (h1 : Ones cs) (hl : o + cs.length ≤ l.length) :
  (storeCells ⟨b, o, none⟩ cs).run P w = .ok () (w.setRow b (l.take o ++ cs ++ l.drop (o + cs.length)).toArray) := by
 have := run_storeCells_at P b o T cs 0 l.toArray w (h.pt p) (by simpa using hl) h1
 simpa using this
end
section
variable {P : Program} {n : Nat} {ops : Array Oper} {dr : Bool} {done r : List Nat} {K : Env → World → Prop} {e : Env} {w : World} {i d : Nat} {t : TypeId} {p : String} {af : Array Edge} {g : Option (Nat × Bool)}
variable {G : Gh} {L R : List Assn} {s T : TypeId} {x y : Operand} {b o : Nat} {l : List Value} {v : Value}
theorem noPend {dst : Option Tmp} {v : Value} {w' : World} (hp : pend P ops dr done i = []) : ∀ q ∈ pend P ops dr done i, ChkE P n ops q (putE e dst v) w' := fun q hq => by rw [hp] at hq; cases hq
theorem pend_mem {q : Nat} {l : List Nat} (h : pend P ops dr done i = l) (hq : q ∈ pend P ops dr done i) : q ∈ l := h ▸ hq
theorem chk_ld {q d : Nat} {a : Addr} {gq : Option (Nat × Bool)} {pq : String} {aq : Array Edge} {tq : TypeId} (ho : ops[q]? = some ⟨some d, .load s x, tq, pq, aq, gq⟩) (hx : ev e x = some (.pointer (some a))) (hv : get e d = some v) (hl : Loads P w s a v) :
  ChkE P n ops q e w := by
 intro o' ho' a' ha hwant
 have : o' = ⟨some d, .load s x, tq, pq, aq, gq⟩ := Option.some.inj (ho'.symm.trans ho)
 subst this
 refine ⟨v, ?_, fun d' hd' => ?_⟩
 ·have hxa := ha.ev hx
  unfold Loads at hl
  simp only [execOp, hxa, Instr.loadAt, Instr.sureAddr, Sem.run_bind, Sem.run_pure, Result.andThen_ok, hl]
 cases hd'; exact ha.get d v hv
theorem chk_not {q j dj : Nat} {want b : Bool} {oq : Oper} (ho : ops[q]? = some oq) (hg : oq.guard = some (j, want)) (hj : (ops[j]?).bind (·.dst) = some dj) (hv : get e dj = some (.bool b)) (hb : b = !want) : ChkE P n ops q e w := by
 intro o' ho' a' ha hwant
 have : o' = oq := Option.some.inj (ho'.symm.trans ho)
 subst this
 simp [Region.wanted, hg, yielded_of ha hj hv, hb] at hwant
theorem x_ld {a : Addr} (ho : ops[i]? = some ⟨some d, .load s x, t, p, af, g⟩) (hd : Nat.blt d n = true) (hg : Gd ops e g) (hx : ev e x = some (.pointer (some a))) (hl : Loads P w s a v)
  (h : XL P n ops dr (i :: done) r K ((d, v) :: e) w) : XL P n ops dr done (i :: r) K e w :=
 xl_read ho (by simpa [dstOk] using hd) hg (ρ := rh e) (by intro z hZ; simp [Op.operands] at hZ; exact oh1 hx hZ) rfl (v := v)
  (by unfold Loads at hl; simp only [execOp, rh_of hx, Instr.loadAt, Instr.sureAddr, Sem.run_bind, Sem.run_pure, Result.andThen_ok, hl]) h
theorem x_st1P {l' : List Value} (ho : ops[i]? = some ⟨none, .store s x y, t, p, af, g⟩) (hg : Gd ops e g) (hx : ev e x = some (.pointer (some ⟨b, o, none⟩))) (hy : ev e y = some v) (h1 : oneB P s = true) (hv : v.oneCell' = true)
  (hw : Sat G L w) (hp : Pick (blk b l T) L R) (hol : Nat.blt o l.length = true) (hl' : l.set o v = l')
  (hpd : ∀ w', Sat G (blk b l' T :: R) w' → ∀ q ∈ pend P ops dr done i, ChkE P n ops q e w')
  (h : ∀ w', Sat G (blk b l' T :: R) w' → XL P n ops dr (i :: done) r K e w') : XL P n ops dr done (i :: r) K e w := by
 subst hl'
 have hol' : o < l.length := by simpa using hol
 have hs : Sat G (blk b (l.set o v) T :: R) (w.setRow b (l.set o v).toArray) := hw.setBlk hp _
 refine xl_effu ho rfl hg (ρ := rh e) (by intro z hZ; simp [Op.operands] at hZ; exact oh2 hx hy hZ) rfl (w' := w.setRow b (l.set o v).toArray) ?_ (hpd _ hs) (h _ hs)
 obtain ⟨_, _, inf, hi, hsz⟩ := oneB_spec h1
 have hcs : v.cells = #[v] := by cases v <;> first | rfl | (simp [Value.oneCell'] at hv)
 have hst := run_storeBlk (P := P) (o := o) (cs := [v]) hw hp (fun u hu => by simp at hu; subst hu; exact hv) (by simp; omega)
 have hset : l.take o ++ [v] ++ l.drop (o + [v].length) = l.set o v := by
  rw [List.set_eq_take_append_cons_drop, if_pos hol']; simp
 rw [hset] at hst
 simp only [execOp, rh_of hx, rh_of hy, Instr.storeAt, Instr.sureAddr, storeVar, Sem.run_bind, Sem.run_pure, Result.andThen_ok, sizeOf, typeInfo, program, hi, Sem.run, hcs, hsz]
 simp [hst]
theorem x_st1 {l' : List Value} (ho : ops[i]? = some ⟨none, .store s x y, t, p, af, g⟩) (hg : Gd ops e g) (hx : ev e x = some (.pointer (some ⟨b, o, none⟩))) (hy : ev e y = some v) (h1 : oneB P s = true) (hv : v.oneCell' = true)
  (hw : Sat G L w) (hp : Pick (blk b l T) L R) (hol : Nat.blt o l.length = true) (hl' : l.set o v = l') (hpd : pend P ops dr done i = [])
  (h : ∀ w', Sat G (blk b l' T :: R) w' → XL P n ops dr (i :: done) r K e w') : XL P n ops dr done (i :: r) K e w :=
 x_st1P ho hg hx hy h1 hv hw hp hol hl' (fun w' _ => noPend (dst := none) (v := undef) hpd) h
theorem x_stNP {z : Nat} {cs l' : List Value} (ho : ops[i]? = some ⟨none, .store s x y, t, p, af, g⟩) (hg : Gd ops e g) (hx : ev e x = some (.pointer (some ⟨b, o, none⟩))) (hy : ev e y = some (.agg cs.toArray)) (h1 : manyB P s z = true) (hz : cs.length = z) (hv : Ones cs)
  (hw : Sat G L w) (hp : Pick (blk b l T) L R) (hol : o + z ≤ l.length) (hl' : l.take o ++ cs ++ l.drop (o + z) = l') (hpd : ∀ w', Sat G (blk b l' T :: R) w' → ∀ q ∈ pend P ops dr done i, ChkE P n ops q e w')
  (h : ∀ w', Sat G (blk b l' T :: R) w' → XL P n ops dr (i :: done) r K e w') : XL P n ops dr done (i :: r) K e w := by
 subst hl'
 refine xl_effu ho rfl hg (ρ := rh e) (by intro z hZ; simp [Op.operands] at hZ; exact oh2 hx hy hZ) rfl (w' := w.setRow b (l.take o ++ cs ++ l.drop (o + z)).toArray) ?_ (hpd _ (hw.setBlk hp _)) (h _ (hw.setBlk hp _))
 obtain ⟨_, _, inf, hi, hsz⟩ := manyB_spec h1
 have hst := run_storeBlk (P := P) (o := o) (cs := cs) hw hp hv (by omega)
 rw [hz] at hst
 simp only [execOp, rh_of hx, rh_of hy, Instr.storeAt, Instr.sureAddr, storeVar, Sem.run_bind, Sem.run_pure, Result.andThen_ok, sizeOf, typeInfo, program, hi, Sem.run, Value.cells, hsz]
 simp [hz, hst]
theorem x_stN {z : Nat} {cs l' : List Value} (ho : ops[i]? = some ⟨none, .store s x y, t, p, af, g⟩) (hg : Gd ops e g) (hx : ev e x = some (.pointer (some ⟨b, o, none⟩))) (hy : ev e y = some (.agg cs.toArray)) (h1 : manyB P s z = true) (hz : cs.length = z) (hv : Ones cs)
  (hw : Sat G L w) (hp : Pick (blk b l T) L R) (hol : o + z ≤ l.length) (hl' : l.take o ++ cs ++ l.drop (o + z) = l') (hpd : pend P ops dr done i = [])
  (h : ∀ w', Sat G (blk b l' T :: R) w' → XL P n ops dr (i :: done) r K e w') : XL P n ops dr done (i :: r) K e w :=
 x_stNP ho hg hx hy h1 hz hv hw hp hol hl' (fun w' _ => noPend (dst := none) (v := undef) hpd) h
theorem x_allocP {c : List Value} (ho : ops[i]? = some ⟨some d, .alloc s, t, p, af, g⟩) (hd : Nat.blt d n = true) (hg : Gd ops e g) (hz : zeroOf P s = some c.toArray) (hw : Sat G L w) (hpd : ∀ w' b, Sat G (blk b c s :: L) w' → ∀ q ∈ pend P ops dr done i, ChkE P n ops q ((d, .pointer (some ⟨b, 0, none⟩)) :: e) w')
  (h : ∀ w' b, Sat G (blk b c s :: L) w' → XL P n ops dr (i :: done) r K ((d, .pointer (some ⟨b, 0, none⟩)) :: e) w') : XL P n ops dr done (i :: r) K e w := by
 refine xl_eff ho (by simpa [dstOk] using hd) hg (ρ := rh e) (by intro z hZ; simp [Op.operands] at hZ) rfl (v := .pointer (some ⟨w.heap.size, 0, none⟩)) (w' := { w with heap := w.heap.push (.cells c.toArray s (0, 0)) }) ?_ (hpd _ _ (hw.push _)) (h _ _ (hw.push _))
 unfold zeroOf at hz
 cases hi : P.info? s with
 | none => simp [hi] at hz
 | some inf =>
  cases hzz : inf.zero with
  | none => simp [hi, hzz] at hz
  | some z =>
   have hc : z.cells = c.toArray := by simpa [hi, hzz] using hz
   simp [execOp, Instr.alloc, zeroValue, typeInfo, hi, hzz, newVar, newRow, hc]
theorem x_alloc {c : List Value} (ho : ops[i]? = some ⟨some d, .alloc s, t, p, af, g⟩) (hd : Nat.blt d n = true) (hg : Gd ops e g) (hz : zeroOf P s = some c.toArray) (hw : Sat G L w) (hpd : pend P ops dr done i = [])
  (h : ∀ w' b, Sat G (blk b c s :: L) w' → XL P n ops dr (i :: done) r K ((d, .pointer (some ⟨b, 0, none⟩)) :: e) w') : XL P n ops dr done (i :: r) K e w :=
 x_allocP ho hd hg hz hw (fun w' b _ => noPend (dst := some d) hpd) h
theorem x_box {c : List Value} (ho : ops[i]? = some ⟨some d, .box s x, t, p, af, g⟩) (hd : Nat.blt d n = true) (hg : Gd ops e g) (hx : ev e x = some v) (hc : v.cells = c.toArray) (hw : Sat G L w) (hpd : pend P ops dr done i = [])
  (h : ∀ w' b, Sat G (blk b c s :: L) w' → XL P n ops dr (i :: done) r K ((d, .pointer (some ⟨b, 0, none⟩)) :: e) w') : XL P n ops dr done (i :: r) K e w := by
 refine xl_eff ho (by simpa [dstOk] using hd) hg (ρ := rh e) (by intro z hZ; simp [Op.operands] at hZ; exact oh1 hx hZ) rfl (v := .pointer (some ⟨w.heap.size, 0, none⟩)) (w' := { w with heap := w.heap.push (.cells c.toArray s (0, 0)) }) ?_ (noPend hpd) (h _ _ (hw.push _))
 simp [execOp, rh_of hx, Instr.box, newVar, newRow, hc]
theorem fill_one {z : Nat} {cs c : Array Value} {v : Value} (hv : v.cells = cs) (h1 : cs.size = z) (h2 : c.size = z) : Instr.fill (fun i => some (i * z, z)) c [(0, v)] = some cs := by
 simp only [Instr.fill, Nat.zero_mul, hv, h1, h2, Nat.zero_add]
 simp
 apply Array.ext'
 have key : ∀ (l : List Value) (k : Nat) (c : Array Value), k + l.length = c.size →
   ((l.zipIdx k).foldl (fun (cs : Array Value) (x : Value × Nat) => cs.setIfInBounds x.2 x.1) c).toList = c.toList.take k ++ l := by
  intro l
  induction l with
  | nil => intro k c hk; simp at hk ⊢; rw [List.take_of_length_le (by simp [hk])]
  | cons u l ih =>
   intro k c hk
   simp only [List.zipIdx_cons, List.foldl_cons]
   rw [ih (k + 1) _ (by simp at hk ⊢; omega)]
   simp at hk
   rw [List.take_succ_eq_append_getElem (by simp; omega)]
   simp [List.take_set_of_le (Nat.le_refl k)]
 have := key cs.toList 0 c (by simp [h1, h2])
 have e : Array.foldl (fun (cs : Array Value) (x : Value × Nat) => cs.setIfInBounds x.2 x.1) c cs.zipIdx 0 cs.size = List.foldl (fun (cs : Array Value) (x : Value × Nat) => cs.setIfInBounds x.2 x.1) c cs.toList.zipIdx := by
  rw [← Array.toList_zipIdx, Array.foldl_toList]; simp
 rw [e]; simpa using this
theorem x_bs1P {c : TypeId} {z : Nat} {cs : List Value} (ho : ops[i]? = some ⟨some d, .buildSlice s 1 #[(0, x)], t, p, af, g⟩) (hd : Nat.blt d n = true) (hg : Gd ops e g) (hs : P.underlying s = some (.slice c)) (hzc : (P.info? c).map (·.size) = some z) (hz0 : (zeroOf P c).map (·.size) = some z) (hz : 0 < z ∧ z ≤ 16777216)
  (hx : ev e x = some v) (hc : v.cells = cs.toArray) (hl : cs.length = z) (hw : Sat G L w)
  (hpd : ∀ w' b, Sat G (blk b cs c :: L) w' → ∀ q ∈ pend P ops dr done i, ChkE P n ops q ((d, .slice (some ⟨b, 0, none⟩) 1 1) :: e) w')
  (h : ∀ w' b, Sat G (blk b cs c :: L) w' → XL P n ops dr (i :: done) r K ((d, .slice (some ⟨b, 0, none⟩) 1 1) :: e) w') : XL P n ops dr done (i :: r) K e w := by
 refine xl_eff ho (by simpa [dstOk] using hd) hg (ρ := rh e) (by intro z hZ; simp [Op.operands] at hZ; exact oh1 hx hZ) rfl (v := .slice (some ⟨w.heap.size, 0, none⟩) 1 1) (w' := { w with heap := w.heap.push (.cells cs.toArray c (0, 0)) }) ?_ (hpd _ _ (hw.push _)) (h _ _ (hw.push _))
 cases hi : P.info? c with
 | none => simp [hi] at hzc
 | some inf =>
  have hsz : inf.size = z := by simpa [hi] using hzc
  cases hzz : inf.zero with
  | none => simp [zeroOf, hi, hzz] at hz0
  | some zv =>
   have hzs : zv.cells.size = z := by simpa [zeroOf, hi, hzz] using hz0
   have hf := fill_one (z := z) (cs := cs.toArray) (c := (Array.range z).map (zv.cells[· % z]!)) hc (by simpa using hl) (by simp)
   have hnz : z ≠ 0 := by omega
   have hle : ¬ 16777216 < z := by omega
   simp [execOp, Instr.buildSlice, run_underlying hs, sizeOf, typeInfo, hi, hsz, zeroValue, hzz, hnz, hle, hzs, rh_of hx, hf, newRow]
theorem x_bs1 {c : TypeId} {z : Nat} {cs : List Value} (ho : ops[i]? = some ⟨some d, .buildSlice s 1 #[(0, x)], t, p, af, g⟩) (hd : Nat.blt d n = true) (hg : Gd ops e g) (hs : P.underlying s = some (.slice c)) (hzc : (P.info? c).map (·.size) = some z) (hz0 : (zeroOf P c).map (·.size) = some z) (hz : 0 < z ∧ z ≤ 16777216)
  (hx : ev e x = some v) (hc : v.cells = cs.toArray) (hl : cs.length = z) (hw : Sat G L w) (hpd : pend P ops dr done i = [])
  (h : ∀ w' b, Sat G (blk b cs c :: L) w' → XL P n ops dr (i :: done) r K ((d, .slice (some ⟨b, 0, none⟩) 1 1) :: e) w') : XL P n ops dr done (i :: r) K e w :=
 x_bs1P ho hd hg hs hzc hz0 hz hx hc hl hw (fun w' b _ => noPend (dst := some d) hpd) h
theorem x_mks {c : TypeId} {z : Value} {a m : Int} {k k' : IntKind} {bytes : Nat} (ho : ops[i]? = some ⟨some d, .makeSlice s x y, t, p, af, g⟩) (hd : Nat.blt d n = true) (hg : Gd ops e g) (hs : P.underlying s = some (.slice c)) (hzc : (P.info? c).map (·.size) = some 1) (hby : (P.info? c).map (·.bytes) = some bytes)
  (hz0 : zeroOf P c = some #[z]) (hx : ev e x = some (.int k a)) (hy : ev e y = some (.int k' m)) (hb : 0 ≤ a ∧ a ≤ m) (hm : (bytes : Int) * m ≤ 281474976710656) (h63 : m ≤ 9223372036854775807) (hw : Sat G L w) (hpd : pend P ops dr done i = [])
  (h : ∀ w' b, Sat G (blk b (rep m.toNat z) c :: L) w' → XL P n ops dr (i :: done) r K ((d, .slice (some ⟨b, 0, none⟩) a.toNat m.toNat) :: e) w') : XL P n ops dr done (i :: r) K e w := by
 refine xl_eff ho (by simpa [dstOk] using hd) hg (ρ := rh e) (by intro z hZ; simp [Op.operands] at hZ; exact oh2 hx hy hZ) rfl (v := .slice (some ⟨w.heap.size, 0, none⟩) a.toNat m.toNat) (w' := { w with heap := w.heap.push (.cells (rep m.toNat z).toArray c (0, 0)) }) ?_ (noPend hpd) (h _ _ (hw.push _))
 cases hi : P.info? c with
 | none => simp [hi] at hzc
 | some inf =>
  have hsz : inf.size = 1 := by simpa [hi] using hzc
  have hbb : inf.bytes = bytes := by simpa [hi] using hby
  cases hzz : inf.zero with
  | none => simp [zeroOf, hi, hzz] at hz0
  | some zv =>
   have hzs : zv.cells = #[z] := by simpa [zeroOf, hi, hzz] using hz0
   have hr := run_make (P := P) w s c inf zv hs hi hzz k k' a m hb.1 hb.2 (by rw [hbb]; exact hm) h63
   have hmc : madeCells zv.cells (m.toNat * inf.size) = (rep m.toNat z).toArray := by
    rw [hzs, hsz, Nat.mul_one]; unfold madeCells
    apply Array.ext'
    simp [Nat.mod_one, List.map_const', rep]
   rw [hmc] at hr
   simp only [execOp, rh_of hx, rh_of hy, Sem.run_bind, hr]
   rfl
def row (T : TypeId) (z : Nat) (v : Value) (m : Nat) (xs : List Value) : Assn := fun h => xs.length = m * z ∧
 ((v = .slice none 0 0 ∧ m = 0) ∨ ∃ b cap cur, v = .slice (some ⟨b, 0, none⟩) m cap ∧ h b = some (.cells (xs ++ cur).toArray T (0, 0)) ∧ m ≤ cap ∧ cap ≤ maxLen ∧ (xs ++ cur).length = cap * z)
theorem row_nil (hw : Sat G L w) (T : TypeId) (z : Nat) : Sat G (row T z (.slice none 0 0) 0 [] :: L) w := by
 obtain ⟨hg, h, hh, hL⟩ := hw
 refine ⟨hg, h, hh, fun _ => none, h, fun b => .inl rfl, fun b o hb => ?_, ⟨by simp, .inl ⟨rfl, rfl⟩⟩, hL⟩
 rcases union_cases hb with h | h
 ·cases h
 exact h
theorem row_mk {xs cur : List Value} {z m cap : Nat} (hw : Sat G (blk b (xs ++ cur) T :: L) w) (h1 : xs.length = m * z) (h2 : m ≤ cap) (h3 : cap ≤ maxLen) (h4 : (xs ++ cur).length = cap * z) : Sat G (row T z (.slice (some ⟨b, 0, none⟩) m cap) m xs :: L) w :=
 hw.cons_mono fun h hh => ⟨h1, .inr ⟨b, cap, cur, rfl, hh, h2, h3, h4⟩⟩
theorem row_open {z m : Nat} {xs : List Value} (hw : Sat G (row T z v m xs :: L) w) : xs.length = m * z ∧
  ((v = .slice none 0 0 ∧ m = 0 ∧ xs = [] ∧ Sat G L w) ∨ ∃ b cap cur, v = .slice (some ⟨b, 0, none⟩) m cap ∧ m ≤ cap ∧ cap ≤ maxLen ∧ (xs ++ cur).length = cap * z ∧ Sat G (blk b (xs ++ cur) T :: L) w) := by
 have hw' := hw
 obtain ⟨hg, h, hh, h1, h2, hd, hu, ⟨hx, hA⟩, hL⟩ := hw
 refine ⟨hx, ?_⟩
 rcases hA with ⟨rfl, rfl⟩ | ⟨b, cap, cur, rfl, hb, h3, h4, h5⟩
 ·exact .inl ⟨rfl, rfl, List.eq_nil_of_length_eq_zero (by simpa using hx), hw'.tail⟩
 exact .inr ⟨b, cap, cur, rfl, h3, h4, h5, hg, h, hh, h1, h2, hd, hu, hb, hL⟩
theorem row_form {z m : Nat} {xs : List Value} (hw : Sat G (row T z v m xs :: L) w) : ∃ a cap, v = .slice a m cap := by
 obtain ⟨_, h | ⟨b, cap, cur, h, _⟩⟩ := row_open hw
 ·obtain ⟨rfl, rfl, _⟩ := h; exact ⟨none, 0, rfl⟩
 exact ⟨_, cap, h⟩
theorem run_app {c : TypeId} {z bytes m k : Nat} {xs news : List Value} {zv : Value} {inf : TypeInfo} {ty : TypeId} {ax : Addr} {cx : Nat} (hs : P.underlying s = some (.slice c)) (hi : P.info? c = some inf) (hzz : inf.zero = some zv) (hsz : inf.size = z) (hbb : inf.bytes = bytes) (hzs : zv.cells.size = z)
  (hw : Sat G (row c z v m xs :: R) w) (hr : Rd w ax news) (hl : news.length = k * z) (h1 : Ones news) (h63 : m + k ≤ maxLen) (hby : (m + k) * bytes ≤ 140737488355328) :
  ∃ v' w', (Builtin.append_ #[s, s] ty #[v, .slice (some ax) k cx]).run P w = .ok v' w' ∧ Sat G (row c z v' (m + k) (xs ++ news) :: R) w' := by
 subst hsz
 have hsmall : m + k ≤ 9223372036854775807 := by simp only [maxLen] at h63; omega
 obtain ⟨hxl, hcase⟩ := row_open hw
 have hlen : (xs ++ news).length = (m + k) * inf.size := by rw [List.length_append, hxl, hl, Nat.add_mul]
 have grown : ∀ (old : Nat), Sat G R w → Sat G (row c inf.size (.slice (some ⟨w.heap.size, 0, none⟩) (m + k) (grownCap w (m + k) old c)) (m + k) (xs ++ news) :: R)
   (w.drew.alloc (.cells (xs.toArray ++ news.toArray ++ Builtin.zeroCells zv.cells (grownCap w (m + k) old c - (m + k))) c)) := fun old hR => by
  have hge := grownCap_ge w (m + k) old c
  have hcm : grownCap w (m + k) old c ≤ maxLen := grownCap_le_maxLen w (m + k) old c h63
  have h2 := (hR.drawn (w.drawn + 1)).push (.cells (xs.toArray ++ news.toArray ++ Builtin.zeroCells zv.cells (grownCap w (m + k) old c - (m + k))) c (0, 0))
  have e : xs.toArray ++ news.toArray ++ Builtin.zeroCells zv.cells (grownCap w (m + k) old c - (m + k)) = ((xs ++ news) ++ (Builtin.zeroCells zv.cells (grownCap w (m + k) old c - (m + k))).toList).toArray := by
   apply Array.ext'; simp
  rw [e] at h2 ⊢
  refine row_mk h2 hlen hge hcm ?_
  rw [List.length_append, hlen, Array.length_toList, size_zeroCells, hzs, ← Nat.add_mul]
  congr 1; omega
 rcases hcase with ⟨rfl, rfl, rfl, hR⟩ | ⟨b, cap, cur, rfl, hmc, hcm, hcl, hB⟩
 ·by_cases hk : k = 0
  ·subst hk
   have hn : news = [] := List.eq_nil_of_length_eq_zero (by simpa using hl)
   subst hn
   refine ⟨.slice none 0 0, w, ?_, by simpa using row_nil hR c inf.size⟩
   simp [Builtin.append_, run_underlying hs, sizeOf, typeInfo, hi, Builtin.lenOf, Builtin.firstCells, loadCells, loadCellsFrom]
  have hrr := run_append_nil (P := P) w s ty c inf zv hs hi hzz ax k cx news hl hr (by omega) (by omega) (by rw [hbb]; have hb := hby; simp only [Nat.zero_add] at hb; omega)
  have hgr := grown 0 hR
  simp only [Nat.zero_add, List.nil_append, Array.empty_append] at hgr ⊢
  exact ⟨_, _, hrr, hgr⟩
 by_cases hroom : m + k ≤ cap
 ·have hfit : m * inf.size + news.length ≤ (xs ++ cur).toArray.size := by rw [List.size_toArray, hcl, hl, ← Nat.add_mul]; exact Nat.mul_le_mul_right _ hroom
  have hrr := run_append_room (P := P) w s ty c inf hs hi b m cap (xs ++ cur).toArray (hB.pt .here) ax k cx news hl hr h1 hroom hfit
  have hB' := hB.setBlk .here ((xs ++ news) ++ cur.drop news.length)
  have e : (List.take (m * inf.size) (xs ++ cur).toArray.toList ++ news ++ List.drop (m * inf.size + news.length) (xs ++ cur).toArray.toList).toArray = ((xs ++ news) ++ cur.drop news.length).toArray := by
   simp only [← hxl]
   simp [List.drop_append, List.drop_eq_nil_of_le]
  rw [e] at hrr
  refine ⟨_, _, hrr, row_mk hB' hlen hroom hcm ?_⟩
  rw [List.length_append, hlen, List.length_drop, ← hcl]
  simp only [List.size_toArray, List.length_append] at hfit ⊢
  rw [hxl, hl, Nat.add_mul] at *
  omega
 have holds : Rd w ⟨b, 0, none⟩ xs := by
  have := (Rd.of_blk (o := 0) hB .here).take xs.length
  simpa using this
 have hrr := run_append_grow (P := P) w s ty c inf zv hs hi hzz ⟨b, 0, none⟩ m cap xs hxl holds ax k cx news hl hr (by omega) (by omega) (by rw [hbb]; exact growslice_fits (by omega) hby)
 exact ⟨_, _, hrr, grown cap hB.tail⟩
theorem x_app {c : TypeId} {z bytes m k : Nat} {xs news : List Value} {ax : Addr} {cx : Nat} (ho : ops[i]? = some ⟨some d, .call ⟨.builtin .append, #[x, y], #[s, s]⟩, t, p, af, g⟩) (hd : Nat.blt d n = true) (hg : Gd ops e g) (hs : P.underlying s = some (.slice c)) (hzc : (P.info? c).map (·.size) = some z)
  (hbc : (P.info? c).map (·.bytes) = some bytes) (hz0 : (zeroOf P c).map (·.size) = some z) (hx : ev e x = some v) (hy : ev e y = some (.slice (some ax) k cx)) (hw : Sat G L w) (hp : Pick (row c z v m xs) L R) (hr : Rd w ax news) (hl : news.length = k * z) (h1 : Ones news)
  (h63 : m + k ≤ maxLen) (hby : (m + k) * bytes ≤ 140737488355328) (hpd : pend P ops dr done i = [])
  (h : ∀ w' v', Sat G (row c z v' (m + k) (xs ++ news) :: R) w' → XL P n ops dr (i :: done) r K ((d, v') :: e) w') : XL P n ops dr done (i :: r) K e w := by
 cases hi : P.info? c with
 | none => simp [hi] at hzc
 | some inf =>
  have hsz : inf.size = z := by simpa [hi] using hzc
  have hbb : inf.bytes = bytes := by simpa [hi] using hbc
  cases hzz : inf.zero with
  | none => simp [zeroOf, hi, hzz] at hz0
  | some zv =>
   have hzs : zv.cells.size = z := by simpa [zeroOf, hi, hzz] using hz0
   obtain ⟨v', w', hrun, hsat⟩ := run_app (P := P) (ty := t) (cx := cx) hs hi hzz hsz hbb hzs (hw.pick hp) hr hl h1 h63 hby
   refine xl_eff ho (by simpa [dstOk] using hd) hg (ρ := rh e) (by intro z hZ; simp [Op.operands, Call.operands] at hZ; exact oh2 hx hy hZ) rfl (v := v') (w' := w') ?_ (noPend hpd) (h _ _ hsat)
   simp only [execOp, resolve, invoke, builtin, Sem.run_bind, Sem.run_pure, Result.andThen_ok, List.map_toArray, List.map_cons, List.map_nil, rh_of hx, rh_of hy, hrun]
def Callable (P : Program) (f : FuncId) : Prop := ∃ fn, P.funcs[f]? = some fn ∧ (fn.name == "runtime.NumGoroutine") = false ∧ fn.body.isNone = false
theorem x_callP {f : FuncId} {xs : Array Operand} {ts : Array TypeId} {args : List Value} {Q : Value → World → Prop} (ho : ops[i]? = some ⟨some d, .call ⟨.value (.func f), xs, ts⟩, t, p, af, g⟩) (hd : Nat.blt d n = true) (hg : Gd ops e g)
  (hf : Callable P f) (ha : evs e xs.toList = some args) (hc : Calls P f args.toArray w (Ret Q)) (hpd : ∀ w' v, Q v w' → ∀ q ∈ pend P ops dr done i, ChkE P n ops q ((d, v) :: e) w')
  (h : ∀ w' v, Q v w' → XL P n ops dr (i :: done) r K ((d, v) :: e) w') : XL P n ops dr done (i :: r) K e w := by
 obtain ⟨fn, hf, hb1, hb2⟩ := hf
 obtain ⟨hk, hm⟩ := evs_mem ha
 refine xl_call ho (by simpa [dstOk] using hd) hg (ρ := rh e) (by
  intro z hZ; simp [Op.operands, Call.operands] at hZ
  rcases hZ with rfl | hZ
  ·rfl
  ·exact hk z (by simpa using hZ)) rfl (f := f) (args := args.toArray) ?_ hc fun v w' hQ => ⟨hpd w' v hQ, h w' v hQ⟩
 have hrf : rh e (.func f) = .func (.func f) #[] #[] := rfl
 have hm' : xs.map (rh e) = args.toArray := by apply Array.ext'; simp [hm]
 simp only [execOp, resolve, hrf, Deferred.ofValue, invoke, callFunc, hm', Sem.run_bind, Sem.run_pure, Result.andThen_ok, program, Sem.run, hf, hb1, hb2]
 simp
theorem x_call {f : FuncId} {xs : Array Operand} {ts : Array TypeId} {args : List Value} {Q : Value → World → Prop} (ho : ops[i]? = some ⟨some d, .call ⟨.value (.func f), xs, ts⟩, t, p, af, g⟩) (hd : Nat.blt d n = true) (hg : Gd ops e g)
  (hf : Callable P f) (ha : evs e xs.toList = some args) (hc : Calls P f args.toArray w (Ret Q)) (hpd : pend P ops dr done i = [])
  (h : ∀ w' v, Q v w' → XL P n ops dr (i :: done) r K ((d, v) :: e) w') : XL P n ops dr done (i :: r) K e w :=
 x_callP ho hd hg hf ha hc (fun w' v _ => noPend (dst := some d) hpd) h
theorem x_callv {z : Operand} {f : FuncId} {xs : Array Operand} {ts : Array TypeId} {c1 c2 : Array Value} {args args' : List Value} {Q : Value → World → Prop} (ho : ops[i]? = some ⟨some d, .call ⟨.value z, xs, ts⟩, t, p, af, g⟩) (hd : Nat.blt d n = true) (hg : Gd ops e g)
  (hz : ev e z = some (.func (.func f) c1 c2)) (hf : Callable P f) (ha : evs e xs.toList = some args) (ha' : c1.toList ++ args ++ c2.toList = args') (hc : Calls P f args'.toArray w (Ret Q)) (hpd : pend P ops dr done i = [])
  (h : ∀ w' v, Q v w' → XL P n ops dr (i :: done) r K ((d, v) :: e) w') : XL P n ops dr done (i :: r) K e w := by
 obtain ⟨fn, hf, hb1, hb2⟩ := hf
 obtain ⟨hk, hm⟩ := evs_mem ha
 refine xl_call ho (by simpa [dstOk] using hd) hg (ρ := rh e) (by
  intro q hZ; simp [Op.operands, Call.operands] at hZ
  rcases hZ with rfl | hZ
  ·exact rh_k hz
  ·exact hk q (by simpa using hZ)) rfl (f := f) (args := args'.toArray) ?_ hc fun v w' hQ => ⟨noPend hpd, h w' v hQ⟩
 have hm' : c1 ++ xs.map (rh e) ++ c2 = args'.toArray := by apply Array.ext'; simp [hm, ← ha']
 simp only [execOp, resolve, rh_of hz, Deferred.ofValue, invoke, callFunc, hm', Sem.run_bind, Sem.run_pure, Result.andThen_ok, program, Sem.run, hf, hb1, hb2]
 simp
end
def Yields (P : Program) (l : Nat) (args : List Value) (w : World) (R : Value → World → Prop) : Prop :=
 ∃ fn tmps assign body, (Instr.yield l args.toArray).run P w = .ok (.round l fn tmps assign body) w ∧ Round1 P l fn tmps assign body w (Ret R)
section
variable {P : Program} {n : Nat} {ops : Array Oper} {dr : Bool} {done r : List Nat} {K : Env → World → Prop} {e : Env} {w : World} {i d : Nat} {t : TypeId} {p : String} {af : Array Edge} {g : Option (Nat × Bool)}
variable {G : Gh} {L R : List Assn} {s u T : TypeId} {x y : Operand} {v : Value} {k : IntKind} {a : Int}
theorem x_bsN {c : TypeId} {z m : Nat} {zc : Array Value} {xs : Array (Nat × Operand)} {vs cs : List Value} (ho : ops[i]? = some ⟨some d, .buildSlice s m xs, t, p, af, g⟩) (hd : Nat.blt d n = true) (hg : Gd ops e g) (hs : P.underlying s = some (.slice c)) (hzc : (P.info? c).map (·.size) = some z) (hz0 : zeroOf P c = some zc) (hz : 0 < m * z ∧ m * z ≤ 16777216)
  (hx : evs e (xs.toList.map (·.2)) = some vs) (hf : Instr.fill (fun i => some (i * z, z)) ((Array.range (m * z)).map (zc[· % zc.size]!)) ((xs.toList.map (·.1)).zip vs) = some cs.toArray) (hw : Sat G L w) (hpd : pend P ops dr done i = [])
  (h : ∀ w' b, Sat G (blk b cs c :: L) w' → XL P n ops dr (i :: done) r K ((d, .slice (some ⟨b, 0, none⟩) m m) :: e) w') : XL P n ops dr done (i :: r) K e w := by
 obtain ⟨hk, hm⟩ := evs_mem hx
 refine xl_eff ho (by simpa [dstOk] using hd) hg (ρ := rh e) (by intro z hz; exact hk z (by simpa [Op.operands] using hz)) rfl (v := .slice (some ⟨w.heap.size, 0, none⟩) m m) (w' := { w with heap := w.heap.push (.cells cs.toArray c (0, 0)) }) ?_ (noPend hpd) (h _ _ (hw.push _))
 have e1 : (xs.map fun (j, z) => (j, rh e z)) = ((xs.toList.map (·.1)).zip vs).toArray := by
  apply Array.ext'
  rw [← hm]
  simp only [Array.toList_map]
  generalize xs.toList = q
  induction q with
  | nil => rfl
  | cons x q ih => obtain ⟨a, b⟩ := x; simp only [List.map_cons, List.zip_cons_cons, ih]
 cases hi : P.info? c with
 | none => simp [hi] at hzc
 | some inf =>
  have hsz : inf.size = z := by simpa [hi] using hzc
  cases hzz : inf.zero with
  | none => simp [zeroOf, hi, hzz] at hz0
  | some zv =>
   have hzs : zv.cells = zc := by simpa [zeroOf, hi, hzz] using hz0
   have hnz : ¬ m * z = 0 := by omega
   have hle : ¬ 16777216 < m * z := by omega
   simp only [execOp, e1]
   simp [Instr.buildSlice, run_underlying hs, sizeOf, typeInfo, hi, hsz, zeroValue, hzz, hnz, hle, hzs, hf, newRow]
theorem x_cutLz {c : TypeId} {q : Option Addr} {len : Nat} {lo : Int} {kl : IntKind} {l : Operand} (ho : ops[i]? = some ⟨some d, .slice s x (some l) none none, t, p, af, g⟩) (hd : Nat.blt d n = true) (hg : Gd ops e g) (hs : P.underlying s = some (.slice c)) (hz : ((P.info? c).map (·.size)).isSome = true)
  (hx : ev e x = some (.slice q len len)) (hl : ev e l = some (.int kl lo)) (hb : lo = len)
  (h : XL P n ops dr (i :: done) r K ((d, .slice q 0 0) :: e) w) : XL P n ops dr done (i :: r) K e w :=
 xl_pure ho (by simpa [dstOk] using hd) hg (ρ := rh e) (by intro z hZ; simp [Op.operands] at hZ; exact oh2 hx hl hZ) rfl
  (v := .slice q 0 0) (fun w' => by
   cases hi' : P.info? c with
   | none => simp [hi'] at hz
   | some inf =>
    have h1 := run_bound (P := P) (k := kl) (v := lo) (y := len) (c := .sliceB) ⟨by omega, by omega⟩ w'
    have hll : lo.toNat = len := by omega
    simp [execOp, rh_of hx, rh_of hl, Instr.sliceAt, Instr.slice, Instr.sliceBounds, run_underlying hs, h1, sizeOf, typeInfo, hi', hll]) h
theorem x_idxA {c : TypeId} {b o m z : Nat} (ho : ops[i]? = some ⟨some d, .indexAddr s x y, t, p, af, g⟩) (hd : Nat.blt d n = true) (hg : Gd ops e g) (hs : P.underlying s = some (.array m c)) (hz : (P.info? c).map (·.size) = some z)
  (hx : ev e x = some (.pointer (some ⟨b, o, none⟩))) (hy : ev e y = some (.int k a)) (ha : 0 ≤ a ∧ a < m)
  (h : XL P n ops dr (i :: done) r K ((d, .pointer (some ⟨b, o + a.toNat * z, none⟩)) :: e) w) : XL P n ops dr done (i :: r) K e w :=
 xl_pure ho (by simpa [dstOk] using hd) hg (ρ := rh e) (by intro z hZ; simp [Op.operands] at hZ; exact oh2 hx hy hZ) rfl (v := .pointer (some ⟨b, o + a.toNat * z, none⟩)) (fun w' => by
  cases hi : P.info? c with
  | none => simp [hi] at hz
  | some inf =>
   have hsz : inf.size = z := by simpa [hi] using hz
   simp [execOp, rh_of hx, rh_of hy, Instr.indexAt, Instr.sureAddr, asIntOf, run_underlying hs, ha.1, ha.2, sizeOf, typeInfo, hi, hsz, add_lit]) h
end

theorem mixed : Tryz.prog.follows .mixedOrders = true := by kernel_rfl
theorem U_int : Tryz.prog.underlying 3 = some (.int .i64) := by kernel_rfl
theorem one_int : oneB Tryz.prog 3 = true := by kernel_rfl
theorem U_bool : Tryz.prog.underlying 4 = some .bool := by kernel_rfl
theorem sz_bool : (Tryz.prog.info? 4).map (·.size) = some 1 := by kernel_rfl
theorem one_bool : oneB Tryz.prog 4 = true := by kernel_rfl
theorem U_uint8 : Tryz.prog.underlying 5 = some (.int .u8) := by kernel_rfl
theorem sz_uint8 : (Tryz.prog.info? 5).map (·.size) = some 1 := by kernel_rfl
theorem szs_uint8 : ((Tryz.prog.info? 5).map (·.size)).isSome = true := by kernel_rfl
theorem by_uint8 : (Tryz.prog.info? 5).map (·.bytes) = some 1 := by kernel_rfl
theorem one_uint8 : oneB Tryz.prog 5 = true := by kernel_rfl
theorem zs_uint8 : (zeroOf Tryz.prog 5).map (·.size) = some 1 := by kernel_rfl
theorem z_uint8 : zeroOf Tryz.prog 5 = some [(.int .u8 0)].toArray := by kernel_rfl
theorem U_string : Tryz.prog.underlying 9 = some .string := by kernel_rfl
theorem U_sl_uint8 : Tryz.prog.underlying 22 = some (.slice 5) := by kernel_rfl
theorem sz_sl_uint8 : (Tryz.prog.info? 22).map (·.size) = some 1 := by kernel_rfl
theorem by_sl_uint8 : (Tryz.prog.info? 22).map (·.bytes) = some 24 := by kernel_rfl
theorem one_sl_uint8 : oneB Tryz.prog 22 = true := by kernel_rfl
theorem zs_sl_uint8 : (zeroOf Tryz.prog 22).map (·.size) = some 1 := by kernel_rfl
theorem z_sl_uint8 : zeroOf Tryz.prog 22 = some [(.slice none 0 0)].toArray := by kernel_rfl
theorem U_uint32 : Tryz.prog.underlying 26 = some (.int .u32) := by kernel_rfl
theorem sz_uint32 : (Tryz.prog.info? 26).map (·.size) = some 1 := by kernel_rfl
theorem one_uint32 : oneB Tryz.prog 26 = true := by kernel_rfl
theorem z_uint32 : zeroOf Tryz.prog 26 = some [(.int .u32 0)].toArray := by kernel_rfl
theorem many_api_Mark : manyB Tryz.prog 28 3 = true := by kernel_rfl
theorem z_api_Mark : zeroOf Tryz.prog 28 = some [(.int .i64 0), (.int .i64 0), (.int .u32 0)].toArray := by kernel_rfl
theorem fo_api_Mark_0 : fieldOff Tryz.prog 28 0 = some 0 := by kernel_rfl
theorem fo_api_Mark_1 : fieldOff Tryz.prog 28 1 = some 1 := by kernel_rfl
theorem many_api_Head : manyB Tryz.prog 30 8 = true := by kernel_rfl
theorem z_api_Head : zeroOf Tryz.prog 30 = some [(.bool false), (.int .i64 0), (.int .i64 0), (.int .u32 0), (.int .i64 0), (.int .i64 0), (.int .u32 0), (.int .i64 0)].toArray := by kernel_rfl
theorem fo_api_Head_0 : fieldOff Tryz.prog 30 0 = some 0 := by kernel_rfl
theorem fo_api_Head_1 : fieldOff Tryz.prog 30 1 = some 1 := by kernel_rfl
theorem fo_api_Head_2 : fieldOff Tryz.prog 30 2 = some 4 := by kernel_rfl
theorem fo_api_Head_3 : fieldOff Tryz.prog 30 3 = some 7 := by kernel_rfl
theorem U_api_Errno : Tryz.prog.underlying 31 = some (.int .i64) := by kernel_rfl
theorem one_api_Errno : oneB Tryz.prog 31 = true := by kernel_rfl
theorem zv_api_Errno : (Tryz.prog.info? 31).bind (·.zero) = some (.int .i64 0) := by kernel_rfl
theorem U_sl_api_Change : Tryz.prog.underlying 34 = some (.slice 68) := by kernel_rfl
theorem U_sl_sl_uint8 : Tryz.prog.underlying 39 = some (.slice 22) := by kernel_rfl
theorem sz_api_Change : (Tryz.prog.info? 68).map (·.size) = some 4 := by kernel_rfl
theorem by_api_Change : (Tryz.prog.info? 68).map (·.bytes) = some 80 := by kernel_rfl
theorem many_api_Change : manyB Tryz.prog 68 4 = true := by kernel_rfl
theorem zs_api_Change : (zeroOf Tryz.prog 68).map (·.size) = some 4 := by kernel_rfl
theorem z_api_Change : zeroOf Tryz.prog 68 = some [(.int .i64 0), (.slice none 0 0), (.slice none 0 0), (.slice none 0 0)].toArray := by kernel_rfl
theorem fo_api_Change_0 : fieldOff Tryz.prog 68 0 = some 0 := by kernel_rfl
theorem fo_api_Change_1 : fieldOff Tryz.prog 68 1 = some 1 := by kernel_rfl
theorem fo_api_Change_2 : fieldOff Tryz.prog 68 2 = some 2 := by kernel_rfl
theorem fo_api_Change_3 : fieldOff Tryz.prog 68 3 = some 3 := by kernel_rfl
theorem one_p_wire_Reader : oneB Tryz.prog 107 = true := by kernel_rfl
theorem many_stream_reader : manyB Tryz.prog 111 1 = true := by kernel_rfl
theorem z_stream_reader : zeroOf Tryz.prog 111 = some [(.pointer none)].toArray := by kernel_rfl
theorem fo_stream_reader_0 : fieldOff Tryz.prog 111 0 = some 0 := by kernel_rfl
theorem U_a2_bool : Tryz.prog.underlying 113 = some (.array 2 4) := by kernel_rfl
theorem many_a2_bool : manyB Tryz.prog 113 2 = true := by kernel_rfl
theorem z_a2_bool : zeroOf Tryz.prog 113 = some [(.bool false), (.bool false)].toArray := by kernel_rfl
theorem U_uint64 : Tryz.prog.underlying 119 = some (.int .u64) := by kernel_rfl
theorem fo_coppiceref02_Reader_0 : fieldOff Tryz.prog 127 0 = some 0 := by kernel_rfl
theorem fo_coppiceref02_Reader_1 : fieldOff Tryz.prog 127 1 = some 1 := by kernel_rfl
theorem fo_coppiceref02_Reader_2 : fieldOff Tryz.prog 127 2 = some 2 := by kernel_rfl
theorem fo_wire_Reader_0 : fieldOff Tryz.prog 177 0 = some 0 := by kernel_rfl
theorem fo_wire_Reader_1 : fieldOff Tryz.prog 177 1 = some 1 := by kernel_rfl
theorem U_uint16 : Tryz.prog.underlying 232 = some (.int .u16) := by kernel_rfl
theorem one_uint16 : oneB Tryz.prog 232 = true := by kernel_rfl
theorem z_uint16 : zeroOf Tryz.prog 232 = some [(.int .u16 0)].toArray := by kernel_rfl
theorem U_a16_uint32 : Tryz.prog.underlying 243 = some (.array 16 26) := by kernel_rfl
theorem many_a16_uint32 : manyB Tryz.prog 243 16 = true := by kernel_rfl
theorem z_a16_uint32 : zeroOf Tryz.prog 243 = some [(.int .u32 0), (.int .u32 0), (.int .u32 0), (.int .u32 0), (.int .u32 0), (.int .u32 0), (.int .u32 0), (.int .u32 0), (.int .u32 0), (.int .u32 0), (.int .u32 0), (.int .u32 0), (.int .u32 0), (.int .u32 0), (.int .u32 0), (.int .u32 0)].toArray := by kernel_rfl
theorem cal_law26_said : Callable Tryz.prog 4 := ⟨Tryz.f4, Tryz.func4, by kernel_rfl, by kernel_rfl⟩
theorem cal_law26_lives : Callable Tryz.prog 5 := ⟨Tryz.f5, Tryz.func5, by kernel_rfl, by kernel_rfl⟩
theorem cal_ref00_Spare : Callable Tryz.prog 6 := ⟨Tryz.f6, Tryz.func6, by kernel_rfl, by kernel_rfl⟩
theorem cal_stream_Head : Callable Tryz.prog 7 := ⟨Tryz.f7, Tryz.func7, by kernel_rfl, by kernel_rfl⟩
theorem cal_ref26_Head : Callable Tryz.prog 8 := ⟨Tryz.f8, Tryz.func8, by kernel_rfl, by kernel_rfl⟩
theorem cal_ref26_Changes : Callable Tryz.prog 9 := ⟨Tryz.f9, Tryz.func9, by kernel_rfl, by kernel_rfl⟩
theorem cal_stream_Changes : Callable Tryz.prog 10 := ⟨Tryz.f10, Tryz.func10, by kernel_rfl, by kernel_rfl⟩
theorem cal_ref00_EqChanges : Callable Tryz.prog 11 := ⟨Tryz.f11, Tryz.func11, by kernel_rfl, by kernel_rfl⟩
theorem cal_ref00_Kept : Callable Tryz.prog 12 := ⟨Tryz.f12, Tryz.func12, by kernel_rfl, by kernel_rfl⟩
theorem cal_ref00_ListsOfChanges : Callable Tryz.prog 13 := ⟨Tryz.f13, Tryz.func13, by kernel_rfl, by kernel_rfl⟩
theorem cal_ref00_Apart : Callable Tryz.prog 14 := ⟨Tryz.f14, Tryz.func14, by kernel_rfl, by kernel_rfl⟩
theorem cal_stream_read : Callable Tryz.prog 19 := ⟨Tryz.f19, Tryz.func19, by kernel_rfl, by kernel_rfl⟩
theorem cal_ref26_Read : Callable Tryz.prog 20 := ⟨Tryz.f20, Tryz.func20, by kernel_rfl, by kernel_rfl⟩
theorem cal_ref00_EqChange : Callable Tryz.prog 21 := ⟨Tryz.f21, Tryz.func21, by kernel_rfl, by kernel_rfl⟩
theorem cal_ref00_EqBytes : Callable Tryz.prog 22 := ⟨Tryz.f22, Tryz.func22, by kernel_rfl, by kernel_rfl⟩
theorem cal_stream_read_1 : Callable Tryz.prog 39 := ⟨Tryz.f39, Tryz.func39, by kernel_rfl, by kernel_rfl⟩
theorem cal_wire_Get_uint32 : Callable Tryz.prog 40 := ⟨Tryz.f40, Tryz.func40, by kernel_rfl, by kernel_rfl⟩
theorem cal_wire_NewReader : Callable Tryz.prog 41 := ⟨Tryz.f41, Tryz.func41, by kernel_rfl, by kernel_rfl⟩
theorem cal_sum_Of : Callable Tryz.prog 42 := ⟨Tryz.f42, Tryz.func42, by kernel_rfl, by kernel_rfl⟩
theorem cal_wire_Get_uint8 : Callable Tryz.prog 43 := ⟨Tryz.f43, Tryz.func43, by kernel_rfl, by kernel_rfl⟩
theorem cal_stream_reader_mark : Callable Tryz.prog 44 := ⟨Tryz.f44, Tryz.func44, by kernel_rfl, by kernel_rfl⟩
theorem cal_stream_reader_change : Callable Tryz.prog 45 := ⟨Tryz.f45, Tryz.func45, by kernel_rfl, by kernel_rfl⟩
theorem cal_wire_Reader_End : Callable Tryz.prog 46 := ⟨Tryz.f46, Tryz.func46, by kernel_rfl, by kernel_rfl⟩
theorem cal_ref02_Number : Callable Tryz.prog 47 := ⟨Tryz.f47, Tryz.func47, by kernel_rfl, by kernel_rfl⟩
theorem cal_ref01_Of : Callable Tryz.prog 48 := ⟨Tryz.f48, Tryz.func48, by kernel_rfl, by kernel_rfl⟩
theorem cal_ref02_NewReader : Callable Tryz.prog 49 := ⟨Tryz.f49, Tryz.func49, by kernel_rfl, by kernel_rfl⟩
theorem cal_ref02_Reader_Get : Callable Tryz.prog 50 := ⟨Tryz.f50, Tryz.func50, by kernel_rfl, by kernel_rfl⟩
theorem cal_ref26_getMark : Callable Tryz.prog 51 := ⟨Tryz.f51, Tryz.func51, by kernel_rfl, by kernel_rfl⟩
theorem cal_ref26_markIs : Callable Tryz.prog 52 := ⟨Tryz.f52, Tryz.func52, by kernel_rfl, by kernel_rfl⟩
theorem cal_ref26_change : Callable Tryz.prog 53 := ⟨Tryz.f53, Tryz.func53, by kernel_rfl, by kernel_rfl⟩
theorem cal_ref26_changeIs : Callable Tryz.prog 54 := ⟨Tryz.f54, Tryz.func54, by kernel_rfl, by kernel_rfl⟩
theorem cal_ref02_Reader_End : Callable Tryz.prog 55 := ⟨Tryz.f55, Tryz.func55, by kernel_rfl, by kernel_rfl⟩
theorem cal_ref00_Compare : Callable Tryz.prog 56 := ⟨Tryz.f56, Tryz.func56, by kernel_rfl, by kernel_rfl⟩
theorem cal_wire_read_uint32 : Callable Tryz.prog 90 := ⟨Tryz.f90, Tryz.func90, by kernel_rfl, by kernel_rfl⟩
theorem cal_wire_Get_uint32_1 : Callable Tryz.prog 91 := ⟨Tryz.f91, Tryz.func91, by kernel_rfl, by kernel_rfl⟩
theorem cal_wire_Reader_take : Callable Tryz.prog 92 := ⟨Tryz.f92, Tryz.func92, by kernel_rfl, by kernel_rfl⟩
theorem cal_wire_width_uint32 : Callable Tryz.prog 93 := ⟨Tryz.f93, Tryz.func93, by kernel_rfl, by kernel_rfl⟩
theorem cal_sum_on : Callable Tryz.prog 94 := ⟨Tryz.f94, Tryz.func94, by kernel_rfl, by kernel_rfl⟩
theorem cal_wire_read_uint8 : Callable Tryz.prog 95 := ⟨Tryz.f95, Tryz.func95, by kernel_rfl, by kernel_rfl⟩
theorem cal_wire_Get_uint8_1 : Callable Tryz.prog 96 := ⟨Tryz.f96, Tryz.func96, by kernel_rfl, by kernel_rfl⟩
theorem cal_wire_width_uint8 : Callable Tryz.prog 97 := ⟨Tryz.f97, Tryz.func97, by kernel_rfl, by kernel_rfl⟩
theorem cal_wire_Reader_Short : Callable Tryz.prog 98 := ⟨Tryz.f98, Tryz.func98, by kernel_rfl, by kernel_rfl⟩
theorem cal_stream_reader_value : Callable Tryz.prog 99 := ⟨Tryz.f99, Tryz.func99, by kernel_rfl, by kernel_rfl⟩
theorem cal_wire_Reader_Err : Callable Tryz.prog 100 := ⟨Tryz.f100, Tryz.func100, by kernel_rfl, by kernel_rfl⟩
theorem cal_span_Compare : Callable Tryz.prog 101 := ⟨Tryz.f101, Tryz.func101, by kernel_rfl, by kernel_rfl⟩
theorem cal_ref01_on : Callable Tryz.prog 102 := ⟨Tryz.f102, Tryz.func102, by kernel_rfl, by kernel_rfl⟩
theorem cal_ref00_CopyBytes : Callable Tryz.prog 103 := ⟨Tryz.f103, Tryz.func103, by kernel_rfl, by kernel_rfl⟩
theorem cal_ref02_Reader_Raw : Callable Tryz.prog 104 := ⟨Tryz.f104, Tryz.func104, by kernel_rfl, by kernel_rfl⟩
theorem cal_ref02_Reader_Short : Callable Tryz.prog 105 := ⟨Tryz.f105, Tryz.func105, by kernel_rfl, by kernel_rfl⟩
theorem cal_ref02_Reader_Left : Callable Tryz.prog 106 := ⟨Tryz.f106, Tryz.func106, by kernel_rfl, by kernel_rfl⟩
theorem cal_wire_read_uint32_1 : Callable Tryz.prog 159 := ⟨Tryz.f159, Tryz.func159, by kernel_rfl, by kernel_rfl⟩
theorem cal_wire_must : Callable Tryz.prog 160 := ⟨Tryz.f160, Tryz.func160, by kernel_rfl, by kernel_rfl⟩
theorem cal_sum_halves : Callable Tryz.prog 161 := ⟨Tryz.f161, Tryz.func161, by kernel_rfl, by kernel_rfl⟩
theorem cal_wire_read_uint8_1 : Callable Tryz.prog 162 := ⟨Tryz.f162, Tryz.func162, by kernel_rfl, by kernel_rfl⟩
theorem cal_wire_read_byte : Callable Tryz.prog 163 := ⟨Tryz.f163, Tryz.func163, by kernel_rfl, by kernel_rfl⟩
theorem cal_wire_Reader_Short_1 : Callable Tryz.prog 164 := ⟨Tryz.f164, Tryz.func164, by kernel_rfl, by kernel_rfl⟩
theorem cal_wire_Get_uint16 : Callable Tryz.prog 165 := ⟨Tryz.f165, Tryz.func165, by kernel_rfl, by kernel_rfl⟩
theorem cal_wire_Reader_Left : Callable Tryz.prog 166 := ⟨Tryz.f166, Tryz.func166, by kernel_rfl, by kernel_rfl⟩
theorem cal_wire_Reader_Raw : Callable Tryz.prog 167 := ⟨Tryz.f167, Tryz.func167, by kernel_rfl, by kernel_rfl⟩
theorem cal_bytes_Compare : Callable Tryz.prog 168 := ⟨Tryz.f168, Tryz.func168, by kernel_rfl, by kernel_rfl⟩
theorem cal_ref01_eight : Callable Tryz.prog 169 := ⟨Tryz.f169, Tryz.func169, by kernel_rfl, by kernel_rfl⟩
theorem cal_ref02_Reader_fail : Callable Tryz.prog 170 := ⟨Tryz.f170, Tryz.func170, by kernel_rfl, by kernel_rfl⟩
theorem cal_wire_width_uint16 : Callable Tryz.prog 226 := ⟨Tryz.f226, Tryz.func226, by kernel_rfl, by kernel_rfl⟩
theorem cal_wire_read_byte_1 : Callable Tryz.prog 235 := ⟨Tryz.f235, Tryz.func235, by kernel_rfl, by kernel_rfl⟩
theorem cal_wire_read_uint16 : Callable Tryz.prog 236 := ⟨Tryz.f236, Tryz.func236, by kernel_rfl, by kernel_rfl⟩
theorem cal_wire_Get_uint16_1 : Callable Tryz.prog 237 := ⟨Tryz.f237, Tryz.func237, by kernel_rfl, by kernel_rfl⟩
theorem cal_wire_Reader_Raw_1 : Callable Tryz.prog 238 := ⟨Tryz.f238, Tryz.func238, by kernel_rfl, by kernel_rfl⟩
theorem cal_ref01_step : Callable Tryz.prog 240 := ⟨Tryz.f240, Tryz.func240, by kernel_rfl, by kernel_rfl⟩
theorem cal_wire_read_uint16_1 : Callable Tryz.prog 317 := ⟨Tryz.f317, Tryz.func317, by kernel_rfl, by kernel_rfl⟩
def bv (b : UInt8) : Value := .int .u8 b.toNat
def bys (l : List UInt8) : List Value := l.map bv
theorem bys_length (l : List UInt8) : (bys l).length = l.length := by simp [bys]
theorem bys_append (l m : List UInt8) : bys (l ++ m) = bys l ++ bys m := by simp [bys]
theorem bys_take (l : List UInt8) (k : Nat) : bys (l.take k) = (bys l).take k := by simp [bys, List.map_take]
theorem bys_drop (l : List UInt8) (k : Nat) : bys (l.drop k) = (bys l).drop k := by simp [bys, List.map_drop]
theorem bys_get {l : List UInt8} {k : Nat} (h : k < l.length) : (bys l)[k]? = some (bv (l.getD k 0)) := by simp [bys, h]
theorem ones_bys (l : List UInt8) : Ones (bys l) := fun u hu => by obtain ⟨b, _, rfl⟩ := List.mem_map.1 hu; rfl
theorem ones_bv (b : UInt8) : Ones [bv b] := ones_bys [b]
theorem take_succ_getD {α : Type} (l : List α) (k : Nat) (d : α) (h : k < l.length) : l.take (k + 1) = l.take k ++ [l.getD k d] := by
 rw [List.take_succ_eq_append_getElem h]; simp [h]
theorem drop_getD {α : Type} (l : List α) (k : Nat) (d : α) (h : k < l.length) : l.drop k = l.getD k d :: l.drop (k + 1) := by
 rw [List.drop_eq_getElem_cons h]; simp [h]
def SlB (v : Value) (l : List UInt8) (w : World) : Prop := ((∃ a, v = .slice a 0 0) ∧ l = []) ∨ ∃ b o cap, v = .slice (some ⟨b, o, none⟩) l.length cap ∧ l.length ≤ cap ∧ Rd w ⟨b, o, none⟩ (bys l)
theorem SlB.cell {w : World} {b o : Nat} {l : List UInt8} (h : Rd w ⟨b, o, none⟩ (bys l)) {i : Int} (h0 : 0 ≤ i ∧ i < l.length) : w.cell? ⟨b, o + i.toNat, none⟩ = some (bv (l.getD i.toNat 0)) := by
 have := h i.toNat _ (bys_get (by omega)); rwa [add_lit] at this
theorem Rd.blk0 {G : Gh} {L R : List Assn} {w : World} {b T : Nat} {l : List Value} (hw : Sat G L w) (p : Pick (blk b l T) L R) : Rd w ⟨b, 0, none⟩ l := by have := Rd.of_blk (o := 0) hw p; simpa using this
theorem SlB.row {T : Nat} {v : Value} {l : List UInt8} : Knows [row T 1 v l.length (bys l)] (SlB v l) := fun g w hw => by
 obtain ⟨hl, h | ⟨b, cap, cur, rfl, h1, h2, h3, h4⟩⟩ := row_open hw
 ·obtain ⟨rfl, _, h5, _⟩ := h
  refine .inl ⟨⟨none, rfl⟩, ?_⟩
  cases l with
  | nil => rfl
  | cons _ _ => simp [bys] at h5
 refine .inr ⟨b, 0, cap, rfl, h1, ?_⟩
 have := (Rd.blk0 h4 .here).take (bys l).length
 simpa using this
section
variable {G : Gh} {L : List Assn} {w : World} {v v' : Value} {l l' : List UInt8}
theorem ct_ref00_CopyBytes (hw : Sat G L w) (kl : Knows L (SlB v l)) (hl : l.length ≤ 140737488355328) :
  Calls Tryz.prog 103 #[v] w (Ret fun v' w' => Sat G (row 5 1 v' l.length (bys l) :: L) w') := by
 obtain ⟨a, cap, rfl⟩ : ∃ a cap, v = .slice a l.length cap := by
  rcases kl.at hw with ⟨⟨a, rfl⟩, rfl⟩ | ⟨b, o, cap, rfl, _⟩
  ·exact ⟨a, 0, rfl⟩
  exact ⟨_, cap, rfl⟩
 refine calls_of_x (args := [_]) Tryz.func103 rfl Tryz.ntmps103 rfl rfl ?_
 refine x_seq ?_
 refine x_region rfl ?_
 refine x_as rfl rfl trivial rfl ?_
 refine xl_nil ?_
 refine x_seq ?_
 refine x_region rfl ?_
 refine x_mv rfl rfl trivial rfl ?_
 refine x_len rfl rfl trivial (by kernel_rfl) U_sl_uint8 rfl ?_
 refine x_mks rfl rfl trivial U_sl_uint8 sz_uint8 by_uint8 z_uint8 rfl rfl ⟨by omega, by omega⟩ (by omega) (by omega) hw rfl (fun w b7 hw => ?_)
 refine x_as rfl rfl trivial rfl ?_
 refine xl_nil ?_
 refine x_seq ?_
 refine x_seq ?_
 refine x_region rfl ?_
 refine x_as rfl rfl trivial rfl ?_
 refine xl_nil ?_
 refine x_block ?_
 refine x_loop (fun m e w => ∃ (k : Nat) (u : Value), k ≤ l.length ∧ m = l.length - k ∧ e = [(0, .slice a l.length cap), (3, u), (4, .int .i64 k)] ∧ Sat G (row 5 1 u k (bys (l.take k)) :: L) w)
  (m := l.length) (e₀ := [(0, .slice a l.length cap), (3, .slice (some ⟨b7, 0, none⟩) 0 l.length), (4, .int .i64 (0 : Nat))]) sB
  ⟨0, _, Nat.zero_le _, rfl, rfl, row_mk (xs := []) hw rfl (Nat.zero_le _) (by simp only [maxLen]; omega) (by simp)⟩ ?_
 rintro m e w ⟨k, u, hk, rfl, rfl, hw⟩
 refine x_seq ?_
 refine x_seq ?_
 refine x_region rfl ?_
 refine x_mv rfl rfl trivial rfl ?_
 refine x_mv rfl rfl trivial rfl ?_
 refine x_len rfl rfl trivial (by kernel_rfl) U_sl_uint8 rfl ?_
 refine x_lt rfl rfl trivial rfl rfl ?_
 refine xl_nil ?_
 refine x_if rfl (fun h1 => ?_) (fun h1 => ?_)
 ·
  obtain ⟨b, o, rfl, hR⟩ : ∃ b o, a = some ⟨b, o, none⟩ ∧ Rd w ⟨b, o, none⟩ (bys l) := by
   rcases (kl.cons _).at hw with ⟨⟨_, h⟩, rfl⟩ | ⟨b, o, cap, h, hR⟩
   ·simp at h1; omega
   cases h; exact ⟨b, o, rfl, hR.2⟩
  refine x_skip ?_
  refine x_seq ?_
  refine x_block ?_
  refine x_region rfl ?_
  refine x_mv rfl rfl trivial rfl ?_
  refine x_mv rfl rfl trivial rfl ?_
  refine x_mv rfl rfl trivial rfl ?_
  refine x_idx1 rfl rfl trivial U_sl_uint8 sz_uint8 rfl rfl ⟨by omega, by omega⟩ ?_
  refine x_ld rfl rfl trivial rfl (Loads.one one_uint8 (SlB.cell hR ⟨by omega, by omega⟩)) ?_
  refine x_bs1 rfl rfl trivial U_sl_uint8 sz_uint8 zs_uint8 (by decide) rfl rfl rfl hw rfl (fun w b19 hw => ?_)
  refine x_app (m := k) (k := 1) rfl rfl trivial U_sl_uint8 sz_uint8 by_uint8 zs_uint8 rfl rfl hw pK (Rd.blk0 hw pK) rfl (ones_bv _) (by simp only [maxLen]; omega) (by omega) rfl (fun w v20 hw => ?_)
  refine x_as rfl rfl trivial rfl ?_
  refine xl_nil ?_
  refine x_region rfl ?_
  refine x_mv rfl rfl trivial rfl ?_
  refine x_addi rfl rfl trivial rfl rfl (by omega) ?_
  refine x_as rfl rfl trivial rfl ?_
  refine xl_nil ?_
  refine ⟨l.length - (k + 1), by omega, [(0, _), (3, v20), (4, .int .i64 (k + 1 : Nat))], sB, k + 1, v20, by omega, rfl, rfl, ?_⟩
  rw [take_succ_getD l k 0 (by omega), bys_append]
  exact hw.drop (.there .here)
 have hkl : k = l.length := by omega
 subst hkl
 refine x_exit rfl ?_
 refine x_seq ?_
 refine x_region rfl ?_
 refine x_mv rfl rfl trivial rfl ?_
 refine x_as rfl rfl trivial rfl ?_
 refine xl_nil ?_
 refine x_ret ?_
 exact end1 rfl rfl rfl (by rw [List.take_length] at hw; exact hw)
theorem SlB.at {b o n cap : Nat} {w : World} (h : SlB (.slice (some ⟨b, o, none⟩) n cap) l w) {i : Int} (h0 : 0 ≤ i ∧ i < l.length) : w.cell? ⟨b, o + i.toNat, none⟩ = some (bv (l.getD i.toNat 0)) := by
 rcases h with ⟨_, rfl⟩ | ⟨b', o', cap', h, hR⟩
 ·simp at h0; omega
 cases h; exact SlB.cell hR.2 h0
theorem SlB.form {w : World} (h : SlB v l w) : ∃ a cap, v = .slice a l.length cap := by
 rcases h with ⟨⟨a, rfl⟩, rfl⟩ | ⟨b, o, cap, rfl, _⟩
 ·exact ⟨a, 0, rfl⟩
 exact ⟨_, cap, rfl⟩
theorem SlB.nn {a : Option Addr} {n cap : Nat} {w : World} (h : SlB (.slice a n cap) l w) (hn : 0 < l.length) : ∃ b o, a = some ⟨b, o, none⟩ := by
 rcases h with ⟨h, rfl⟩ | ⟨b, o, cap', h, _⟩
 ·simp at hn
 cases h; exact ⟨b, o, rfl⟩
def cmpB : List UInt8 → List UInt8 → Int
 | [], [] => 0
 | [], _ :: _ => -1
 | _ :: _, [] => 1
 | a :: x, b :: y => if a.toNat < b.toNat then -1 else if b.toNat < a.toNat then 1 else cmpB x y
theorem cmpB_eq : ∀ {l l' : List UInt8}, cmpB l l' = 0 ↔ l = l'
 | [], [] => by simp [cmpB]
 | [], _ :: _ => by simp [cmpB]
 | _ :: _, [] => by simp [cmpB]
 | a :: x, b :: y => by
  simp only [cmpB, List.cons.injEq]
  by_cases h : a.toNat < b.toNat
  ·have : a ≠ b := fun e => by subst e; omega
   simp [h, this]
  by_cases h2 : b.toNat < a.toNat
  ·have : a ≠ b := fun e => by subst e; omega
   simp [h, h2, this]
  have : a = b := UInt8.toNat_inj.1 (by omega)
  simp [h, h2, this, cmpB_eq]
theorem cmpB_drop : ∀ (k : Nat) {l l' : List UInt8}, l.take k = l'.take k → k ≤ l.length → k ≤ l'.length → cmpB l l' = cmpB (l.drop k) (l'.drop k)
 | 0, _, _, _, _, _ => rfl
 | k + 1, [], _, _, h, _ => by simp at h
 | k + 1, _ :: _, [], _, _, h => by simp at h
 | k + 1, a :: l, b :: l', h, h1, h2 => by
  simp only [List.take_succ_cons, List.cons.injEq] at h
  obtain ⟨rfl, h⟩ := h
  simp only [cmpB, Nat.lt_irrefl, if_false, List.drop_succ_cons]
  exact cmpB_drop k h (by simpa using h1) (by simpa using h2)
theorem ct_ref00_Compare (hw : Sat G L w) (ka : Knows L (SlB v l)) (kb : Knows L (SlB v' l')) (hl : l.length ≤ 140737488355328) (hl' : l'.length ≤ 140737488355328) :
  Calls Tryz.prog 56 #[v, v'] w (Ret fun r w' => r = .int .i64 (cmpB l l') ∧ Sat G L w') := by
 obtain ⟨a, cap, rfl⟩ := (ka.at hw).form
 obtain ⟨a', cap', rfl⟩ := (kb.at hw).form
 refine calls_of_x (args := [_, _]) Tryz.func56 rfl Tryz.ntmps56 rfl rfl ?_
 refine x_seq ?_
 refine x_region rfl ?_
 refine x_as rfl rfl trivial rfl ?_
 refine xl_nil ?_
 refine x_seq ?_
 refine x_seq ?_
 refine x_region rfl ?_
 refine x_as rfl rfl trivial rfl ?_
 refine xl_nil ?_
 refine x_block ?_
 refine x_loop (fun m e w => ∃ k : Nat, k ≤ l.length ∧ k ≤ l'.length ∧ l.take k = l'.take k ∧ m = l.length - k ∧ e = [(0, .slice a l.length cap), (1, .slice a' l'.length cap'), (5, .int .i64 k)] ∧ Sat G L w)
  (m := l.length) (e₀ := [(0, .slice a l.length cap), (1, .slice a' l'.length cap'), (5, .int .i64 (0 : Nat))]) sB
  ⟨0, Nat.zero_le _, Nat.zero_le _, rfl, rfl, rfl, hw⟩ ?_
 rintro m e w ⟨k, hk, hk', he, rfl, rfl, hw⟩
 have hcd := cmpB_drop k he hk hk'
 refine x_seq ?_
 refine x_seq ?_
 refine x_region rfl ?_
 refine x_mv rfl rfl trivial rfl ?_
 refine x_mv rfl rfl trivial rfl ?_
 refine x_len rfl rfl trivial (by kernel_rfl) U_sl_uint8 rfl ?_
 refine x_lt rfl rfl trivial rfl rfl ?_
 refine x_mv rfl rfl trivial rfl ?_
 refine xl_split (d := 10) rfl (fun h1 => ?_) (fun h1 => ?_)
 ·
  refine x_mv rfl rfl ⟨_, rfl, rfl⟩ rfl ?_
  refine x_mv rfl rfl ⟨_, rfl, rfl⟩ rfl ?_
  refine x_len rfl rfl ⟨_, rfl, rfl⟩ (by kernel_rfl) U_sl_uint8 rfl ?_
  refine x_lt rfl rfl ⟨_, rfl, rfl⟩ rfl rfl ?_
  refine x_pickT rfl rfl trivial rfl rfl rfl ?_
  refine xl_nil ?_
  refine x_if rfl (fun h2 => ?_) (fun h2 => ?_)
  ·
   obtain ⟨b, o, rfl⟩ := (ka.at hw).nn (by omega)
   obtain ⟨b', o', rfl⟩ := (kb.at hw).nn (by omega)
   rw [drop_getD l k 0 (by omega), drop_getD l' k 0 (by omega)] at hcd
   refine x_skip ?_
   refine x_seq ?_
   refine x_block ?_
   refine x_seq ?_
   refine x_seq ?_
   refine x_draw [0, 1, 2, 3, 4, 5, 6, 7, 8] mixed (by kernel_rfl) ?_
   replace hw := hw.drawn (w.drawn + 1)
   refine x_mv rfl rfl trivial rfl ?_
   refine x_mv rfl rfl trivial rfl ?_
   refine x_idx1 rfl rfl trivial U_sl_uint8 sz_uint8 rfl rfl ⟨by omega, by omega⟩ ?_
   refine x_ld rfl rfl trivial rfl (Loads.one one_uint8 ((ka.at hw).at ⟨by omega, by omega⟩)) ?_
   refine x_mv rfl rfl trivial rfl ?_
   refine x_mv rfl rfl trivial rfl ?_
   refine x_idx1 rfl rfl trivial U_sl_uint8 sz_uint8 rfl rfl ⟨by omega, by omega⟩ ?_
   refine x_ld rfl rfl trivial rfl (Loads.one one_uint8 ((kb.at hw).at ⟨by omega, by omega⟩)) ?_
   refine x_lt rfl rfl trivial rfl rfl ?_
   refine xl_nil ?_
   refine x_if rfl (fun h3 => ?_) (fun h3 => ?_)
   ·
    simp only [Int.toNat_natCast] at h3
    refine x_seq ?_
    refine x_region rfl ?_
    refine x_as rfl rfl trivial rfl ?_
    refine xl_nil ?_
    refine x_ret ?_
    exact end1 rfl rfl rfl ⟨by rw [hcd, cmpB, if_pos (by omega)], hw⟩
   refine x_skip ?_
   refine x_seq ?_
   refine x_draw [0, 1, 2, 3, 4, 5, 6, 7, 8] mixed (by kernel_rfl) ?_
   replace hw := hw.drawn (w.drawn + 1)
   refine x_mv rfl rfl trivial rfl ?_
   refine x_mv rfl rfl trivial rfl ?_
   refine x_idx1 rfl rfl trivial U_sl_uint8 sz_uint8 rfl rfl ⟨by omega, by omega⟩ ?_
   refine x_ld rfl rfl trivial rfl (Loads.one one_uint8 ((ka.at hw).at ⟨by omega, by omega⟩)) ?_
   refine x_mv rfl rfl trivial rfl ?_
   refine x_mv rfl rfl trivial rfl ?_
   refine x_idx1 rfl rfl trivial U_sl_uint8 sz_uint8 rfl rfl ⟨by omega, by omega⟩ ?_
   refine x_ld rfl rfl trivial rfl (Loads.one one_uint8 ((kb.at hw).at ⟨by omega, by omega⟩)) ?_
   refine x_gt rfl rfl trivial rfl rfl ?_
   refine xl_nil ?_
   refine x_if rfl (fun h4 => ?_) (fun h4 => ?_)
   ·
    simp only [Int.toNat_natCast] at h3 h4
    refine x_seq ?_
    refine x_region rfl ?_
    refine x_as rfl rfl trivial rfl ?_
    refine xl_nil ?_
    refine x_ret ?_
    exact end1 rfl rfl rfl ⟨by rw [hcd, cmpB, if_neg (by omega), if_pos (by omega)], hw⟩
   simp only [Int.toNat_natCast] at h3 h4
   refine x_skip ?_
   refine x_region rfl ?_
   refine x_mv rfl rfl trivial rfl ?_
   refine x_addi rfl rfl trivial rfl rfl (by omega) ?_
   refine x_as rfl rfl trivial rfl ?_
   refine xl_nil ?_
   refine ⟨l.length - (k + 1), by omega, [(0, _), (1, _), (5, .int .i64 (k + 1 : Nat))], sB, k + 1, by omega, by omega, ?_, rfl, rfl, hw⟩
   rw [take_succ_getD l k 0 (by omega), take_succ_getD l' k 0 (by omega), he, UInt8.toNat_inj.1 (show (l.getD k 0).toNat = (l'.getD k 0).toNat by omega)]
  have e2 : l'.drop k = [] := List.drop_eq_nil_of_le (by omega)
  rw [e2, drop_getD l k 0 (by omega)] at hcd
  refine x_exit rfl ?_
  refine x_seq ?_
  refine x_seq ?_
  refine x_region rfl ?_
  refine x_mv rfl rfl trivial rfl ?_
  refine x_len rfl rfl trivial (by kernel_rfl) U_sl_uint8 rfl ?_
  refine x_mv rfl rfl trivial rfl ?_
  refine x_len rfl rfl trivial (by kernel_rfl) U_sl_uint8 rfl ?_
  refine x_lt rfl rfl trivial rfl rfl ?_
  refine xl_nil ?_
  refine x_if rfl (fun h5 => ?_) (fun h5 => ?_)
  ·
   exact absurd h5 (by omega)
  refine x_skip ?_
  refine x_seq ?_
  refine x_seq ?_
  refine x_region rfl ?_
  refine x_mv rfl rfl trivial rfl ?_
  refine x_len rfl rfl trivial (by kernel_rfl) U_sl_uint8 rfl ?_
  refine x_mv rfl rfl trivial rfl ?_
  refine x_len rfl rfl trivial (by kernel_rfl) U_sl_uint8 rfl ?_
  refine x_gt rfl rfl trivial rfl rfl ?_
  refine xl_nil ?_
  refine x_if rfl (fun h6 => ?_) (fun h6 => ?_)
  ·
   refine x_seq ?_
   refine x_region rfl ?_
   refine x_as rfl rfl trivial rfl ?_
   refine xl_nil ?_
   refine x_ret ?_
   exact end1 rfl rfl rfl ⟨by rw [hcd]; rfl, hw⟩
  exact absurd h6 (by omega)
 have e2 : l.drop k = [] := List.drop_eq_nil_of_le (by omega)
 rw [e2] at hcd
 refine xl_no rfl rfl rfl rfl rfl rfl ?_
 refine xl_no rfl rfl rfl rfl rfl rfl ?_
 refine xl_no rfl rfl rfl rfl rfl rfl ?_
 refine xl_no rfl rfl rfl rfl rfl rfl ?_
 refine x_pickF rfl rfl trivial rfl rfl rfl ?_
 refine xl_nil ?_
 refine x_cond_false rfl ?_
 refine x_exit rfl ?_
 refine x_seq ?_
 refine x_seq ?_
 refine x_region rfl ?_
 refine x_mv rfl rfl trivial rfl ?_
 refine x_len rfl rfl trivial (by kernel_rfl) U_sl_uint8 rfl ?_
 refine x_mv rfl rfl trivial rfl ?_
 refine x_len rfl rfl trivial (by kernel_rfl) U_sl_uint8 rfl ?_
 refine x_lt rfl rfl trivial rfl rfl ?_
 refine xl_nil ?_
 refine x_if rfl (fun h7 => ?_) (fun h7 => ?_)
 ·
  refine x_seq ?_
  refine x_region rfl ?_
  refine x_as rfl rfl trivial rfl ?_
  refine xl_nil ?_
  refine x_ret ?_
  exact end1 rfl rfl rfl ⟨by rw [hcd, drop_getD l' k 0 (by omega)]; rfl, hw⟩
 refine x_skip ?_
 refine x_seq ?_
 refine x_seq ?_
 refine x_region rfl ?_
 refine x_mv rfl rfl trivial rfl ?_
 refine x_len rfl rfl trivial (by kernel_rfl) U_sl_uint8 rfl ?_
 refine x_mv rfl rfl trivial rfl ?_
 refine x_len rfl rfl trivial (by kernel_rfl) U_sl_uint8 rfl ?_
 refine x_gt rfl rfl trivial rfl rfl ?_
 refine xl_nil ?_
 refine x_if rfl (fun h8 => ?_) (fun h8 => ?_)
 ·
  exact absurd h8 (by omega)
 refine x_skip ?_
 refine x_seq ?_
 refine x_region rfl ?_
 refine x_as rfl rfl trivial rfl ?_
 refine xl_nil ?_
 refine x_ret ?_
 exact end1 rfl rfl rfl ⟨by rw [hcd, List.drop_eq_nil_of_le (by omega)]; rfl, hw⟩
theorem ct_ref00_EqBytes (hw : Sat G L w) (ka : Knows L (SlB v l)) (kb : Knows L (SlB v' l')) (hl : l.length ≤ 140737488355328) (hl' : l'.length ≤ 140737488355328) :
  Calls Tryz.prog 22 #[v, v'] w (Ret fun r w' => r = .bool (decide (l = l')) ∧ Sat G L w') := by
 refine calls_of_x (args := [_, _]) Tryz.func22 rfl Tryz.ntmps22 rfl rfl ?_
 refine x_seq ?_
 refine x_region rfl ?_
 refine x_as rfl rfl trivial rfl ?_
 refine xl_nil ?_
 refine x_seq ?_
 refine x_region rfl ?_
 refine x_mv rfl rfl trivial rfl ?_
 refine x_mv rfl rfl trivial rfl ?_
 refine x_call rfl rfl trivial cal_ref00_Compare rfl (ct_ref00_Compare hw ka kb hl hl') rfl (fun w v7 hv => ?_)
 obtain ⟨rfl, hw⟩ := hv
 refine x_eq rfl rfl trivial (by kernel_rfl) rfl rfl ?_
 refine x_as rfl rfl trivial rfl ?_
 refine xl_nil ?_
 refine x_ret ?_
 exact end1 rfl rfl rfl ⟨by simp only [cmpB_eq], hw⟩
theorem SlB.rd {b o n cap : Nat} {w : World} (h : SlB (.slice (some ⟨b, o, none⟩) n cap) l w) : Rd w ⟨b, o, none⟩ (bys l) := by
 rcases h with ⟨_, rfl⟩ | ⟨b', o', cap', h, hR⟩
 ·exact Rd.nil
 cases h; exact hR.2
theorem SlB.rdd {b o n cap : Nat} {w : World} (h : SlB (.slice (some ⟨b, o, none⟩) n cap) l w) (k : Nat) : Rd w ⟨b, o + k, none⟩ (bys (l.drop k)) := by rw [bys_drop]; exact h.rd.drop k
def SlV (v : Value) (cs : List Value) (w : World) : Prop := ((∃ a, v = .slice a 0 0) ∧ cs = []) ∨ ∃ b o cap, v = .slice (some ⟨b, o, none⟩) cs.length cap ∧ cs.length ≤ cap ∧ Rd w ⟨b, o, none⟩ cs
theorem SlV.form {cs : List Value} {w : World} (h : SlV v cs w) : ∃ a cap, v = .slice a cs.length cap := by
 rcases h with ⟨⟨a, rfl⟩, rfl⟩ | ⟨b, o, cap, rfl, _⟩
 ·exact ⟨a, 0, rfl⟩
 exact ⟨_, cap, rfl⟩
theorem SlV.nn {cs : List Value} {a : Option Addr} {n cap : Nat} {w : World} (h : SlV (.slice a n cap) cs w) (hn : 0 < cs.length) : ∃ b o, a = some ⟨b, o, none⟩ := by
 rcases h with ⟨h, rfl⟩ | ⟨b, o, cap', h, _⟩
 ·simp at hn
 cases h; exact ⟨b, o, rfl⟩
theorem SlV.at {cs : List Value} {b o n cap : Nat} {w : World} (h : SlV (.slice (some ⟨b, o, none⟩) n cap) cs w) {i : Int} {u : Value} (hu : cs[i.toNat]? = some u) : w.cell? ⟨b, o + i.toNat, none⟩ = some u := by
 rcases h with ⟨_, rfl⟩ | ⟨b', o', cap', h, _, hR⟩
 ·simp at hu
 cases h; have := hR i.toNat u hu; rwa [add_lit] at this
theorem SlV.row {T : Nat} {v : Value} {cs : List Value} : Knows [row T 1 v cs.length cs] (SlV v cs) := fun g w hw => by
 obtain ⟨hl, h | ⟨b, cap, cur, rfl, h1, h2, h3, h4⟩⟩ := row_open hw
 ·obtain ⟨rfl, _, h5, _⟩ := h; exact .inl ⟨⟨none, rfl⟩, h5⟩
 refine .inr ⟨b, 0, cap, rfl, h1, ?_⟩
 have := (Rd.blk0 h4 .here).take cs.length
 simpa using this
end
abbrev Bys := List UInt8
theorem rowB {L R : List Assn} {T n : Nat} {v : Value} {l : Bys} (hn : l.length = n) (q : Pick (row T 1 v n (bys l)) L R) : Knows L (SlB v l) := by
 subst hn; exact (SlB.row.head _).pick q
theorem slv_row {T n : Nat} {v : Value} {cs : List Value} (h : cs.length = n) : Knows [row T 1 v n cs] (SlV v cs) := by subst h; exact SlV.row
theorem Sat.knows {G : Gh} {L : List Assn} {w : World} {P : World → Prop} (hw : Sat G L w) (k : Knows L P) : Knows L P := k
theorem row_some {G : Gh} {L : List Assn} {w : World} {T : TypeId} {z m c : Nat} {A : Option Addr} {xs : List Value} (hw : Sat G (row T z (.slice A m c) m xs :: L) w) (hm : 0 < m) : xs.length = m * z ∧
  ∃ b cur, A = some ⟨b, 0, none⟩ ∧ m ≤ c ∧ c ≤ maxLen ∧ (xs ++ cur).length = c * z ∧ Sat G (blk b (xs ++ cur) T :: L) w := by
 obtain ⟨h, hro⟩ := row_open hw
 refine ⟨h, ?_⟩
 rcases hro with ⟨_, h, _⟩ | ⟨b, cap', cur, h, h1, h2, h3, h4⟩
 ·omega
 cases h; exact ⟨b, cur, rfl, h1, h2, h3, h4⟩
theorem both_knows {M : List Assn} {p : World → Prop} (k : Knows M p) : Knows [both M] p := fun g w h => k g w (by have := h.both_out; rwa [List.append_nil] at this)
theorem Sat.both_uncons {G : Gh} {R M : List Assn} {A : Assn} {w : World} (h : Sat G (both (A :: M) :: R) w) : Sat G (A :: both M :: R) w :=
 (Sat.both_out h).mono (L := A :: (M ++ R)) fun h ha => all_cons_mono (fun x hx => (all_append M R x).2 hx) ha
theorem Sat.both_snoc {G : Gh} {R M : List Assn} {A : Assn} {w : World} (h : Sat G (both M :: A :: R) w) : Sat G (both (M ++ [A]) :: R) w := Sat.both_in (by rw [List.append_assoc]; exact h.both_out)
theorem Sat.both_app {G : Gh} {R M N : List Assn} {w : World} (h : Sat G (both M :: both N :: R) w) : Sat G (both (M ++ N) :: R) w := by
 refine Sat.both_in ?_
 rw [List.append_assoc]
 have h1 := h.both_out
 exact h1.mono fun x hx => by
  have key : ∀ (M : List Assn) (x : HMap), all (M ++ both N :: R) x → all (M ++ (N ++ R)) x := fun M => by
   induction M with
   | nil => exact fun x hx => (all_append N R x).1 hx
   | cons A M ih => exact fun x hx => all_cons_mono ih hx
  exact key M x hx
def SlT (z : Nat) (v : Value) (rs : List (List Value)) (w : World) : Prop :=
 (∃ a, v = .slice a 0 0 ∧ (∀ x, a = some x → x.block = x.block) ∧ rs = []) ∨ ∃ b o cap, v = .slice (some ⟨b, o, none⟩) rs.length cap ∧ rs.length ≤ cap ∧ (∀ r ∈ rs, r.length = z) ∧ Rd w ⟨b, o, none⟩ rs.flatten
theorem SlT.form {z : Nat} {v : Value} {rs : List (List Value)} {w : World} (h : SlT z v rs w) : ∃ a cap, v = .slice a rs.length cap ∧ rs.length ≤ cap ∧ ∀ x, a = some x → x.block = x.block := by
 rcases h with ⟨a, rfl, ha, rfl⟩ | ⟨b, o, cap, rfl, h1, _⟩
 ·exact ⟨a, 0, rfl, Nat.le_refl _, ha⟩
 exact ⟨_, cap, rfl, h1, by rintro _ ⟨⟩; rfl⟩
theorem SlT.nn {z : Nat} {a : Option Addr} {m cap : Nat} {rs : List (List Value)} {w : World} (h : SlT z (.slice a m cap) rs w) (hn : 0 < rs.length) : ∃ b o, a = some ⟨b, o, none⟩ := by
 rcases h with ⟨_, _, _, rfl⟩ | ⟨b, o, cap', h, _⟩
 ·simp at hn
 cases h; exact ⟨b, o, rfl⟩
theorem flatten_at {z : Nat} : ∀ {rs : List (List Value)} {k : Nat} {r : List Value}, (∀ r ∈ rs, r.length = z) → rs[k]? = some r → (rs.flatten.drop (k * z)).take z = r
 | x :: rs, 0, r, h, hx => by
  simp at hx; subst hx
  have := h x (List.mem_cons_self ..)
  simp [List.take_append, this]
 | x :: rs, k + 1, r, h, hx => by
  have h1 := h x (List.mem_cons_self ..)
  have ih := flatten_at (rs := rs) (k := k) (fun y hy => h y (List.mem_cons_of_mem _ hy)) (by simpa using hx)
  rw [List.flatten_cons, List.drop_append, h1, List.drop_eq_nil_of_le (by rw [h1, Nat.add_mul]; omega), List.nil_append, show (k + 1) * z - z = k * z by rw [Nat.add_mul]; omega]
  exact ih
 | [], k, r, _, hx => by simp at hx
theorem SlT.at {z b o m cap : Nat} {rs : List (List Value)} {w : World} (h : SlT z (.slice (some ⟨b, o, none⟩) m cap) rs w) {k : Nat} {r : List Value} (hr : rs[k]? = some r) : Rd w ⟨b, o + k * z, none⟩ r := by
 rcases h with ⟨_, _, _, rfl⟩ | ⟨b', o', cap', h, _, hl, hR⟩
 ·simp at hr
 cases h
 have h1 := (hR.drop (k * z)).take z
 rwa [flatten_at hl hr] at h1
theorem SlT.cell {z b o m cap : Nat} {rs : List (List Value)} {w : World} (h : SlT z (.slice (some ⟨b, o, none⟩) m cap) rs w) {k j : Nat} {r : List Value} {u : Value} (hr : rs[k]? = some r) (hu : r[j]? = some u) : w.cell? ⟨b, o + (k : Int).toNat * z + j, none⟩ = some u := by
 have := h.at hr j u hu
 rwa [add_lit] at this
theorem flatten_length {z : Nat} : ∀ {rs : List (List Value)}, (∀ r ∈ rs, r.length = z) → rs.flatten.length = rs.length * z
 | [], _ => by simp
 | x :: rs, h => by
  rw [List.flatten_cons, List.length_append, h x (List.mem_cons_self ..), flatten_length (fun y hy => h y (List.mem_cons_of_mem _ hy)), List.length_cons, Nat.add_mul]; omega
theorem SlT.row {T z m : Nat} {v : Value} {rs : List (List Value)} (hm : rs.length = m) (hz : ∀ r ∈ rs, r.length = z) : Knows [row T z v m rs.flatten] (SlT z v rs) := fun g w hw => by
 obtain ⟨hl, h | ⟨b, cap, cur, rfl, h1, h2, h3, h4⟩⟩ := row_open hw
 ·obtain ⟨rfl, h5, _, _⟩ := h
  exact .inl ⟨none, rfl, by simp, List.eq_nil_of_length_eq_zero (by omega)⟩
 refine .inr ⟨b, 0, cap, by rw [hm], by omega, hz, ?_⟩
 have := (Rd.blk0 h4 .here).take rs.flatten.length
 simpa using this
def Small (l : Bys) : Prop := l.length ≤ 140737488355328
theorem Knows.both_mem {A : List Assn} {M : List Assn} {p : World → Prop} (k : Knows A p) : ∀ {B C : List Assn}, M = B ++ (A ++ C) → Knows [both M] p := fun {B C} h => both_knows fun g w hw => by
 subst h
 have h1 : Sat g (A ++ C) w := by
  induction B with
  | nil => exact hw
  | cons X B ih => exact ih hw.tail
 have h3 := (Sat.both_in (M := A) h1).head.both_out
 rw [List.append_nil] at h3
 exact k g w h3

def grow (T : TypeId) (v g : Value) (m : Nat) (xs zs : List Value) : Assn := fun h =>
 xs.length = m ∧ zs.take m = xs ∧
 ((∃ b cap cur, v = .slice (some ⟨b, 0, none⟩) m cap ∧ g = .slice (some ⟨b, 0, none⟩) zs.length cap ∧ zs.length ≤ cap ∧ cap ≤ maxLen ∧ (zs ++ cur).length = cap ∧ all [blk b (zs ++ cur) T] h) ∨
  all [row T 1 v m xs, row T 1 g zs.length zs] h)
section
variable {P : Program} {n : Nat} {ops : Array Oper} {dr : Bool} {done r : List Nat} {K : Env → World → Prop} {e : Env} {w : World} {i d : Nat} {t : TypeId} {p : String} {af : Array Edge} {gd : Option (Nat × Bool)}
variable {G : Gh} {L R : List Assn} {s T : TypeId} {x y : Operand} {v g u : Value} {m : Nat} {xs zs : List Value}
theorem grow_open (hw : Sat G (grow T v g m xs zs :: R) w) : xs.length = m ∧ zs.take m = xs ∧
  ((∃ b cap cur, v = .slice (some ⟨b, 0, none⟩) m cap ∧ g = .slice (some ⟨b, 0, none⟩) zs.length cap ∧ zs.length ≤ cap ∧ cap ≤ maxLen ∧ (zs ++ cur).length = cap ∧ Sat G (blk b (zs ++ cur) T :: R) w) ∨ Sat G (row T 1 v m xs :: row T 1 g zs.length zs :: R) w) := by
 obtain ⟨hh, ⟨h1, h2, h3⟩, hM⟩ := assn_out hw
 refine ⟨h1, h2, ?_⟩
 rcases h3 with ⟨b, cap, cur, ha, hb, hc, hd, he, hf⟩ | h3
 ·exact .inl ⟨b, cap, cur, ha, hb, hc, hd, he, hM _ hf⟩
 exact .inr (hM _ h3)
theorem grow_start (hw : Sat G (row T 1 v m xs :: R) w) : Sat G (grow T v v m xs xs :: R) w := by
 obtain ⟨hl, hc⟩ := row_open hw
 rw [Nat.mul_one] at hl
 have ht : xs.take m = xs := List.take_of_length_le (by omega)
 rcases hc with ⟨rfl, hm, hx, hR⟩ | ⟨b, cap, cur, rfl, h1, h2, h3, h4⟩
 ·subst hm; subst hx
  refine assn_in (M := [row T 1 _ 0 [], row T 1 _ 0 []]) (row_nil (row_nil hR T 1) T 1) fun h ha => ⟨rfl, rfl, .inr ha⟩
 refine assn_in (M := [blk b (xs ++ cur) T]) h4 fun h ha => ⟨hl, ht, .inl ⟨b, cap, cur, rfl, by rw [hl], by omega, h2, by omega, ha⟩⟩
theorem grow_knows : Knows [grow T v g m xs zs] (fun w => SlV v xs w ∧ SlV g zs w) := fun G w hw => by
 obtain ⟨h1, h2, ⟨b, cap, cur, rfl, rfl, hc, hd, he, hf⟩ | h3⟩ := grow_open hw
 ·have hr := Rd.blk0 hf .here
  have hz : Rd w ⟨b, 0, none⟩ zs := by have := hr.take zs.length; simpa using this
  refine ⟨.inr ⟨b, 0, cap, by rw [h1], ?_, ?_⟩, .inr ⟨b, 0, cap, rfl, hc, hz⟩⟩
  ·rw [← h2, List.length_take]; omega
  rw [← h2]; exact hz.take m
 refine ⟨?_, ?_⟩
 ·have h := h3.head; subst h1; exact SlV.row.at h
 exact SlV.row.at h3.tail.head
theorem run_appG {c : TypeId} {bytes : Nat} {zv : Value} {inf : TypeInfo} {ty : TypeId} {ax : Addr} {cx : Nat} (hs : P.underlying s = some (.slice c)) (hi : P.info? c = some inf) (hzz : inf.zero = some zv) (hsz : inf.size = 1) (hbb : inf.bytes = bytes) (hzs : zv.cells.size = 1)
  (hw : Sat G (grow c v g m xs zs :: R) w) (hr : Rd w ax [u]) (h1 : Ones [u]) (h63 : zs.length + 1 ≤ maxLen) (hby : (zs.length + 1) * bytes ≤ 140737488355328) :
  ∃ v' w', (Builtin.append_ #[s, s] ty #[g, .slice (some ax) 1 cx]).run P w = .ok v' w' ∧ Sat G (grow c v v' m xs (zs ++ [u]) :: R) w' := by
 obtain ⟨hx, htk, ⟨b, cap, cur, rfl, rfl, hc, hd, he, hf⟩ | h3⟩ := grow_open hw
 ·have htk' : (zs ++ [u]).take m = xs := by rw [List.take_append_of_le_length (by rw [← hx, ← htk, List.length_take]; omega)]; exact htk
  have hmz : m ≤ zs.length := by rw [← hx, ← htk, List.length_take]; omega
  by_cases hroom : zs.length + 1 ≤ cap
  ·have hrr := run_append_room (P := P) w s ty c inf hs hi b zs.length cap (zs ++ cur).toArray (hf.pt .here) ax 1 cx [u] (by rw [hsz]; rfl) hr h1 hroom (by rw [hsz, List.size_toArray, he]; simp; omega)
   have hB' := hf.setBlk .here ((zs ++ [u]) ++ cur.drop 1)
   have e1 : (List.take (zs.length * inf.size) (zs ++ cur).toArray.toList ++ [u] ++ List.drop (zs.length * inf.size + [u].length) (zs ++ cur).toArray.toList).toArray = ((zs ++ [u]) ++ cur.drop 1).toArray := by
    rw [hsz, Nat.mul_one]
    simp [List.drop_append, List.drop_eq_nil_of_le]
   rw [e1] at hrr
   refine ⟨_, _, hrr, assn_in (M := [blk b ((zs ++ [u]) ++ cur.drop 1) c]) hB' fun h ha => ⟨hx, htk', .inl ⟨b, cap, cur.drop 1, rfl, by simp, by simp; omega, hd, ?_, ha⟩⟩⟩
   simp only [List.length_append, List.length_drop, List.length_cons, List.length_nil] at he ⊢; omega
  have holds : Rd w ⟨b, 0, none⟩ zs := by
   have := (Rd.of_blk (o := 0) hf .here).take zs.length
   simpa using this
  have hrr := run_append_grow (P := P) w s ty c inf zv hs hi hzz ⟨b, 0, none⟩ zs.length cap zs (by rw [hsz]; omega) holds ax 1 cx [u] (by rw [hsz]; rfl) hr (by omega) (by simp only [maxLen] at h63; omega) (by rw [hbb]; exact growslice_fits (by omega) hby)
  have hge := grownCap_ge w (zs.length + 1) cap c
  have hcm : grownCap w (zs.length + 1) cap c ≤ maxLen := grownCap_le_maxLen w (zs.length + 1) cap c h63
  have h2 := (hf.drawn (w.drawn + 1)).push (.cells (zs.toArray ++ [u].toArray ++ Builtin.zeroCells zv.cells (grownCap w (zs.length + 1) cap c - (zs.length + 1))) c (0, 0))
  have e : zs.toArray ++ [u].toArray ++ Builtin.zeroCells zv.cells (grownCap w (zs.length + 1) cap c - (zs.length + 1)) = ((zs ++ [u]) ++ (Builtin.zeroCells zv.cells (grownCap w (zs.length + 1) cap c - (zs.length + 1))).toList).toArray := by
   apply Array.ext'; simp
  rw [e] at h2
  have hzl : ∀ k, (Builtin.zeroCells zv.cells k).toList.length = k := fun k => by rw [Array.length_toList, size_zeroCells, hzs, Nat.mul_one]
  have h4 := row_mk (z := 1) (m := zs.length + 1) (cap := grownCap w (zs.length + 1) cap c) h2 (by simp) hge hcm (by
    rw [List.length_append, show (zs ++ [u]).length = zs.length + 1 by simp, hzl]; omega)
  have hsplit : zs ++ cur = xs ++ (zs.drop m ++ cur) := by rw [← List.append_assoc, ← htk, List.take_append_drop]
  have h5 : Sat G (blk b (xs ++ (zs.drop m ++ cur)) c :: row c 1 _ _ _ :: R) _ := hsplit ▸ (h4.pick (.there .here))
  have h6 := row_mk (z := 1) (m := m) (cap := cap) h5 (by omega) (by omega) hd (by rw [← hsplit]; omega)
  refine ⟨_, _, hrr, ?_⟩
  rw [← e] at h6
  refine assn_in (M := [row c 1 _ m xs, row c 1 _ (zs.length + 1) (zs ++ [u])]) h6 fun h ha => ⟨hx, htk', .inr ?_⟩
  rw [List.length_append]; exact ha
 have htk' : (zs ++ [u]).take m = xs := by rw [List.take_append_of_le_length (by rw [← hx, ← htk, List.length_take]; omega)]; exact htk
 obtain ⟨v', w', h4, h5⟩ := run_app (z := 1) (m := zs.length) (k := 1) (news := [u]) (cx := cx) (ty := ty) hs hi hzz hsz hbb hzs (h3.pick (.there .here)) hr rfl h1 h63 hby
 refine ⟨v', w', h4, assn_in (M := [row c 1 v m xs, row c 1 v' (zs.length + 1) (zs ++ [u])]) (h5.pick (.there .here)) fun h ha => ⟨hx, htk', .inr ?_⟩⟩
 rw [List.length_append]; exact ha
theorem x_appG {c : TypeId} {bytes : Nat} {ax : Addr} {cx : Nat} (ho : ops[i]? = some ⟨some d, .call ⟨.builtin .append, #[x, y], #[s, s]⟩, t, p, af, gd⟩) (hd : Nat.blt d n = true) (hg : Gd ops e gd) (hs : P.underlying s = some (.slice c)) (hzc : (P.info? c).map (·.size) = some 1)
  (hbc : (P.info? c).map (·.bytes) = some bytes) (hz0 : (zeroOf P c).map (·.size) = some 1) (hx : ev e x = some g) (hy : ev e y = some (.slice (some ax) 1 cx)) (hw : Sat G L w) (hp : Pick (grow c v g m xs zs) L R) (hr : Rd w ax [u]) (h1 : Ones [u])
  (h63 : zs.length + 1 ≤ maxLen) (hby : (zs.length + 1) * bytes ≤ 140737488355328) (hpd : pend P ops dr done i = [])
  (h : ∀ w' v', Sat G (grow c v v' m xs (zs ++ [u]) :: R) w' → XL P n ops dr (i :: done) r K ((d, v') :: e) w') : XL P n ops dr done (i :: r) K e w := by
 cases hi : P.info? c with
 | none => simp [hi] at hzc
 | some inf =>
  have hsz : inf.size = 1 := by simpa [hi] using hzc
  have hbb : inf.bytes = bytes := by simpa [hi] using hbc
  cases hzz : inf.zero with
  | none => simp [zeroOf, hi, hzz] at hz0
  | some zv =>
   have hzs : zv.cells.size = 1 := by simpa [zeroOf, hi, hzz] using hz0
   obtain ⟨v', w', hrun, hS⟩ := run_appG (ty := t) (cx := cx) hs hi hzz hsz hbb hzs (hw.pick hp) hr h1 h63 hby
   refine xl_eff ho (by simpa [dstOk] using hd) hg (ρ := rh e) (by intro z hZ; simp [Op.operands, Call.operands] at hZ; exact oh2 hx hy hZ) rfl (v := v') (w' := w') ?_ (noPend hpd) (h _ _ hS)
   simp only [execOp, resolve, invoke, builtin, Sem.run_bind, Sem.run_pure, Result.andThen_ok, List.map_toArray, List.map_cons, List.map_nil, rh_of hx, rh_of hy, hrun]
end
def mks (mk : Nat → Nat → Value) (i m : Nat) : List Value := (List.range m).map (mk i)
theorem mks_length (mk : Nat → Nat → Value) (i m : Nat) : (mks mk i m).length = m := by simp [mks]
theorem mks_get {mk : Nat → Nat → Value} {i m k : Nat} (h : k < m) : (mks mk i m)[k]? = some (mk i k) := by simp [mks, h]
theorem mks_succ (mk : Nat → Nat → Value) (i m : Nat) : mks mk i (m + 1) = mks mk i m ++ [mk i m] := by simp [mks, List.range_succ]
def rw0 (T : TypeId) : List (Value × List Value) → List Assn
 | [] => []
 | (v, c) :: r => row T 1 v c.length c :: rw0 T r
def rws (T : TypeId) (mk : Nat → Nat → Value) : Nat → List (Value × List Value) → List Assn
 | _, [] => []
 | i, (v, c) :: r => row T 1 v c.length (mks mk i c.length) :: rws T mk (i + 1) r
def grs (T : TypeId) (mk : Nat → Nat → Value) : Nat → List (Value × List Value) → List Value → List Assn
 | i, (v, c) :: r, g :: gs => grow T v g c.length (mks mk i c.length) (mks mk i (c.length + 20)) :: grs T mk (i + 1) r gs
 | _, _, _ => []
theorem rws_snoc (T : TypeId) (mk : Nat → Nat → Value) (v : Value) (c : List Value) : ∀ (i : Nat) (X : List (Value × List Value)), rws T mk i (X ++ [(v, c)]) = rws T mk i X ++ [row T 1 v c.length (mks mk (i + X.length) c.length)]
 | i, [] => rfl
 | i, (u, d) :: X => by simp only [List.cons_append, rws, rws_snoc T mk v c (i + 1) X, List.length_cons]; rw [show i + 1 + X.length = i + (X.length + 1) by omega]
theorem grs_snoc (T : TypeId) (mk : Nat → Nat → Value) (v : Value) (c : List Value) (g : Value) : ∀ (i : Nat) (X : List (Value × List Value)) (gs : List Value), gs.length = X.length →
  grs T mk i (X ++ [(v, c)]) (gs ++ [g]) = grs T mk i X gs ++ [grow T v g c.length (mks mk (i + X.length) c.length) (mks mk (i + X.length) (c.length + 20))]
 | i, [], [], _ => rfl
 | i, (u, d) :: X, f :: gs, h => by simp only [List.cons_append, grs, grs_snoc T mk v c g (i + 1) X gs (by simpa using h), List.length_cons]; rw [show i + 1 + X.length = i + (X.length + 1) by omega]
 | _, [], _ :: _, h => by simp at h
 | _, _ :: _, [], h => by simp at h
theorem grs_knows {T : TypeId} {mk : Nat → Nat → Value} {v g : Value} {c : List Value} : ∀ {i : Nat} {X : List (Value × List Value)} {gs : List Value} {k : Nat}, X[k]? = some (v, c) → gs[k]? = some g →
  Knows (grs T mk i X gs) (fun w => SlV v (mks mk (i + k) c.length) w ∧ SlV g (mks mk (i + k) (c.length + 20)) w)
 | i, (u, d) :: X, f :: gs, 0, h1, h2 => by
  simp at h1 h2
  obtain ⟨rfl, rfl⟩ := h1; subst h2
  exact grow_knows.head _
 | i, (u, d) :: X, f :: gs, k + 1, h1, h2 => by
  have := (grs_knows (T := T) (mk := mk) (i := i + 1) (X := X) (gs := gs) (k := k) (by simpa using h1) (by simpa using h2)).cons (grow T u f d.length (mks mk i d.length) (mks mk i (d.length + 20)))
  rwa [show i + 1 + k = i + (k + 1) by omega] at this
 | _, [], _, k, h1, _ => by simp at h1
 | _, _ :: _, [], k, _, h2 => by simp at h2
section
variable {G : Gh} {L R M : List Assn} {A : Assn} {w : World}
def mkB (i k : Nat) : Value := .int .u8 (IntKind.u8.wrap ((i : Int) * 31 + (k : Int) * 7 + 1))
theorem ct_ref00_Apart {v : Value} {X : List (Value × List Value)} (hw : Sat G (row 22 1 v X.length (X.map Prod.fst) :: both (rw0 5 X) :: L) w) (hn : X.length ≤ 1000000000) (hX : ∀ x ∈ X, x.2.length ≤ 1000000000) :
  Calls Tryz.prog 14 #[v] w (Ret fun r w' => r = .bool true ∧ Sat G L w') := by
 obtain ⟨a, cap, rfl⟩ := row_form hw
 have hsv := slv_row (T := 22) (v := .slice a X.length cap) (cs := X.map Prod.fst) (n := X.length) (by simp)
 have hget : ∀ {i : Nat} {x : Value × List Value}, X[i]? = some x → (X.map Prod.fst)[(i : Int).toNat]? = some x.1 := fun {i x} h => by
  rw [Int.toNat_natCast, List.getElem?_map, h]; rfl
 have hsplit : ∀ {i : Nat}, i < X.length → ∃ u c, X[i]? = some (u, c) ∧ c.length ≤ 1000000000 ∧ X.drop i = (u, c) :: X.drop (i + 1) ∧ X.take (i + 1) = X.take i ++ [(u, c)] ∧ (X.take i).length = i := fun {i} hi => by
  obtain ⟨⟨u, c⟩, hx⟩ : ∃ x, X[i]? = some x := ⟨_, List.getElem?_eq_getElem hi⟩
  refine ⟨u, c, hx, hX _ (List.mem_of_getElem? hx), ?_, by rw [List.take_add_one, hx]; rfl, by rw [List.length_take]; omega⟩
  rw [List.drop_eq_getElem_cons hi]; congr 1
  rw [List.getElem?_eq_getElem hi] at hx; exact Option.some.inj hx
 refine calls_of_x (args := [_]) Tryz.func14 rfl Tryz.ntmps14 rfl rfl ?_
 refine x_seq ?_
 refine x_region rfl ?_
 refine x_as rfl rfl trivial rfl ?_
 refine xl_nil ?_
 refine x_seq ?_
 refine x_seq ?_
 refine x_region rfl ?_
 refine x_as rfl rfl trivial rfl ?_
 refine xl_nil ?_
 refine x_block ?_
 refine x_loop (fun m e w => ∃ (i : Nat), i ≤ X.length ∧ m = X.length - i ∧ e = [(0, .slice a X.length cap), (3, .int .i64 i)] ∧ Sat G (row 22 1 (.slice a X.length cap) X.length (X.map Prod.fst) :: both (rws 5 mkB 0 (X.take i)) :: both (rw0 5 (X.drop i)) :: L) w)
  (m := X.length) (e₀ := [(0, .slice a X.length cap), (3, .int .i64 (0 : Nat))]) sB
  ⟨0, Nat.zero_le _, rfl, rfl, (Sat.both_in (M := []) hw).pick (.there .here)⟩ ?_
 rintro m e w ⟨i, hi, rfl, rfl, hw⟩
 refine x_seq ?_
 refine x_seq ?_
 refine x_region rfl ?_
 refine x_mv rfl rfl trivial rfl ?_
 refine x_mv rfl rfl trivial rfl ?_
 refine x_len rfl rfl trivial (by kernel_rfl) U_sl_sl_uint8 rfl ?_
 refine x_lt rfl rfl trivial rfl rfl ?_
 refine xl_nil ?_
 refine x_if rfl (fun h1 => ?_) (fun h1 => ?_)
 ·
  have hi' : i < X.length := by omega
  obtain ⟨u, c, hx, hxc, hdr, htk, htl⟩ := hsplit hi'
  obtain ⟨b, o, rfl⟩ := ((hw.knows ((hsv.head _).pick pK)).at hw).nn (by rw [List.length_map]; omega)
  have hw := (hw.pick (A := both (rw0 5 _)) pK)
  rw [hdr] at hw
  have hw := hw.both_uncons
  obtain ⟨au, cu, rfl⟩ := row_form hw
  refine x_skip ?_
  refine x_seq ?_
  refine x_block ?_
  refine x_seq ?_
  refine x_region rfl ?_
  refine x_as rfl rfl trivial rfl ?_
  refine xl_nil ?_
  refine x_block ?_
  have hw := hw.bring (As := [row _ 1 (.slice au _ _) _ _, row _ 1 (.slice (some ⟨b, o, none⟩) _ _) _ _, both (rws _ _ _ _), both _]) bR
  refine x_loop (fun m e w => ∃ (k : Nat), k ≤ c.length ∧ m = c.length - k ∧ e = [(0, .slice (some ⟨b, o, none⟩) X.length cap), (3, .int .i64 i), (4, .int .i64 k)] ∧ Sat G (row 5 1 (.slice au c.length cu) c.length (mks mkB i k ++ c.drop k) :: row 22 1 (.slice (some ⟨b, o, none⟩) X.length cap) X.length (X.map Prod.fst) :: both (rws 5 mkB 0 (X.take i)) :: both (rw0 5 (X.drop (i + 1))) :: L) w)
   (m := c.length) (e₀ := [(0, .slice (some ⟨b, o, none⟩) X.length cap), (3, .int .i64 i), (4, .int .i64 (0 : Nat))]) sB
   ⟨0, Nat.zero_le _, rfl, rfl, hw⟩ ?_
  rintro m e w ⟨k, hk, rfl, rfl, hw⟩
  refine x_seq ?_
  refine x_seq ?_
  refine x_region rfl ?_
  refine x_mv rfl rfl trivial rfl ?_
  refine x_mv rfl rfl trivial rfl ?_
  refine x_mv rfl rfl trivial rfl ?_
  refine x_idx1 rfl rfl trivial U_sl_sl_uint8 sz_sl_uint8 rfl rfl ⟨by omega, by omega⟩ ?_
  refine x_ld rfl rfl trivial rfl (Loads.one one_sl_uint8 (((hw.knows ((hsv.head _).pick pK)).at hw).at (hget hx))) ?_
  refine x_len rfl rfl trivial (by kernel_rfl) U_sl_uint8 rfl ?_
  refine x_lt rfl rfl trivial rfl rfl ?_
  refine xl_nil ?_
  refine x_if rfl (fun h2 => ?_) (fun h2 => ?_)
  ·
   have hk' : k < c.length := by omega
   obtain ⟨-, bu, cur, rfl, hcc, hcm, hcl, hw⟩ := row_some (hw.pick (A := row 5 1 _ _ _) pK) (by omega)
   refine x_skip ?_
   refine x_seq ?_
   refine x_block ?_
   refine x_region rfl ?_
   refine x_mv rfl rfl trivial rfl ?_
   refine x_mv rfl rfl trivial rfl ?_
   refine x_idx1 rfl rfl trivial U_sl_sl_uint8 sz_sl_uint8 rfl rfl ⟨by omega, by omega⟩ ?_
   refine x_ld rfl rfl trivial rfl (Loads.one one_sl_uint8 (((hw.knows ((hsv.head _).pick pK)).at hw).at (hget hx))) ?_
   refine x_mv rfl rfl trivial rfl ?_
   refine x_mv rfl rfl trivial rfl ?_
   refine x_muli rfl rfl trivial rfl rfl (by omega) ?_
   refine x_mv rfl rfl trivial rfl ?_
   refine x_muli rfl rfl trivial rfl rfl (by omega) ?_
   refine x_addi rfl rfl trivial rfl rfl (by omega) ?_
   refine x_addi rfl rfl trivial rfl rfl (by omega) ?_
   refine x_conv rfl rfl trivial (by kernel_rfl) U_int U_uint8 rfl ?_
   refine x_idx1 rfl rfl trivial U_sl_uint8 sz_uint8 rfl rfl ⟨by omega, by omega⟩ ?_
   refine x_st1 (l' := (mks mkB i (k + 1) ++ c.drop (k + 1)) ++ cur) rfl trivial rfl rfl one_uint8 rfl hw pK (by simp only [List.length_append, mks_length, List.length_drop, Nat.blt_eq]; omega) (by
    have hix : 0 + (k : Int).toNat = k := by omega
    rw [hix, List.set_append_left _ _ (by simp only [List.length_append, mks_length, List.length_drop]; omega), List.set_append_right _ _ (by rw [mks_length]; omega), mks_length, Nat.sub_self, List.drop_eq_getElem_cons hk', List.set_cons_zero, mks_succ]
    simp [mkB]) rfl (fun w hw => ?_)
   refine xl_nil ?_
   refine x_region rfl ?_
   refine x_mv rfl rfl trivial rfl ?_
   refine x_addi rfl rfl trivial rfl rfl (by omega) ?_
   refine x_as rfl rfl trivial rfl ?_
   refine xl_nil ?_
   have hw := row_mk (z := 1) (m := c.length) hw (by simp only [List.length_append, mks_length, List.length_drop]; omega) hcc hcm (by simp only [List.length_append, mks_length, List.length_drop] at hcl ⊢; omega)
   exact ⟨c.length - (k + 1), by omega, [(0, _), (3, _), (4, .int .i64 (k + 1 : Nat))], sB, k + 1, by omega, rfl, rfl, hw⟩
  refine x_exit rfl ?_
  refine x_region rfl ?_
  refine x_mv rfl rfl trivial rfl ?_
  refine x_addi rfl rfl trivial rfl rfl (by omega) ?_
  refine x_as rfl rfl trivial rfl ?_
  refine xl_nil ?_
  have hkk : k = c.length := by omega
  have hw := hw.bring (As := [both (rws _ _ _ _), row 5 1 _ _ _]) bR
  rw [hkk, List.drop_length, List.append_nil] at hw
  have hw := hw.both_snoc
  have hsn := rws_snoc 5 mkB (.slice au c.length cu) c 0 (X.take i)
  rw [htl, Nat.zero_add, ← htk] at hsn
  rw [← hsn] at hw
  exact ⟨X.length - (i + 1), by omega, [(0, _), (3, .int .i64 (i + 1 : Nat))], sB, i + 1, by omega, rfl, rfl, hw.pick (A := row 22 1 _ _ _) pK⟩
 have hii : i = X.length := by omega
 subst hii
 rw [List.take_length] at hw
 have hw := ((hw.pick (A := both (rw0 _ _)) pK).tail.pick (A := both (rws _ _ _ _)) pK)
 refine x_exit rfl ?_
 refine x_seq ?_
 refine x_region rfl ?_
 refine x_as rfl rfl trivial rfl ?_
 refine xl_nil ?_
 refine x_seq ?_
 refine x_seq ?_
 refine x_region rfl ?_
 refine x_as rfl rfl trivial rfl ?_
 refine xl_nil ?_
 refine x_block ?_
 have hw := Sat.both_in (M := grs 5 mkB 0 [] []) hw
 have hw := row_nil hw 22 1
 refine x_loop (fun m e w => ∃ (i : Nat) (gs : List Value) (gv : Value), i ≤ X.length ∧ gs.length = i ∧ m = X.length - i ∧ e = [(0, .slice a X.length cap), (5, gv), (6, .int .i64 i)] ∧ Sat G (row 22 1 gv i gs :: both (grs 5 mkB 0 (X.take i) gs) :: both (rws 5 mkB i (X.drop i)) :: row 22 1 (.slice a X.length cap) X.length (X.map Prod.fst) :: L) w)
  (m := X.length) (e₀ := [(0, .slice a X.length cap), (5, .slice none 0 0), (6, .int .i64 (0 : Nat))]) sB
  ⟨0, [], _, Nat.zero_le _, rfl, rfl, rfl, hw⟩ ?_
 rintro m e w ⟨i, gs, gv, hi, hgs, rfl, rfl, hw⟩
 refine x_seq ?_
 refine x_seq ?_
 refine x_region rfl ?_
 refine x_mv rfl rfl trivial rfl ?_
 refine x_mv rfl rfl trivial rfl ?_
 refine x_len rfl rfl trivial (by kernel_rfl) U_sl_sl_uint8 rfl ?_
 refine x_lt rfl rfl trivial rfl rfl ?_
 refine xl_nil ?_
 refine x_if rfl (fun h3 => ?_) (fun h3 => ?_)
 ·
  have hi' : i < X.length := by omega
  obtain ⟨u, c, hx, hxc, hdr, htk, htl⟩ := hsplit hi'
  obtain ⟨b, o, rfl⟩ := ((hw.knows ((hsv.head _).pick pK)).at hw).nn (by rw [List.length_map]; omega)
  have hw := (hw.pick (A := both (rws 5 _ _ _)) pK)
  rw [hdr] at hw
  have hw := hw.both_uncons
  obtain ⟨au, cu, rfl⟩ := row_form hw
  have hw := grow_start hw
  refine x_skip ?_
  refine x_seq ?_
  refine x_block ?_
  refine x_seq ?_
  refine x_region rfl ?_
  refine x_mv rfl rfl trivial rfl ?_
  refine x_mv rfl rfl trivial rfl ?_
  refine x_idx1 rfl rfl trivial U_sl_sl_uint8 sz_sl_uint8 rfl rfl ⟨by omega, by omega⟩ ?_
  refine x_ld rfl rfl trivial rfl (Loads.one one_sl_uint8 (((hw.knows ((hsv.head _).pick pK)).at hw).at (hget hx))) ?_
  refine x_as rfl rfl trivial rfl ?_
  refine xl_nil ?_
  refine x_seq ?_
  refine x_seq ?_
  refine x_region rfl ?_
  refine x_as rfl rfl trivial rfl ?_
  refine xl_nil ?_
  refine x_block ?_
  have hw := hw.bring (As := [grow _ _ _ _ _ _, row _ 1 gv _ _, both (grs _ _ _ _ _), both _]) bR
  refine x_loop (fun m e w => ∃ (j : Nat) (g : Value), j ≤ 20 ∧ m = 20 - j ∧ e = [(0, .slice (some ⟨b, o, none⟩) X.length cap), (5, gv), (6, .int .i64 i), (7, g), (8, .int .i64 j)] ∧ Sat G (grow 5 (.slice au c.length cu) g c.length (mks mkB i c.length) (mks mkB i (c.length + j)) :: row 22 1 gv i gs :: both (grs 5 mkB 0 (X.take i) gs) :: both (rws 5 mkB (i + 1) (X.drop (i + 1))) :: row 22 1 (.slice (some ⟨b, o, none⟩) X.length cap) X.length (X.map Prod.fst) :: L) w)
   (m := 20) (e₀ := [(0, .slice (some ⟨b, o, none⟩) X.length cap), (5, gv), (6, .int .i64 i), (7, .slice au c.length cu), (8, .int .i64 (0 : Nat))]) sB
   ⟨0, _, Nat.zero_le _, rfl, rfl, hw⟩ ?_
  rintro m e w ⟨j, g, hj, rfl, rfl, hw⟩
  refine x_seq ?_
  refine x_seq ?_
  refine x_region rfl ?_
  refine x_mv rfl rfl trivial rfl ?_
  refine x_lt rfl rfl trivial rfl rfl ?_
  refine xl_nil ?_
  refine x_if rfl (fun h4 => ?_) (fun h4 => ?_)
  ·
   refine x_skip ?_
   refine x_seq ?_
   refine x_block ?_
   refine x_region rfl ?_
   refine x_mv rfl rfl trivial rfl ?_
   refine x_mv rfl rfl trivial rfl ?_
   refine x_muli rfl rfl trivial rfl rfl (by omega) ?_
   refine x_mv rfl rfl trivial rfl ?_
   refine x_mv rfl rfl trivial rfl ?_
   refine x_idx1 rfl rfl trivial U_sl_sl_uint8 sz_sl_uint8 rfl rfl ⟨by omega, by omega⟩ ?_
   refine x_ld rfl rfl trivial rfl (Loads.one one_sl_uint8 (((hw.knows ((hsv.head _).pick pK)).at hw).at (hget hx))) ?_
   refine x_len rfl rfl trivial (by kernel_rfl) U_sl_uint8 rfl ?_
   refine x_mv rfl rfl trivial rfl ?_
   refine x_addi rfl rfl trivial rfl rfl (by omega) ?_
   refine x_muli rfl rfl trivial rfl rfl (by omega) ?_
   refine x_addi rfl rfl trivial rfl rfl (by omega) ?_
   refine x_addi rfl rfl trivial rfl rfl (by omega) ?_
   refine x_conv rfl rfl trivial (by kernel_rfl) U_int U_uint8 rfl ?_
   refine x_bs1 (cs := [mkB i (c.length + j)]) rfl rfl trivial U_sl_uint8 sz_uint8 zs_uint8 (by decide) rfl (by
     simp [mkB, Value.cells]) rfl hw rfl (fun w b68 hw => ?_)
   refine x_appG (u := mkB i (c.length + j)) rfl rfl trivial U_sl_uint8 sz_uint8 by_uint8 zs_uint8 rfl rfl hw pK (Rd.blk0 hw pK) (by intro u hu; simp at hu; subst hu; rfl) (by rw [mks_length]; simp only [maxLen]; omega) (by rw [mks_length]; omega) rfl (fun w v69 hw => ?_)
   refine x_as rfl rfl trivial rfl ?_
   refine xl_nil ?_
   refine x_region rfl ?_
   refine x_mv rfl rfl trivial rfl ?_
   refine x_addi rfl rfl trivial rfl rfl (by omega) ?_
   refine x_as rfl rfl trivial rfl ?_
   refine xl_nil ?_
   rw [← mks_succ] at hw
   have hw := (hw.pick (A := blk b68 _ _) pK).tail
   exact ⟨20 - (j + 1), by omega, [(0, _), (5, _), (6, _), (7, _), (8, .int .i64 (j + 1 : Nat))], sB, j + 1, _, by omega, rfl, rfl, hw⟩
  have hjj : j = 20 := by omega
  subst hjj
  obtain ⟨ag, cg, rfl⟩ := (((grow_knows.head _).at hw).2).form
  refine x_exit rfl ?_
  refine x_region rfl ?_
  refine x_mv rfl rfl trivial rfl ?_
  refine x_mv rfl rfl trivial rfl ?_
  refine x_bs1 (cs := [.slice ag (mks mkB i (c.length + 20)).length cg]) rfl rfl trivial U_sl_sl_uint8 sz_sl_uint8 zs_sl_uint8 (by decide) rfl rfl rfl hw rfl (fun w b72 hw => ?_)
  refine x_app (m := i) (k := 1) (news := [.slice ag (mks mkB i (c.length + 20)).length cg]) rfl rfl trivial U_sl_sl_uint8 sz_sl_uint8 by_sl_uint8 zs_sl_uint8 rfl rfl hw (Pick.there (.there .here)) (Rd.blk0 hw pK) rfl (by intro u hu; simp at hu; subst hu; rfl) (by simp only [maxLen]; omega) (by omega) rfl (fun w v73 hw => ?_)
  refine x_as rfl rfl trivial rfl ?_
  refine xl_nil ?_
  refine x_region rfl ?_
  refine x_mv rfl rfl trivial rfl ?_
  refine x_addi rfl rfl trivial rfl rfl (by omega) ?_
  refine x_as rfl rfl trivial rfl ?_
  refine xl_nil ?_
  have hw := (hw.pick (A := blk b72 _ _) pK).tail
  have hw := (hw.bring (As := [both (grs _ _ _ _ _), grow _ _ _ _ _ _]) bR).both_snoc
  have hsn := grs_snoc 5 mkB (.slice au c.length cu) c (.slice ag (mks mkB i (c.length + 20)).length cg) 0 (X.take i) gs (by rw [htl, hgs])
  rw [htl, Nat.zero_add, ← htk] at hsn
  rw [← hsn] at hw
  exact ⟨X.length - (i + 1), by omega, [(0, _), (5, _), (6, .int .i64 (i + 1 : Nat))], sB, i + 1, gs ++ [.slice ag (mks mkB i (c.length + 20)).length cg], v73, by omega, by simp [hgs], rfl, rfl, hw.bring (As := [row _ 1 v73 _ _, both (grs _ _ _ _ _), both _]) bR⟩
 have hii : i = X.length := by omega
 subst hii
 rw [List.take_length, List.drop_length] at hw
 obtain ⟨ag, cg, rfl⟩ := row_form hw
 have hsg := slv_row (T := 22) (v := .slice ag X.length cg) (cs := gs) (n := X.length) hgs
 have hw := (hw.pick (A := both (rws _ _ _ _)) pK).tail
 refine x_exit rfl ?_
 refine x_seq ?_
 refine x_seq ?_
 refine x_region rfl ?_
 refine x_as rfl rfl trivial rfl ?_
 refine xl_nil ?_
 refine x_block ?_
 refine x_loop (fun m e w => ∃ (i : Nat), i ≤ X.length ∧ m = X.length - i ∧ e = [(0, .slice a X.length cap), (5, .slice ag X.length cg), (9, .int .i64 i)] ∧ Sat G (row 22 1 (.slice ag X.length cg) X.length gs :: both (grs 5 mkB 0 X gs) :: row 22 1 (.slice a X.length cap) X.length (X.map Prod.fst) :: L) w)
  (m := X.length) (e₀ := [(0, .slice a X.length cap), (5, .slice ag X.length cg), (9, .int .i64 (0 : Nat))]) sB
  ⟨0, Nat.zero_le _, rfl, rfl, hw⟩ ?_
 rintro m e w ⟨i, hi, rfl, rfl, hw⟩
 refine x_seq ?_
 refine x_seq ?_
 refine x_region rfl ?_
 refine x_mv rfl rfl trivial rfl ?_
 refine x_mv rfl rfl trivial rfl ?_
 refine x_len rfl rfl trivial (by kernel_rfl) U_sl_sl_uint8 rfl ?_
 refine x_lt rfl rfl trivial rfl rfl ?_
 refine xl_nil ?_
 refine x_if rfl (fun h5 => ?_) (fun h5 => ?_)
 ·
  have hi' : i < X.length := by omega
  obtain ⟨u, c, hx, hxc, hdr, htk, htl⟩ := hsplit hi'
  obtain ⟨g, hg⟩ : ∃ g, gs[i]? = some g := ⟨_, List.getElem?_eq_getElem (by omega)⟩
  have hgg : gs[(i : Int).toNat]? = some g := by rw [Int.toNat_natCast]; exact hg
  have hkn := both_knows (grs_knows (T := 5) (mk := mkB) (i := 0) hx hg)
  rw [Nat.zero_add] at hkn
  obtain ⟨b, o, rfl⟩ := ((hw.knows ((hsv.head _).pick (A := row 22 1 (.slice a X.length cap) _ _) pK)).at hw).nn (by rw [List.length_map]; omega)
  obtain ⟨bg, og, rfl⟩ := ((hw.knows ((hsg.head _).pick (A := row 22 1 (.slice ag X.length cg) _ _) pK)).at hw).nn (by omega)
  obtain ⟨au, cu, hu⟩ := ((hw.knows ((hkn.head _).pick pK)).at hw).1.form
  obtain ⟨ah, ch, hh⟩ := ((hw.knows ((hkn.head _).pick pK)).at hw).2.form
  rw [mks_length] at hu hh
  subst hu; subst hh
  obtain ⟨bh, oh, rfl⟩ := ((hw.knows ((hkn.head _).pick pK)).at hw).2.nn (by rw [mks_length]; omega)
  refine x_skip ?_
  refine x_seq ?_
  refine x_block ?_
  refine x_seq ?_
  refine x_region rfl ?_
  refine x_as rfl rfl trivial rfl ?_
  refine xl_nil ?_
  refine x_block ?_
  refine x_loop (fun m e w => ∃ (k : Nat), k ≤ c.length + 20 ∧ m = c.length + 20 - k ∧ e = [(0, .slice (some ⟨b, o, none⟩) X.length cap), (5, .slice (some ⟨bg, og, none⟩) X.length cg), (9, .int .i64 i), (10, .int .i64 k)] ∧ Sat G (row 22 1 (.slice (some ⟨bg, og, none⟩) X.length cg) X.length gs :: both (grs 5 mkB 0 X gs) :: row 22 1 (.slice (some ⟨b, o, none⟩) X.length cap) X.length (X.map Prod.fst) :: L) w)
   (m := c.length + 20) (e₀ := [(0, .slice (some ⟨b, o, none⟩) X.length cap), (5, .slice (some ⟨bg, og, none⟩) X.length cg), (9, .int .i64 i), (10, .int .i64 (0 : Nat))]) sB
   ⟨0, Nat.zero_le _, rfl, rfl, hw⟩ ?_
  rintro m e w ⟨k, hk, rfl, rfl, hw⟩
  refine x_seq ?_
  refine x_seq ?_
  refine x_region rfl ?_
  refine x_mv rfl rfl trivial rfl ?_
  refine x_mv rfl rfl trivial rfl ?_
  refine x_mv rfl rfl trivial rfl ?_
  refine x_idx1 rfl rfl trivial U_sl_sl_uint8 sz_sl_uint8 rfl rfl ⟨by omega, by omega⟩ ?_
  refine x_ld rfl rfl trivial rfl (Loads.one one_sl_uint8 (((hw.knows ((hsg.head _).pick pK)).at hw).at hgg)) ?_
  refine x_len rfl rfl trivial (by kernel_rfl) U_sl_uint8 rfl ?_
  refine x_lt rfl rfl trivial rfl rfl ?_
  refine xl_nil ?_
  refine x_if rfl (fun h6 => ?_) (fun h6 => ?_)
  ·
   have hk' : k < c.length + 20 := by omega
   refine x_skip ?_
   refine x_seq ?_
   refine x_block ?_
   refine x_seq ?_
   refine x_region rfl ?_
   refine x_mv rfl rfl trivial rfl ?_
   refine x_muli rfl rfl trivial rfl rfl (by omega) ?_
   refine x_mv rfl rfl trivial rfl ?_
   refine x_muli rfl rfl trivial rfl rfl (by omega) ?_
   refine x_addi rfl rfl trivial rfl rfl (by omega) ?_
   refine x_addi rfl rfl trivial rfl rfl (by omega) ?_
   refine x_conv rfl rfl trivial (by kernel_rfl) U_int U_uint8 rfl ?_
   refine x_as rfl rfl trivial rfl ?_
   refine xl_nil ?_
   refine x_seq ?_
   refine x_region rfl ?_
   refine x_mv rfl rfl trivial rfl ?_
   refine x_mv rfl rfl trivial rfl ?_
   refine x_idx1 rfl rfl trivial U_sl_sl_uint8 sz_sl_uint8 rfl rfl ⟨by omega, by omega⟩ ?_
   refine x_ld rfl rfl trivial rfl (Loads.one one_sl_uint8 (((hw.knows ((hsg.head _).pick pK)).at hw).at hgg)) ?_
   refine x_mv rfl rfl trivial rfl ?_
   refine x_idx1 rfl rfl trivial U_sl_uint8 sz_uint8 rfl rfl ⟨by omega, by omega⟩ ?_
   refine x_ld rfl rfl trivial rfl (Loads.one one_uint8 (((hw.knows ((hkn.head _).pick pK)).at hw).2.at (by rw [Int.toNat_natCast]; exact mks_get hk'))) ?_
   refine x_mv rfl rfl trivial rfl ?_
   refine x_ne rfl rfl trivial (by kernel_rfl) rfl rfl ?_
   refine x_mv rfl rfl trivial rfl ?_
   refine xl_split (d := 105) rfl (fun h7 => ?_) (fun h7 => ?_)
   ·
    exact absurd rfl h7
   refine x_mv rfl rfl ⟨_, rfl, rfl⟩ rfl ?_
   refine x_mv rfl rfl ⟨_, rfl, rfl⟩ rfl ?_
   refine x_mv rfl rfl ⟨_, rfl, rfl⟩ rfl ?_
   refine x_idx1 rfl rfl ⟨_, rfl, rfl⟩ U_sl_sl_uint8 sz_sl_uint8 rfl rfl ⟨by omega, by omega⟩ ?_
   refine x_ld rfl rfl ⟨_, rfl, rfl⟩ rfl (Loads.one one_sl_uint8 (((hw.knows ((hsv.head _).pick pK)).at hw).at (hget hx))) ?_
   refine x_len rfl rfl ⟨_, rfl, rfl⟩ (by kernel_rfl) U_sl_uint8 rfl ?_
   refine x_lt rfl rfl ⟨_, rfl, rfl⟩ rfl rfl ?_
   refine x_mv rfl rfl ⟨_, rfl, rfl⟩ rfl ?_
   refine xl_split (d := 113) rfl (fun h8 => ?_) (fun h8 => ?_)
   ·
    obtain ⟨bu, ou, rfl⟩ := ((hw.knows ((hkn.head _).pick pK)).at hw).1.nn (by rw [mks_length]; omega)
    refine x_mv rfl rfl ⟨_, rfl, rfl⟩ rfl ?_
    refine x_mv rfl rfl ⟨_, rfl, rfl⟩ rfl ?_
    refine x_idx1 rfl rfl ⟨_, rfl, rfl⟩ U_sl_sl_uint8 sz_sl_uint8 rfl rfl ⟨by omega, by omega⟩ ?_
    refine x_ld rfl rfl ⟨_, rfl, rfl⟩ rfl (Loads.one one_sl_uint8 (((hw.knows ((hsv.head _).pick pK)).at hw).at (hget hx))) ?_
    refine x_mv rfl rfl ⟨_, rfl, rfl⟩ rfl ?_
    refine x_idx1 rfl rfl ⟨_, rfl, rfl⟩ U_sl_uint8 sz_uint8 rfl rfl ⟨by omega, by omega⟩ ?_
    refine x_ld rfl rfl ⟨_, rfl, rfl⟩ rfl (Loads.one one_uint8 (((hw.knows ((hkn.head _).pick pK)).at hw).1.at (by rw [Int.toNat_natCast]; exact mks_get (by omega)))) ?_
    refine x_mv rfl rfl ⟨_, rfl, rfl⟩ rfl ?_
    refine x_ne rfl rfl ⟨_, rfl, rfl⟩ (by kernel_rfl) rfl rfl ?_
    refine x_pickT rfl rfl ⟨_, rfl, rfl⟩ rfl rfl rfl ?_
    refine x_pickF rfl rfl trivial rfl rfl rfl ?_
    refine xl_nil ?_
    refine x_if rfl (fun h9 => ?_) (fun h9 => ?_)
    ·
     exact absurd rfl h9
    refine x_skip ?_
    refine x_region rfl ?_
    refine x_mv rfl rfl trivial rfl ?_
    refine x_addi rfl rfl trivial rfl rfl (by omega) ?_
    refine x_as rfl rfl trivial rfl ?_
    refine xl_nil ?_
    exact ⟨c.length + 20 - (k + 1), by omega, [(0, _), (5, _), (9, _), (10, .int .i64 (k + 1 : Nat))], sB, k + 1, by omega, rfl, rfl, hw⟩
   refine xl_no rfl rfl rfl rfl rfl rfl ?_
   refine xl_no rfl rfl rfl rfl rfl rfl ?_
   refine xl_no rfl rfl rfl rfl rfl rfl ?_
   refine xl_no rfl rfl rfl rfl rfl rfl ?_
   refine xl_no rfl rfl rfl rfl rfl rfl ?_
   refine xl_no rfl rfl rfl rfl rfl rfl ?_
   refine xl_no rfl rfl rfl rfl rfl rfl ?_
   refine xl_no rfl rfl rfl rfl rfl rfl ?_
   refine xl_no rfl rfl rfl rfl rfl rfl ?_
   refine x_pickF rfl rfl ⟨_, rfl, rfl⟩ rfl rfl rfl ?_
   refine x_pickF rfl rfl trivial rfl rfl rfl ?_
   refine xl_nil ?_
   refine x_cond_false rfl ?_
   refine x_skip ?_
   refine x_region rfl ?_
   refine x_mv rfl rfl trivial rfl ?_
   refine x_addi rfl rfl trivial rfl rfl (by omega) ?_
   refine x_as rfl rfl trivial rfl ?_
   refine xl_nil ?_
   exact ⟨c.length + 20 - (k + 1), by omega, [(0, _), (5, _), (9, _), (10, .int .i64 (k + 1 : Nat))], sB, k + 1, by omega, rfl, rfl, hw⟩
  refine x_exit rfl ?_
  refine x_region rfl ?_
  refine x_mv rfl rfl trivial rfl ?_
  refine x_addi rfl rfl trivial rfl rfl (by omega) ?_
  refine x_as rfl rfl trivial rfl ?_
  refine xl_nil ?_
  exact ⟨X.length - (i + 1), by omega, [(0, _), (5, _), (9, .int .i64 (i + 1 : Nat))], sB, i + 1, by omega, rfl, rfl, hw⟩
 refine x_exit rfl ?_
 refine x_seq ?_
 refine x_region rfl ?_
 refine x_as rfl rfl trivial rfl ?_
 refine xl_nil ?_
 refine x_ret ?_
 exact end1 rfl rfl rfl ⟨rfl, hw.tail.tail.tail⟩
end
def mark (i : Nat) : Value := .int .u8 (IntKind.u8.wrap (IntKind.i64.wrap (BitVec.ofInt IntKind.i64.bits 165 ^^^ BitVec.ofInt IntKind.i64.bits (i : Int)).toNat))
def spareV (l : Bys) : List Value := (List.range (l.length + 64)).map fun i => if i < l.length then bv (l.getD i 0) else mark i
theorem spareV_length (l : Bys) : (spareV l).length = l.length + 64 := by simp [spareV]
theorem spareV_get {l : Bys} {i : Nat} (h : i < l.length + 64) : (spareV l)[i]? = some (if i < l.length then bv (l.getD i 0) else mark i) := by simp [spareV, h]
theorem spareV_take (l : Bys) : (spareV l).take l.length = bys l := by
 apply List.ext_getElem?
 intro i
 rw [List.getElem?_take]
 split
 ·rename_i h
  rw [spareV_get (by omega), if_pos h, bys_get h]
 rename_i h
 rw [List.getElem?_eq_none (by rw [bys_length]; omega)]
theorem spareB {L R : List Assn} {b T : Nat} {l : Bys} (q : Pick (blk b (spareV l) T) L R) : Knows L (SlB (.slice (some ⟨b, 0, none⟩) l.length (l.length + 64)) l) := fun g w hw => by
 refine .inr ⟨b, 0, l.length + 64, rfl, by omega, ?_⟩
 have h := (Rd.blk0 hw q).take l.length
 rwa [spareV_take] at h
section
variable {G : Gh} {L R : List Assn} {w : World}
theorem ct_ref00_Spare {v : Value} {l : Bys} (hw : Sat G L w) (ka : Knows L (SlB v l)) (hll : l.length ≤ 140737488351232) :
  Calls Tryz.prog 6 #[v] w (Ret fun r w' => ∃ b, r = .slice (some ⟨b, 0, none⟩) l.length (l.length + 64) ∧ Sat G (blk b (spareV l) 5 :: L) w') := by
 obtain ⟨a, cap, rfl⟩ := ((ka.of sF).at hw).form
 refine calls_of_x (args := [_]) Tryz.func6 rfl Tryz.ntmps6 rfl rfl ?_
 refine x_seq ?_
 refine x_region rfl ?_
 refine x_as rfl rfl trivial rfl ?_
 refine xl_nil ?_
 refine x_seq ?_
 refine x_region rfl ?_
 refine x_mv rfl rfl trivial rfl ?_
 refine x_len rfl rfl trivial (by kernel_rfl) U_sl_uint8 rfl ?_
 refine x_addi rfl rfl trivial rfl rfl (by omega) ?_
 rw [show ((l.length : Int) + 64) = ((l.length + 64 : Nat) : Int) by omega]
 refine x_mks rfl rfl trivial U_sl_uint8 sz_uint8 by_uint8 z_uint8 rfl rfl ⟨by omega, by omega⟩ (by omega) (by omega) hw rfl (fun w b8 hw => ?_)
 simp only [Int.toNat_natCast] at hw ⊢
 refine x_as rfl rfl trivial rfl ?_
 refine xl_nil ?_
 refine x_seq ?_
 refine x_seq ?_
 refine x_region rfl ?_
 refine x_as rfl rfl trivial rfl ?_
 refine xl_nil ?_
 refine x_block ?_
 refine x_loop (fun m e w => ∃ (k : Nat) (cs : List Value), k ≤ l.length + 64 ∧ m = l.length + 64 - k ∧ e = [(0, .slice a l.length cap), (3, .slice (some ⟨b8, 0, none⟩) (l.length + 64) (l.length + 64)), (4, .int .i64 k)] ∧ cs.length = l.length + 64 ∧ (∀ j, j < k → cs[j]? = (spareV l)[j]?) ∧ Sat G (blk b8 cs 5 :: L) w)
  (m := l.length + 64) (e₀ := [(0, .slice a l.length cap), (3, .slice (some ⟨b8, 0, none⟩) (l.length + 64) (l.length + 64)), (4, .int .i64 (0 : Nat))]) sB
  ⟨0, _, Nat.zero_le _, rfl, rfl, by rw [rep_length], (fun j h => by omega), hw⟩ ?_
 rintro m e w ⟨k, cs, hk, rfl, rfl, hcs, hci, hw⟩
 refine x_seq ?_
 refine x_seq ?_
 refine x_region rfl ?_
 refine x_mv rfl rfl trivial rfl ?_
 refine x_mv rfl rfl trivial rfl ?_
 refine x_len rfl rfl trivial (by kernel_rfl) U_sl_uint8 rfl ?_
 refine x_lt rfl rfl trivial rfl rfl ?_
 refine xl_nil ?_
 refine x_if rfl (fun h1 => ?_) (fun h1 => ?_)
 ·
  have hk' : k < l.length + 64 := by omega
  have hsg := spareV_get hk'
  refine x_skip ?_
  refine x_seq ?_
  refine x_block ?_
  refine x_seq ?_
  refine x_region rfl ?_
  refine x_mv rfl rfl trivial rfl ?_
  refine x_mv rfl rfl trivial rfl ?_
  refine x_len rfl rfl trivial (by kernel_rfl) U_sl_uint8 rfl ?_
  refine x_lt rfl rfl trivial rfl rfl ?_
  refine xl_nil ?_
  refine x_if rfl (fun h2 => ?_) (fun h2 => ?_)
  ·
   have hkl : k < l.length := by omega
   rw [if_pos hkl] at hsg
   obtain ⟨b', o', rfl⟩ := ((ka.of sF).at hw).nn (by omega)
   refine x_region rfl ?_
   refine x_mv rfl rfl trivial rfl ?_
   refine x_mv rfl rfl trivial rfl ?_
   refine x_mv rfl rfl trivial rfl ?_
   refine x_mv rfl rfl trivial rfl ?_
   refine x_idx1 rfl rfl trivial U_sl_uint8 sz_uint8 rfl rfl ⟨by omega, by omega⟩ ?_
   refine x_ld rfl rfl trivial rfl (Loads.one one_uint8 (((ka.of sF).at hw).at ⟨by omega, by omega⟩)) ?_
   refine x_idx1 rfl rfl trivial U_sl_uint8 sz_uint8 rfl rfl ⟨by omega, by omega⟩ ?_
   refine x_st1 (l' := cs.set k (bv (l.getD k 0))) rfl trivial rfl rfl one_uint8 rfl hw pK (by simp; omega) (by rw [Int.toNat_natCast, Nat.zero_add]) rfl (fun w hw => ?_)
   refine xl_nil ?_
   refine x_region rfl ?_
   refine x_mv rfl rfl trivial rfl ?_
   refine x_addi rfl rfl trivial rfl rfl (by omega) ?_
   refine x_as rfl rfl trivial rfl ?_
   refine xl_nil ?_
   refine ⟨l.length + 64 - (k + 1), by omega, [(0, _), (3, _), (4, .int .i64 (k + 1 : Nat))], sB, k + 1, _, by omega, rfl, rfl, by rw [List.length_set]; exact hcs, fun j hj => ?_, hw⟩
   by_cases hjk : k = j
   ·subst hjk; rw [hsg, List.getElem?_set_self (by omega)]
   rw [List.getElem?_set_ne hjk]; exact hci j (by omega)
  have hkl : ¬ k < l.length := by omega
  rw [if_neg hkl] at hsg
  refine x_region rfl ?_
  refine x_mv rfl rfl trivial rfl ?_
  refine x_mv rfl rfl trivial rfl ?_
  refine x_mv rfl rfl trivial rfl ?_
  refine x_xor rfl rfl trivial rfl rfl ?_
  refine x_conv rfl rfl trivial (by kernel_rfl) U_int U_uint8 rfl ?_
  refine x_idx1 rfl rfl trivial U_sl_uint8 sz_uint8 rfl rfl ⟨by omega, by omega⟩ ?_
  refine x_st1 (l' := cs.set k (mark k)) rfl trivial rfl rfl one_uint8 rfl hw pK (by simp; omega) (by rw [Int.toNat_natCast, Nat.zero_add]; rfl) rfl (fun w hw => ?_)
  refine xl_nil ?_
  refine x_region rfl ?_
  refine x_mv rfl rfl trivial rfl ?_
  refine x_addi rfl rfl trivial rfl rfl (by omega) ?_
  refine x_as rfl rfl trivial rfl ?_
  refine xl_nil ?_
  refine ⟨l.length + 64 - (k + 1), by omega, [(0, _), (3, _), (4, .int .i64 (k + 1 : Nat))], sB, k + 1, _, by omega, rfl, rfl, by rw [List.length_set]; exact hcs, fun j hj => ?_, hw⟩
  by_cases hjk : k = j
  ·subst hjk; rw [hsg, List.getElem?_set_self (by omega)]
  rw [List.getElem?_set_ne hjk]; exact hci j (by omega)
 refine x_exit rfl ?_
 refine x_seq ?_
 refine x_region rfl ?_
 refine x_mv rfl rfl trivial rfl ?_
 refine x_mv rfl rfl trivial rfl ?_
 refine x_len rfl rfl trivial (by kernel_rfl) U_sl_uint8 rfl ?_
 refine x_cutH rfl rfl trivial U_sl_uint8 szs_uint8 rfl (by simp) rfl ⟨by omega, by omega⟩ ?_
 refine x_as rfl rfl trivial rfl ?_
 refine xl_nil ?_
 refine x_ret ?_
 exact end1 rfl rfl rfl (by
 have hkk : k = l.length + 64 := by omega
 have hcb : cs = spareV l := by
  apply List.ext_getElem?
  intro j
  by_cases hj : j < l.length + 64
  ·exact hci j (by omega)
  ·rw [List.getElem?_eq_none (by omega), List.getElem?_eq_none (by rw [spareV_length]; omega)]
 subst hcb
 exact ⟨b8, rfl, hw⟩)
theorem ct_ref00_Kept {v : Value} {l : Bys} {b : Nat} (hw : Sat G L w) (hp : Pick (blk b (spareV l) 5) L R) (ka : Knows L (SlB v l)) (hll : l.length ≤ 140737488351232) :
  Calls Tryz.prog 12 #[.slice (some ⟨b, 0, none⟩) l.length (l.length + 64), v] w (Ret fun r w' => r = .bool true ∧ Sat G L w') := by
 obtain ⟨a, cap, rfl⟩ := ((ka.of sF).at hw).form
 refine calls_of_x (args := [_, _]) Tryz.func12 rfl Tryz.ntmps12 rfl rfl ?_
 refine x_seq ?_
 refine x_region rfl ?_
 refine x_as rfl rfl trivial rfl ?_
 refine xl_nil ?_
 refine x_seq ?_
 refine x_seq ?_
 refine x_region rfl ?_
 refine x_mv rfl rfl trivial rfl ?_
 refine x_mv rfl rfl trivial rfl ?_
 refine x_call rfl rfl trivial cal_ref00_EqBytes rfl (ct_ref00_EqBytes (l := l) (l' := l) hw (spareB hp) (ka.of sF) (by omega) (by omega)) rfl (fun w v9 hv => ?_)
 obtain ⟨rfl, hw⟩ := hv
 refine x_notp rfl rfl trivial rfl ?_
 refine xl_nil ?_
 refine x_if rfl (fun h1 => ?_) (fun h1 => ?_)
 ·
  exact absurd rfl h1
 refine x_skip ?_
 refine x_seq ?_
 refine x_region rfl ?_
 refine x_mv rfl rfl trivial rfl ?_
 refine x_mv rfl rfl trivial rfl ?_
 refine x_len rfl rfl trivial (by kernel_rfl) U_sl_uint8 rfl ?_
 refine x_addi rfl rfl trivial rfl rfl (by omega) ?_
 rw [show ((l.length : Int) + 64) = ((l.length + 64 : Nat) : Int) by omega]
 refine x_cutH rfl rfl trivial U_sl_uint8 szs_uint8 rfl (by simp) rfl ⟨by omega, by omega⟩ ?_
 simp only [Int.toNat_natCast]
 refine x_as rfl rfl trivial rfl ?_
 refine xl_nil ?_
 refine x_seq ?_
 refine x_seq ?_
 refine x_region rfl ?_
 refine x_mv rfl rfl trivial rfl ?_
 refine x_len rfl rfl trivial (by kernel_rfl) U_sl_uint8 rfl ?_
 refine x_as rfl rfl trivial rfl ?_
 refine xl_nil ?_
 refine x_block ?_
 refine x_loop (fun m e w => ∃ k : Nat, l.length ≤ k ∧ k ≤ l.length + 64 ∧ m = l.length + 64 - k ∧ e = [(5, .slice (some ⟨b, 0, none⟩) (l.length + 64) (l.length + 64)), (6, .int .i64 k)] ∧ Sat G L w)
  (m := 64) (e₀ := [(5, .slice (some ⟨b, 0, none⟩) (l.length + 64) (l.length + 64)), (6, .int .i64 l.length)]) sB
  ⟨l.length, Nat.le_refl _, by omega, by omega, rfl, hw⟩ ?_
 rintro m e w ⟨k, hlk, hk, rfl, rfl, hw⟩
 refine x_seq ?_
 refine x_seq ?_
 refine x_region rfl ?_
 refine x_mv rfl rfl trivial rfl ?_
 refine x_mv rfl rfl trivial rfl ?_
 refine x_len rfl rfl trivial (by kernel_rfl) U_sl_uint8 rfl ?_
 refine x_lt rfl rfl trivial rfl rfl ?_
 refine xl_nil ?_
 refine x_if rfl (fun h2 => ?_) (fun h2 => ?_)
 ·
  have hk' : k < l.length + 64 := by omega
  have hsg : (spareV l)[0 + (k : Int).toNat]? = some (mark k) := by rw [Int.toNat_natCast, Nat.zero_add, spareV_get hk', if_neg (by omega)]
  refine x_skip ?_
  refine x_seq ?_
  refine x_block ?_
  refine x_seq ?_
  refine x_region rfl ?_
  refine x_mv rfl rfl trivial rfl ?_
  refine x_mv rfl rfl trivial rfl ?_
  refine x_idx1 rfl rfl trivial U_sl_uint8 sz_uint8 rfl rfl ⟨by omega, by omega⟩ ?_
  refine x_ld rfl rfl trivial rfl (Loads.blk1 one_uint8 hw hp hsg) ?_
  refine x_mv rfl rfl trivial rfl ?_
  refine x_xor rfl rfl trivial rfl rfl ?_
  refine x_conv rfl rfl trivial (by kernel_rfl) U_int U_uint8 rfl ?_
  refine x_ne rfl rfl trivial (by kernel_rfl) rfl rfl ?_
  refine xl_nil ?_
  refine x_if rfl (fun h3 => ?_) (fun h3 => ?_)
  ·
   exact absurd rfl h3
  refine x_skip ?_
  refine x_region rfl ?_
  refine x_mv rfl rfl trivial rfl ?_
  refine x_addi rfl rfl trivial rfl rfl (by omega) ?_
  refine x_as rfl rfl trivial rfl ?_
  refine xl_nil ?_
  exact ⟨l.length + 64 - (k + 1), by omega, [(5, _), (6, .int .i64 (k + 1 : Nat))], sB, k + 1, by omega, by omega, rfl, rfl, hw⟩
 refine x_exit rfl ?_
 refine x_seq ?_
 refine x_region rfl ?_
 refine x_as rfl rfl trivial rfl ?_
 refine xl_nil ?_
 refine x_ret ?_
 exact end1 rfl rfl rfl ⟨rfl, hw⟩
end
abbrev U32 := BitVec 32
def tabL : List Nat := [0, 274646895, 549293790, 820201905, 1098587580, 1361435347, 1640403810, 1905808397, 2197175160, 2460548119, 2722870694, 2987750089, 3280807620, 3553878443, 3811616794, 4084100981]
def tab (n : Nat) : U32 := BitVec.ofNat 32 (tabL.getD n 0)
def stepN (w : U32) : U32 := (w >>> 4) ^^^ tab (w &&& 15#32).toNat
def stepB (w : U32) (x : UInt8) : U32 := stepN (stepN (w ^^^ BitVec.ofNat 32 x.toNat))
def onB (w : U32) : List UInt8 → U32
 | [] => w
 | x :: l => onB (stepB w x) l
def sumB (l : List UInt8) : U32 := ~~~ onB (~~~ 0#32) l
def leN : List UInt8 → Nat
 | [] => 0
 | x :: l => x.toNat + 256 * leN l
theorem onB_append (w : U32) : ∀ (l m : List UInt8), onB w (l ++ m) = onB (onB w l) m
 | [], m => rfl
 | x :: l, m => by simp only [List.cons_append, onB]; exact onB_append _ l m
def R1 (w : U32) : U32 := (w >>> 1) ^^^ (if w.getLsbD 0 then 2197175160#32 else 0#32)
def Rn : Nat → U32 → U32
 | 0, w => w
 | n + 1, w => Rn n (R1 w)
theorem Rn_add : ∀ (m n : Nat) (w : U32), Rn (m + n) w = Rn n (Rn m w)
 | 0, n, w => by rw [Nat.zero_add]; rfl
 | m + 1, n, w => by rw [show m + 1 + n = (m + n) + 1 by omega]; exact Rn_add m n (R1 w)
theorem R1_xor (a b : U32) : R1 (a ^^^ b) = R1 a ^^^ R1 b := by
 unfold R1
 apply BitVec.eq_of_getLsbD_eq
 intro i hi
 simp only [BitVec.getLsbD_xor, BitVec.getLsbD_ushiftRight]
 cases h1 : a.getLsbD 0 <;> cases h2 : b.getLsbD 0 <;> simp <;> cases a.getLsbD (1 + i) <;> cases b.getLsbD (1 + i) <;> simp
theorem Rn_xor : ∀ (n : Nat) (a b : U32), Rn n (a ^^^ b) = Rn n a ^^^ Rn n b
 | 0, a, b => rfl
 | n + 1, a, b => by simp only [Rn]; rw [R1_xor, Rn_xor]
theorem R1_even {w : U32} (h : w.getLsbD 0 = false) : R1 w = w >>> 1 := by unfold R1; rw [h]; simp
theorem stepN_eq (w : U32) : stepN w = Rn 4 w := by
 have hsplit : w = ((w >>> 4) <<< 4) ^^^ (w &&& 15#32) := by
  apply BitVec.eq_of_getLsbD_eq
  intro i hi
  have h15 : (15#32 : U32).getLsbD i = decide (i < 4) := by
   rcases (show i = 0 ∨ i = 1 ∨ i = 2 ∨ i = 3 ∨ 4 ≤ i by omega) with rfl | rfl | rfl | rfl | h
   ·decide
   ·decide
   ·decide
   ·decide
   rw [show (15#32 : U32) = BitVec.ofNat 32 15 from rfl, BitVec.getLsbD_ofNat]
   have h1 : Nat.testBit 15 i = false := Nat.testBit_lt_two_pow (Nat.lt_of_lt_of_le (by decide : 15 < 2 ^ 4) (Nat.pow_le_pow_right (by decide) h))
   simp [h1]; omega
  simp only [BitVec.getLsbD_xor, BitVec.getLsbD_shiftLeft, BitVec.getLsbD_ushiftRight, BitVec.getLsbD_and, h15]
  by_cases h4 : i < 4
  ·simp [h4]
  simp [h4, hi, show 4 + (i - 4) = i by omega]
 have hhi : Rn 4 ((w >>> 4) <<< 4) = w >>> 4 := by
  have e0 : ((w >>> 4) <<< 4).getLsbD 0 = false := by simp
  have e1 : (((w >>> 4) <<< 4) >>> 1).getLsbD 0 = false := by simp
  have e2 : ((((w >>> 4) <<< 4) >>> 1) >>> 1).getLsbD 0 = false := by simp
  have e3 : (((((w >>> 4) <<< 4) >>> 1) >>> 1) >>> 1).getLsbD 0 = false := by simp
  simp only [Rn]
  rw [R1_even e0, R1_even e1, R1_even e2, R1_even e3]
  apply BitVec.eq_of_getLsbD_eq
  intro i hi
  simp only [BitVec.getLsbD_ushiftRight, BitVec.getLsbD_shiftLeft]
  by_cases h : i < 28
  ·simp [show (1 + (1 + (1 + (1 + i)))) < 32 by omega, show ¬ (1 + (1 + (1 + (1 + i)))) < 4 by omega, show 4 + (1 + (1 + (1 + (1 + i))) - 4) = 4 + i by omega]
  simp [show ¬ (1 + (1 + (1 + (1 + i)))) < 32 by omega]
  exact BitVec.getLsbD_of_ge w (4 + i) (by omega)
 have hlo : Rn 4 (w &&& 15#32) = tab (w &&& 15#32).toNat := by
  have h16 : (w &&& 15#32).toNat < 16 := by
   rw [BitVec.toNat_and]
   exact Nat.lt_of_le_of_lt Nat.and_le_right (by decide)
  have e : (w &&& 15#32) = BitVec.ofNat 32 (w &&& 15#32).toNat := by simp
  generalize (w &&& 15#32).toNat = n at h16 e
  rw [e]
  have key : ∀ n : Fin 16, Rn 4 (BitVec.ofNat 32 n.1) = tab n.1 := by decide
  exact key ⟨n, h16⟩
 calc stepN w = w >>> 4 ^^^ tab (w &&& 15#32).toNat := rfl
  _ = Rn 4 (((w >>> 4) <<< 4) ^^^ (w &&& 15#32)) := by rw [Rn_xor, hhi, hlo]
  _ = Rn 4 w := by rw [← hsplit]
theorem leN_lt : ∀ l : List UInt8, leN l < 2 ^ (8 * l.length)
 | [] => by simp [leN]
 | x :: l => by
  have h := leN_lt l
  have hx : x.toNat < 256 := x.toNat_lt
  simp only [leN, List.length_cons]
  rw [show 8 * (l.length + 1) = 8 * l.length + 8 by omega, Nat.pow_add]
  omega
section
variable {P : Program} {n : Nat} {ops : Array Oper} {dr : Bool} {done r : List Nat} {K : Env → World → Prop} {e : Env} {w : World} {i d : Nat} {t : TypeId} {p : String} {af : Array Edge} {g : Option (Nat × Bool)}
variable {s u : TypeId} {x y : Operand} {k k' : IntKind} {a b v : Int}
theorem x_shr (ho : ops[i]? = some ⟨some d, .binOp .shr s x y u, t, p, af, g⟩) (hd : Nat.blt d n = true) (hg : Gd ops e g) (hx : ev e x = some (.int k a)) (hy : ev e y = some (.int k' b)) (hb : 0 ≤ b) (hv : a.fdiv (2 ^ min b.toNat k.bits) = v)
  (h : XL P n ops dr (i :: done) r K ((d, .int k v) :: e) w) : XL P n ops dr done (i :: r) K e w :=
 x_bin ho hd hg (bk rfl) hx hy (fun w' => by rw [← hv]; simp [run_eqGuard_int, binOp, Op.shift, Int.not_lt.2 hb]) h
theorem x_shl (ho : ops[i]? = some ⟨some d, .binOp .shl s x y u, t, p, af, g⟩) (hd : Nat.blt d n = true) (hg : Gd ops e g) (hx : ev e x = some (.int k a)) (hy : ev e y = some (.int k' b)) (hb : 0 ≤ b) (hv : k.wrap (a * 2 ^ min b.toNat k.bits) = v)
  (h : XL P n ops dr (i :: done) r K ((d, .int k v) :: e) w) : XL P n ops dr done (i :: r) K e w :=
 x_bin ho hd hg (bk rfl) hx hy (fun w' => by rw [← hv]; simp [run_eqGuard_int, binOp, Op.shift, Int.not_lt.2 hb]) h
theorem x_com (ho : ops[i]? = some ⟨some d, .unOp .xor s x, t, p, af, g⟩) (hd : Nat.blt d n = true) (hg : Gd ops e g) (hx : ev e x = some (.int k a)) (hv : k.wrap (BitVec.ofInt k.bits (if k.signed then -1 else k.max) ^^^ BitVec.ofInt k.bits a).toNat = v)
  (h : XL P n ops dr (i :: done) r K ((d, .int k v) :: e) w) : XL P n ops dr done (i :: r) K e w :=
 xl_pure ho (by simpa [dstOk] using hd) hg (ρ := rh e) (by intro z hZ; simp [Op.operands] at hZ; exact oh1 hx hZ) rfl (v := .int k v) (fun w' => by rw [← hv]; simp [execOp, rh_of hx, Op.unary, Op.intBits]) h
theorem x_andE (ho : ops[i]? = some ⟨some d, .binOp .and s x y u, t, p, af, g⟩) (hd : Nat.blt d n = true) (hg : Gd ops e g) (hx : ev e x = some (.int k a)) (hy : ev e y = some (.int k b)) (hv : k.wrap (BitVec.ofInt k.bits a &&& BitVec.ofInt k.bits b).toNat = v)
  (h : XL P n ops dr (i :: done) r K ((d, .int k v) :: e) w) : XL P n ops dr done (i :: r) K e w := x_and ho hd hg hx hy (by rw [hv]; exact h)
theorem x_orE (ho : ops[i]? = some ⟨some d, .binOp .or s x y u, t, p, af, g⟩) (hd : Nat.blt d n = true) (hg : Gd ops e g) (hx : ev e x = some (.int k a)) (hy : ev e y = some (.int k b)) (hv : k.wrap (BitVec.ofInt k.bits a ||| BitVec.ofInt k.bits b).toNat = v)
  (h : XL P n ops dr (i :: done) r K ((d, .int k v) :: e) w) : XL P n ops dr done (i :: r) K e w := x_or ho hd hg hx hy (by rw [hv]; exact h)
theorem x_xorE (ho : ops[i]? = some ⟨some d, .binOp .xor s x y u, t, p, af, g⟩) (hd : Nat.blt d n = true) (hg : Gd ops e g) (hx : ev e x = some (.int k a)) (hy : ev e y = some (.int k b)) (hv : k.wrap (BitVec.ofInt k.bits a ^^^ BitVec.ofInt k.bits b).toNat = v)
  (h : XL P n ops dr (i :: done) r K ((d, .int k v) :: e) w) : XL P n ops dr done (i :: r) K e w := x_xor ho hd hg hx hy (by rw [hv]; exact h)
theorem x_convE {D : TypeDesc} (ho : ops[i]? = some ⟨some d, .convert s u x, t, p, af, g⟩) (hd : Nat.blt d n = true) (hg : Gd ops e g) (hk : okind P (.convert s u x) = 0) (hs : P.underlying s = some D) (hu : P.underlying u = some (.int k')) (hx : ev e x = some (.int k a)) (hv : k'.wrap a = v)
  (h : XL P n ops dr (i :: done) r K ((d, .int k' v) :: e) w) : XL P n ops dr done (i :: r) K e w := x_conv ho hd hg hk hs hu hx (by rw [hv]; exact h)
end
abbrev u32 (w : U32) : Value := .int .u32 (w.toNat : Int)
theorem ofInt_toNat {m : Nat} (a : BitVec m) : BitVec.ofInt m (a.toNat : Int) = a := by rw [BitVec.ofInt_natCast, BitVec.ofNat_toNat, BitVec.setWidth_eq]
theorem w32 {n : Nat} (h : n < 4294967296) : IntKind.u32.wrap (n : Int) = n := by
 show (n : Int) % (2 ^ 32 : Int) = n
 omega
theorem w64 {n : Nat} (h : n < 18446744073709551616) : IntKind.u64.wrap (n : Int) = n := by
 show (n : Int) % (2 ^ 64 : Int) = n
 omega
theorem xor32 (a b : U32) : IntKind.u32.wrap (BitVec.ofInt IntKind.u32.bits (a.toNat : Int) ^^^ BitVec.ofInt IntKind.u32.bits (b.toNat : Int)).toNat = ((a ^^^ b).toNat : Int) := by
 have : ∀ c : U32, IntKind.u32.wrap (c.toNat : Int) = c.toNat := fun c => w32 c.isLt
 show IntKind.u32.wrap ((BitVec.ofInt 32 (a.toNat : Int) ^^^ BitVec.ofInt 32 (b.toNat : Int)).toNat : Int) = _
 rw [ofInt_toNat, ofInt_toNat, this]
theorem com32 (a : U32) : IntKind.u32.wrap (BitVec.ofInt IntKind.u32.bits (if IntKind.u32.signed then -1 else IntKind.u32.max) ^^^ BitVec.ofInt IntKind.u32.bits (a.toNat : Int)).toNat = ((~~~ a).toNat : Int) := by
 have h1 := xor32 (~~~ 0#32) a
 have h2 : (~~~ 0#32 : U32) ^^^ a = ~~~ a := by
  apply BitVec.eq_of_getLsbD_eq
  intro i hi
  rw [BitVec.getLsbD_xor, BitVec.getLsbD_not, BitVec.getLsbD_not]
  simp only [hi, decide_true, Bool.true_and]
  cases a.getLsbD i <;> simp
 rw [h2] at h1
 exact h1
theorem shr32 (a : U32) : ((a.toNat : Nat) : Int).fdiv (2 ^ min (4 : Int).toNat IntKind.u32.bits) = ((a >>> 4).toNat : Int) := by
 show ((a.toNat : Nat) : Int).fdiv ((16 : Nat) : Int) = _
 rw [BitVec.toNat_ushiftRight, Nat.shiftRight_eq_div_pow, Int.ofNat_fdiv]
theorem and15 (a : U32) : IntKind.u32.wrap (BitVec.ofInt IntKind.u32.bits (a.toNat : Int) &&& BitVec.ofInt IntKind.u32.bits 15).toNat = ((a &&& 15#32).toNat : Int) := by
 have : ∀ c : U32, IntKind.u32.wrap (c.toNat : Int) = c.toNat := fun c => w32 c.isLt
 show IntKind.u32.wrap ((BitVec.ofInt 32 (a.toNat : Int) &&& BitVec.ofInt 32 15).toNat : Int) = _
 rw [ofInt_toNat, show BitVec.ofInt 32 15 = 15#32 from rfl, this]
theorem and15_lt (a : U32) : (a &&& 15#32).toNat < 16 := by
 rw [BitVec.toNat_and]
 exact Nat.lt_of_le_of_lt Nat.and_le_right (by decide)
theorem byte32 (x : UInt8) : IntKind.u32.wrap (x.toNat : Int) = ((BitVec.ofNat 32 x.toNat).toNat : Int) := by
 have h : x.toNat < 256 := x.toNat_lt
 rw [w32 (by omega), BitVec.toNat_ofNat, Nat.mod_eq_of_lt (by omega)]
theorem byte64 (x : UInt8) : IntKind.u64.wrap (x.toNat : Int) = (x.toNat : Int) := by
 have h : x.toNat < 256 := x.toNat_lt
 exact w64 (by omega)
theorem shr8 (a : Nat) : ((a : Nat) : Int).fdiv (2 ^ min (8 : Int).toNat IntKind.u64.bits) = ((a / 256 : Nat) : Int) := by
 show ((a : Nat) : Int).fdiv ((256 : Nat) : Int) = _
 rw [Int.ofNat_fdiv]
theorem w16 {n : Nat} (h : n < 65536) : IntKind.u16.wrap (n : Int) = n := by
 show (n : Int) % (2 ^ 16 : Int) = n
 omega
theorem w8 {n : Nat} (h : n < 256) : IntKind.u8.wrap (n : Int) = n := by
 show (n : Int) % (2 ^ 8 : Int) = n
 omega
theorem or64 {x c k : Nat} (hk : k < 8) (hx : x < 2 ^ (8 * k)) (hc : c < 256) : IntKind.u64.wrap (BitVec.ofInt IntKind.u64.bits (x : Int) ||| BitVec.ofInt IntKind.u64.bits (IntKind.u64.wrap ((c : Int) * 2 ^ min (8 * k : Int).toNat IntKind.u64.bits))).toNat = ((x + c * 2 ^ (8 * k) : Nat) : Int) := by
 have h1 : 2 ^ (8 * k) * 256 ≤ 2 ^ 64 := by
  rw [show (256 : Nat) = 2 ^ 8 from rfl, ← Nat.pow_add]
  exact Nat.pow_le_pow_right (by decide) (by omega)
 have h2 : c * 2 ^ (8 * k) + x < 2 ^ 64 := by
  have : c * 2 ^ (8 * k) + 2 ^ (8 * k) ≤ 2 ^ (8 * k) * 256 := by
   rw [← Nat.succ_mul, Nat.mul_comm]; exact Nat.mul_le_mul_left _ hc
  omega
 have e1 : min (8 * (k : Int)).toNat IntKind.u64.bits = 8 * k := by show min _ 64 = _; omega
 rw [e1]
 have e2 : ((c : Int) * 2 ^ (8 * k)) = ((c * 2 ^ (8 * k) : Nat) : Int) := by push_cast; rfl
 have h3 : c * 2 ^ (8 * k) < 18446744073709551616 := by omega
 have e4 : IntKind.u64.wrap ((c * 2 ^ (8 * k) : Nat) : Int) = ((c * 2 ^ (8 * k) : Nat) : Int) := w64 h3
 rw [e2, e4]
 show IntKind.u64.wrap ((BitVec.ofInt 64 (x : Int) ||| BitVec.ofInt 64 ((c * 2 ^ (8 * k) : Nat) : Int)).toNat : Int) = _
 rw [BitVec.ofInt_natCast, BitVec.ofInt_natCast, BitVec.toNat_or, BitVec.toNat_ofNat, BitVec.toNat_ofNat, Nat.mod_eq_of_lt (show x < 2 ^ 64 by omega), Nat.mod_eq_of_lt (show c * 2 ^ (8 * k) < 2 ^ 64 by omega)]
 have e3 : x ||| c * 2 ^ (8 * k) = x + c * 2 ^ (8 * k) := by
  have := Nat.two_pow_add_eq_or_of_lt hx c
  rw [Nat.or_comm, Nat.mul_comm c, ← this, Nat.add_comm]
 rw [e3]
 exact w64 (by omega)
theorem leN_snoc (x : UInt8) : ∀ l : List UInt8, leN (l ++ [x]) = leN l + x.toNat * 2 ^ (8 * l.length)
 | [] => by simp [leN]
 | y :: l => by
  simp only [List.cons_append, leN, leN_snoc x l, List.length_cons]
  rw [show 8 * (l.length + 1) = 8 * l.length + 8 by omega, Nat.pow_add, Nat.mul_add]
  have : 256 * (x.toNat * 2 ^ (8 * l.length)) = x.toNat * (2 ^ (8 * l.length) * 2 ^ 8) := by
   rw [show (256 : Nat) = 2 ^ 8 from rfl, Nat.mul_left_comm, Nat.mul_comm (2 ^ 8)]
  omega
theorem leN_lt64 {l : List UInt8} (h : l.length ≤ 8) : leN l < 18446744073709551616 := Nat.lt_of_lt_of_le (leN_lt l) (show 2 ^ (8 * l.length) ≤ 2 ^ 64 from Nat.pow_le_pow_right (by decide) (by omega))
def tabV : List Value := [u32 0#32, u32 274646895#32, u32 549293790#32, u32 820201905#32, u32 1098587580#32, u32 1361435347#32, u32 1640403810#32, u32 1905808397#32, u32 2197175160#32, u32 2460548119#32, u32 2722870694#32, u32 2987750089#32, u32 3280807620#32, u32 3553878443#32, u32 3811616794#32, u32 4084100981#32]
theorem tabV_ones : Ones tabV := fun u hu => by
 simp only [tabV, List.mem_cons, List.not_mem_nil, or_false] at hu
 rcases hu with rfl | rfl | rfl | rfl | rfl | rfl | rfl | rfl | rfl | rfl | rfl | rfl | rfl | rfl | rfl | rfl <;> rfl
theorem tab_at (w : U32) : tabV[0 + (((w &&& 15#32).toNat : Nat) : Int).toNat * 1]? = some (u32 (tab (w &&& 15#32).toNat)) := by
 have h := and15_lt w
 rw [Int.toNat_natCast, Nat.mul_one, Nat.zero_add]
 generalize (w &&& 15#32).toNat = n at h
 match n, h with
 | 0, _ => rfl
 | 1, _ => rfl
 | 2, _ => rfl
 | 3, _ => rfl
 | 4, _ => rfl
 | 5, _ => rfl
 | 6, _ => rfl
 | 7, _ => rfl
 | 8, _ => rfl
 | 9, _ => rfl
 | 10, _ => rfl
 | 11, _ => rfl
 | 12, _ => rfl
 | 13, _ => rfl
 | 14, _ => rfl
 | 15, _ => rfl
 | n + 16, h => omega
section
variable {G : Gh} {L R : List Assn} {w : World}
theorem ct_sum_halves (hw : Sat G L w) : Calls Tryz.prog 161 #[] w (Ret fun r w' => r = .agg tabV.toArray ∧ Sat G L w') := by
 refine calls_of_x (args := []) Tryz.func161 rfl Tryz.ntmps161 rfl rfl ?_
 refine x_seq ?_
 refine x_region rfl ?_
 refine x_alloc rfl rfl trivial z_a16_uint32 hw rfl (fun w b0 hw => ?_)
 refine xl_nil ?_
 refine x_seq ?_
 refine x_region rfl ?_
 refine x_build (v := .agg tabV.toArray) rfl rfl trivial rfl (fun w => by kernel_rfl) ?_
 refine x_stN (cs := tabV) (l' := tabV) rfl trivial rfl rfl many_a16_uint32 rfl tabV_ones hw pK (by simp [tabV]) rfl rfl (fun w hw => ?_)
 refine xl_nil ?_
 refine x_ret ?_
 exact end1 rfl rfl ⟨_, rfl, (Loads.blkA (l := tabV) many_a16_uint32 hw pK rfl)⟩ ⟨rfl, hw.tail⟩
theorem ct_sum_on {w0 : U32} {v : Value} {l : Bys} (hw : Sat G L w) (kl : Knows L (SlB v l)) (hl : l.length ≤ 1000000000000) :
  Calls Tryz.prog 94 #[u32 w0, v] w (Ret fun r w' => r = u32 (onB w0 l) ∧ Sat G L w') := by
 obtain ⟨a, cap, rfl⟩ := (kl.at hw).form
 refine calls_of_x (args := [_, _]) Tryz.func94 rfl Tryz.ntmps94 rfl rfl ?_
 refine x_seq ?_
 refine x_region rfl ?_
 refine x_as rfl rfl trivial rfl ?_
 refine xl_nil ?_
 refine x_seq ?_
 refine x_region rfl ?_
 refine x_call rfl rfl trivial cal_sum_halves rfl (ct_sum_halves hw) rfl (fun w v8 hv => ?_)
 obtain ⟨rfl, hw⟩ := hv
 refine x_alloc rfl rfl trivial z_a16_uint32 hw rfl (fun w b5 hw => ?_)
 refine x_stN (cs := tabV) (l' := tabV) rfl trivial rfl rfl many_a16_uint32 rfl tabV_ones hw pK (by simp [tabV]) rfl rfl (fun w hw => ?_)
 refine xl_nil ?_
 refine x_seq ?_
 refine x_seq ?_
 refine x_region rfl ?_
 refine x_mv rfl rfl trivial rfl ?_
 refine x_len rfl rfl trivial (by kernel_rfl) U_sl_uint8 rfl ?_
 refine x_mv rfl rfl trivial rfl ?_
 refine xl_nil ?_
 refine x_block ?_
 refine x_loop (fun m e w => ∃ (k : Nat) (w1 : U32), k ≤ l.length ∧ m = l.length - k ∧ w1 = onB w0 (l.take k) ∧ e = [(0, u32 w1), (5, .pointer (some ⟨b5, 0, none⟩)), (9, .slice a l.length cap), (10, .int .i64 l.length), (11, .int .i64 k)] ∧ Sat G (blk b5 tabV 243 :: L) w)
  (m := l.length) (e₀ := [(0, u32 w0), (5, .pointer (some ⟨b5, 0, none⟩)), (9, .slice a l.length cap), (10, .int .i64 l.length), (11, .int .i64 (0 : Nat))]) sB
  ⟨0, w0, Nat.zero_le _, rfl, rfl, rfl, hw⟩ ?_
 rintro m e w ⟨k, w1, hk, rfl, hw1, rfl, hw⟩
 refine x_seq ?_
 refine x_region rfl ?_
 refine x_lt rfl rfl trivial rfl rfl ?_
 refine xl_nil ?_
 refine x_seq ?_
 refine x_if rfl (fun h1 => ?_) (fun h1 => ?_)
 ·
  have hk' : k < l.length := by omega
  obtain ⟨bb, oo, rfl⟩ := ((kl.of sF).at hw).nn (by omega)
  obtain ⟨x, hx⟩ : ∃ x, x = l.getD k 0 := ⟨_, rfl⟩
  refine x_skip ?_
  refine x_seq ?_
  refine x_block ?_
  refine x_seq ?_
  refine x_region rfl ?_
  refine x_idx1 rfl rfl trivial U_sl_uint8 sz_uint8 rfl rfl ⟨by omega, by omega⟩ ?_
  refine x_ld rfl rfl trivial rfl (Loads.one (v := bv x) one_uint8 (by have h := ((kl.of sF).at hw).at (i := (k : Int)) ⟨by omega, by omega⟩; rw [hx]; exact h)) ?_
  refine x_as rfl rfl trivial rfl ?_
  refine xl_nil ?_
  refine x_seq ?_
  refine x_region rfl ?_
  refine x_mv rfl rfl trivial rfl ?_
  refine x_mv rfl rfl trivial rfl ?_
  refine x_conv rfl rfl trivial (by kernel_rfl) U_uint8 U_uint32 rfl ?_
  refine x_xorE (v := ((w1 ^^^ BitVec.ofNat 32 x.toNat).toNat : Int)) rfl rfl trivial rfl rfl (by rw [byte32]; exact xor32 _ _) ?_
  obtain ⟨w2, hw2⟩ : ∃ w2, w2 = w1 ^^^ BitVec.ofNat 32 x.toNat := ⟨_, rfl⟩
  rw [← hw2]
  refine x_as rfl rfl trivial rfl ?_
  refine xl_nil ?_
  refine x_seq ?_
  refine x_region rfl ?_
  refine x_mv rfl rfl trivial rfl ?_
  refine x_shr (v := ((w2 >>> 4).toNat : Int)) rfl rfl trivial rfl rfl (by decide) (shr32 _) ?_
  refine x_mv rfl rfl trivial rfl ?_
  refine x_andE (v := ((w2 &&& 15#32).toNat : Int)) rfl rfl trivial rfl rfl (and15 _) ?_
  refine x_idxA rfl rfl trivial U_a16_uint32 sz_uint32 rfl rfl ⟨by omega, by have := and15_lt w2; omega⟩ ?_
  refine x_ld rfl rfl trivial rfl (Loads.blk1 (v := u32 (tab (w2 &&& 15#32).toNat)) one_uint32 hw pK (tab_at w2)) ?_
  refine x_xorE (v := ((stepN w2).toNat : Int)) rfl rfl trivial rfl rfl (xor32 _ _) ?_
  obtain ⟨w3, hw3⟩ : ∃ w3, w3 = stepN w2 := ⟨_, rfl⟩
  rw [← hw3]
  refine x_as rfl rfl trivial rfl ?_
  refine xl_nil ?_
  refine x_region rfl ?_
  refine x_mv rfl rfl trivial rfl ?_
  refine x_shr (v := ((w3 >>> 4).toNat : Int)) rfl rfl trivial rfl rfl (by decide) (shr32 _) ?_
  refine x_mv rfl rfl trivial rfl ?_
  refine x_andE (v := ((w3 &&& 15#32).toNat : Int)) rfl rfl trivial rfl rfl (and15 _) ?_
  refine x_idxA rfl rfl trivial U_a16_uint32 sz_uint32 rfl rfl ⟨by omega, by have := and15_lt w3; omega⟩ ?_
  refine x_ld rfl rfl trivial rfl (Loads.blk1 (v := u32 (tab (w3 &&& 15#32).toNat)) one_uint32 hw pK (tab_at w3)) ?_
  refine x_xorE (v := ((stepN w3).toNat : Int)) rfl rfl trivial rfl rfl (xor32 _ _) ?_
  refine x_as rfl rfl trivial rfl ?_
  refine xl_nil ?_
  refine x_region rfl ?_
  refine x_addi rfl rfl trivial rfl rfl (by omega) ?_
  refine x_mv rfl rfl trivial rfl ?_
  refine xl_nil ?_
  exact ⟨l.length - (k + 1), by omega, [(0, u32 (stepN w3)), (5, _), (9, _), (10, _), (11, .int .i64 (k + 1 : Nat))], sB, k + 1, stepN w3, by omega, rfl, by rw [take_succ_getD l k 0 hk', onB_append, ← hw1, hw3, hw2, hx]; rfl, rfl, hw⟩
 refine x_exit rfl ?_
 refine x_seq ?_
 refine x_region rfl ?_
 refine x_mv rfl rfl trivial rfl ?_
 refine x_as rfl rfl trivial rfl ?_
 refine xl_nil ?_
 refine x_ret ?_
 exact end1 rfl rfl rfl ⟨by rw [hw1, List.take_of_length_le (by omega)], hw.tail⟩
theorem ct_sum_Of {v : Value} {l : Bys} (hw : Sat G L w) (kl : Knows L (SlB v l)) (hl : l.length ≤ 1000000000000) :
  Calls Tryz.prog 42 #[v] w (Ret fun r w' => r = u32 (sumB l) ∧ Sat G L w') := by
 refine calls_of_x (args := [_]) Tryz.func42 rfl Tryz.ntmps42 rfl rfl ?_
 refine x_seq ?_
 refine x_region rfl ?_
 refine x_as rfl rfl trivial rfl ?_
 refine xl_nil ?_
 refine x_seq ?_
 refine x_region rfl ?_
 refine x_mv rfl rfl trivial rfl ?_
 refine x_call rfl rfl trivial cal_sum_on rfl (ct_sum_on (w0 := ~~~ 0#32) hw kl hl) rfl (fun w v4 hv => ?_)
 obtain ⟨rfl, hw⟩ := hv
 refine x_com (v := ((sumB l).toNat : Int)) rfl rfl trivial rfl (com32 _) ?_
 refine x_as rfl rfl trivial rfl ?_
 refine xl_nil ?_
 refine x_ret ?_
 exact end1 rfl rfl rfl ⟨rfl, hw⟩
end
def leB : Nat → Nat → List UInt8
 | 0, _ => []
 | n + 1, x => UInt8.ofNat (x % 256) :: leB n (x / 256)
theorem leB_len : ∀ (n x : Nat), (leB n x).length = n
 | 0, _ => rfl
 | n + 1, x => by simp [leB, leB_len n]
theorem leN_leB : ∀ (n x : Nat), x < 256 ^ n → leN (leB n x) = x
 | 0, x, h => by simp at h; subst h; rfl
 | n + 1, x, h => by
  rw [leB, leN, leN_leB n _ (by rw [Nat.pow_succ] at h; omega)]
  have : (UInt8.ofNat (x % 256)).toNat = x % 256 := by simp [UInt8.toNat_ofNat']
  rw [this]; omega
theorem leB_leN : ∀ (l : List UInt8), leB l.length (leN l) = l
 | [] => rfl
 | x :: l => by
  have hx : x.toNat < 256 := x.toNat_lt
  have e1 : (x.toNat + 256 * leN l) % 256 = x.toNat := by omega
  have e2 : (x.toNat + 256 * leN l) / 256 = leN l := by omega
  simp only [List.length_cons, leN, leB, e1, e2, leB_leN l]
  simp
theorem leN_lt' {l : List UInt8} {n : Nat} (h : l.length ≤ n) : leN l < 256 ^ n := by
 have := leN_lt l
 have h2 : (2 : Nat) ^ (8 * l.length) ≤ 2 ^ (8 * n) := Nat.pow_le_pow_right (by decide) (by omega)
 have h3 : (2 : Nat) ^ (8 * n) = 256 ^ n := by rw [Nat.pow_mul]
 omega
theorem half32 (a : U32) : IntKind.u32.wrap ((a.toNat : Int).tdiv 2) = ((a >>> 1).toNat : Int) := by
 have e : ((a.toNat : Nat) : Int).tdiv 2 = ((a.toNat / 2 : Nat) : Int) := by rw [Int.tdiv_eq_ediv_of_nonneg (by omega)]; simp
 have := a.isLt
 rw [e, w32 (by omega)]
 congr 1
theorem odd32 (a : U32) : ((a.toNat : Int).tmod 2 = 1) ↔ a.getLsbD 0 = true := by
 rw [Int.tmod_eq_emod_of_nonneg (by omega)]
 unfold BitVec.getLsbD
 rw [Nat.testBit_zero]
 simp; omega
theorem R1_odd {a : U32} (h : a.getLsbD 0 = true) : R1 a = (a >>> 1) ^^^ 2197175160#32 := by unfold R1; rw [h]; simp
theorem stepB_eq (a : U32) (x : UInt8) : stepB a x = Rn 8 (a ^^^ BitVec.ofNat 32 x.toNat) := by unfold stepB; rw [stepN_eq, stepN_eq, ← Rn_add]
theorem byte8 (y : Nat) : IntKind.u8.wrap (y : Int) = (((UInt8.ofNat (y % 256)).toNat : Nat) : Int) := by
 show (y : Int) % (2 ^ 8 : Int) = _
 simp only [UInt8.toNat_ofNat']
 omega
theorem leB_snoc : ∀ (k x : Nat), leB (k + 1) x = leB k x ++ [UInt8.ofNat (x / 256 ^ k % 256)]
 | 0, x => by simp [leB]
 | k + 1, x => by
  rw [leB, leB_snoc k (x / 256), Nat.div_div_eq_div_mul, leB, List.cons_append, Nat.pow_succ, Nat.mul_comm 256]
section
variable {G : Gh} {L R : List Assn} {w : World}
theorem ct_ref01_step {x : U32} (hw : Sat G L w) : Calls Tryz.prog 240 #[u32 x] w (Ret fun r w' => r = u32 (R1 x) ∧ Sat G L w') := by
 refine calls_of_x (args := [_]) Tryz.func240 rfl Tryz.ntmps240 rfl rfl ?_
 refine x_seq ?_
 refine x_region rfl ?_
 refine x_as rfl rfl trivial rfl ?_
 refine xl_nil ?_
 refine x_seq ?_
 refine x_seq ?_
 refine x_region rfl ?_
 refine x_mv rfl rfl trivial rfl ?_
 refine x_rem rfl rfl trivial rfl rfl (by omega) ?_
 refine x_eq rfl rfl trivial (by kernel_rfl) rfl rfl ?_
 refine xl_nil ?_
 refine x_if rfl (fun h1 => ?_) (fun h1 => ?_)
 ·
  refine x_seq ?_
  refine x_region rfl ?_
  refine x_mv rfl rfl trivial rfl ?_
  refine x_quo rfl rfl trivial rfl rfl (by omega) ?_
  refine x_xor rfl rfl trivial rfl rfl ?_
  refine x_as rfl rfl trivial rfl ?_
  refine xl_nil ?_
  refine x_ret ?_
  exact end1 rfl rfl rfl ⟨by rw [R1_odd ((odd32 x).1 h1), half32]; exact congrArg (Value.int .u32) (xor32 (x >>> 1) 2197175160#32), hw⟩
 refine x_skip ?_
 refine x_seq ?_
 refine x_region rfl ?_
 refine x_mv rfl rfl trivial rfl ?_
 refine x_quo rfl rfl trivial rfl rfl (by omega) ?_
 refine x_as rfl rfl trivial rfl ?_
 refine xl_nil ?_
 refine x_ret ?_
 exact end1 rfl rfl rfl ⟨by rw [R1_even (by cases hb : x.getLsbD 0 with | false => rfl | true => exact absurd ((odd32 x).2 hb) h1), half32], hw⟩
theorem ct_ref01_eight {x : U32} (hw : Sat G L w) : Calls Tryz.prog 169 #[u32 x] w (Ret fun r w' => r = u32 (Rn 8 x) ∧ Sat G L w') := by
 refine calls_of_x (args := [_]) Tryz.func169 rfl Tryz.ntmps169 rfl rfl ?_
 refine x_seq ?_
 refine x_region rfl ?_
 refine x_as rfl rfl trivial rfl ?_
 refine xl_nil ?_
 refine x_seq ?_
 refine x_seq ?_
 refine x_region rfl ?_
 refine x_as rfl rfl trivial rfl ?_
 refine xl_nil ?_
 refine x_block ?_
 refine x_loop (fun m e w => ∃ (k : Nat) (y : U32), k ≤ 8 ∧ m = 8 - k ∧ Rn (8 - k) y = Rn 8 x ∧ e = [(0, u32 y), (3, .int .i64 k)] ∧ Sat G L w)
  (m := 8) (e₀ := [(0, u32 x), (3, .int .i64 (0 : Nat))]) sB
  ⟨0, x, Nat.zero_le _, rfl, rfl, rfl, hw⟩ ?_
 rintro m e w ⟨k, y, hk, rfl, hy, rfl, hw⟩
 refine x_seq ?_
 refine x_seq ?_
 refine x_region rfl ?_
 refine x_mv rfl rfl trivial rfl ?_
 refine x_lt rfl rfl trivial rfl rfl ?_
 refine xl_nil ?_
 refine x_if rfl (fun h1 => ?_) (fun h1 => ?_)
 ·
  refine x_skip ?_
  refine x_seq ?_
  refine x_block ?_
  refine x_region rfl ?_
  refine x_mv rfl rfl trivial rfl ?_
  refine x_call rfl rfl trivial cal_ref01_step rfl (ct_ref01_step (x := y) hw) rfl (fun w v9 hv => ?_)
  obtain ⟨rfl, hw⟩ := hv
  refine x_as rfl rfl trivial rfl ?_
  refine xl_nil ?_
  refine x_region rfl ?_
  refine x_mv rfl rfl trivial rfl ?_
  refine x_addi rfl rfl trivial rfl rfl (by omega) ?_
  refine x_as rfl rfl trivial rfl ?_
  refine xl_nil ?_
  exact ⟨8 - (k + 1), by omega, [(0, u32 (R1 y)), (3, .int .i64 (k + 1 : Nat))], sB, k + 1, R1 y, by omega, rfl, by rw [← hy, show 8 - k = (8 - (k + 1)) + 1 by omega]; rfl, rfl, hw⟩
 refine x_exit rfl ?_
 refine x_seq ?_
 refine x_region rfl ?_
 refine x_mv rfl rfl trivial rfl ?_
 refine x_as rfl rfl trivial rfl ?_
 refine xl_nil ?_
 refine x_ret ?_
 exact end1 rfl rfl rfl ⟨by rw [← hy, show 8 - k = 0 by omega]; rfl, hw⟩
theorem ct_ref01_on {w0 : U32} {v : Value} {l : Bys} (hw : Sat G L w) (kl : Knows L (SlB v l)) (hl : l.length ≤ 1000000000000) :
  Calls Tryz.prog 102 #[u32 w0, v] w (Ret fun r w' => r = u32 (onB w0 l) ∧ Sat G L w') := by
 obtain ⟨a, cap, rfl⟩ := (kl.at hw).form
 refine calls_of_x (args := [_, _]) Tryz.func102 rfl Tryz.ntmps102 rfl rfl ?_
 refine x_seq ?_
 refine x_region rfl ?_
 refine x_as rfl rfl trivial rfl ?_
 refine xl_nil ?_
 refine x_seq ?_
 refine x_seq ?_
 refine x_region rfl ?_
 refine x_as rfl rfl trivial rfl ?_
 refine xl_nil ?_
 refine x_block ?_
 refine x_loop (fun m e w => ∃ (k : Nat) (w1 : U32), k ≤ l.length ∧ m = l.length - k ∧ w1 = onB w0 (l.take k) ∧ e = [(0, u32 w1), (1, .slice a l.length cap), (5, .int .i64 k)] ∧ Sat G L w)
  (m := l.length) (e₀ := [(0, u32 w0), (1, .slice a l.length cap), (5, .int .i64 (0 : Nat))]) sB
  ⟨0, w0, Nat.zero_le _, rfl, rfl, rfl, hw⟩ ?_
 rintro m e w ⟨k, w1, hk, rfl, hw1, rfl, hw⟩
 refine x_seq ?_
 refine x_seq ?_
 refine x_region rfl ?_
 refine x_mv rfl rfl trivial rfl ?_
 refine x_mv rfl rfl trivial rfl ?_
 refine x_len rfl rfl trivial (by kernel_rfl) U_sl_uint8 rfl ?_
 refine x_lt rfl rfl trivial rfl rfl ?_
 refine xl_nil ?_
 refine x_if rfl (fun h1 => ?_) (fun h1 => ?_)
 ·
  have hk' : k < l.length := by omega
  obtain ⟨bb, oo, rfl⟩ := (kl.at hw).nn (by omega)
  obtain ⟨x, hx⟩ : ∃ x, x = l.getD k 0 := ⟨_, rfl⟩
  refine x_skip ?_
  refine x_seq ?_
  refine x_block ?_
  refine x_region rfl ?_
  refine x_mv rfl rfl trivial rfl ?_
  refine x_mv rfl rfl trivial rfl ?_
  refine x_mv rfl rfl trivial rfl ?_
  refine x_idx1 rfl rfl trivial U_sl_uint8 sz_uint8 rfl rfl ⟨by omega, by omega⟩ ?_
  refine x_ld rfl rfl trivial rfl (Loads.one (v := bv x) one_uint8 (by have h := (kl.at hw).at (i := (k : Int)) ⟨by omega, by omega⟩; rw [hx]; exact h)) ?_
  refine x_conv rfl rfl trivial (by kernel_rfl) U_uint8 U_uint32 rfl ?_
  refine x_xorE (v := ((w1 ^^^ BitVec.ofNat 32 x.toNat).toNat : Int)) rfl rfl trivial rfl rfl (by rw [byte32]; exact xor32 _ _) ?_
  refine x_call rfl rfl trivial cal_ref01_eight rfl (ct_ref01_eight (x := w1 ^^^ BitVec.ofNat 32 x.toNat) hw) rfl (fun w v19 hv => ?_)
  obtain ⟨rfl, hw⟩ := hv
  refine x_as rfl rfl trivial rfl ?_
  refine xl_nil ?_
  refine x_region rfl ?_
  refine x_mv rfl rfl trivial rfl ?_
  refine x_addi rfl rfl trivial rfl rfl (by omega) ?_
  refine x_as rfl rfl trivial rfl ?_
  refine xl_nil ?_
  exact ⟨l.length - (k + 1), by omega, [(0, u32 (Rn 8 (w1 ^^^ BitVec.ofNat 32 x.toNat))), (1, _), (5, .int .i64 (k + 1 : Nat))], sB, k + 1, _, by omega, rfl, by rw [take_succ_getD l k 0 hk', onB_append, ← hw1, ← stepB_eq, hx]; rfl, rfl, hw⟩
 refine x_exit rfl ?_
 refine x_seq ?_
 refine x_region rfl ?_
 refine x_mv rfl rfl trivial rfl ?_
 refine x_as rfl rfl trivial rfl ?_
 refine xl_nil ?_
 refine x_ret ?_
 exact end1 rfl rfl rfl ⟨by rw [hw1, List.take_of_length_le (by omega)], hw⟩
theorem ct_ref01_Of {v : Value} {l : Bys} (hw : Sat G L w) (kl : Knows L (SlB v l)) (hl : l.length ≤ 1000000000000) :
  Calls Tryz.prog 48 #[v] w (Ret fun r w' => r = u32 (sumB l) ∧ Sat G L w') := by
 refine calls_of_x (args := [_]) Tryz.func48 rfl Tryz.ntmps48 rfl rfl ?_
 refine x_seq ?_
 refine x_region rfl ?_
 refine x_as rfl rfl trivial rfl ?_
 refine xl_nil ?_
 refine x_seq ?_
 refine x_region rfl ?_
 refine x_mv rfl rfl trivial rfl ?_
 refine x_call rfl rfl trivial cal_ref01_on rfl (ct_ref01_on (w0 := ~~~ 0#32) hw kl hl) rfl (fun w v4 hv => ?_)
 obtain ⟨rfl, hw⟩ := hv
 refine x_com (v := ((sumB l).toNat : Int)) rfl rfl trivial rfl (com32 _) ?_
 refine x_as rfl rfl trivial rfl ?_
 refine xl_nil ?_
 refine x_ret ?_
 exact end1 rfl rfl rfl ⟨rfl, hw⟩
theorem ct_ref02_Number {x n : Nat} (hw : Sat G L w) (hx : x < 18446744073709551616) (hn : n ≤ 8) :
  Calls Tryz.prog 47 #[.int .u64 x, .int .i64 n] w (Ret fun r w' => Sat G (row 5 1 r n (bys (leB n x)) :: L) w') := by
 refine calls_of_x (args := [_, _]) Tryz.func47 rfl Tryz.ntmps47 rfl rfl ?_
 refine x_seq ?_
 refine x_region rfl ?_
 refine x_as rfl rfl trivial rfl ?_
 refine xl_nil ?_
 refine x_seq ?_
 refine x_region rfl ?_
 refine x_as rfl rfl trivial rfl ?_
 refine xl_nil ?_
 refine x_seq ?_
 refine x_seq ?_
 refine x_region rfl ?_
 refine x_as rfl rfl trivial rfl ?_
 refine xl_nil ?_
 refine x_block ?_
 have hw := row_nil hw 5 1
 refine x_loop (fun m e w => ∃ (k y : Nat) (u : Value), k ≤ n ∧ m = n - k ∧ y = x / 256 ^ k ∧ e = [(0, .int .u64 y), (1, .int .i64 n), (5, u), (6, .int .i64 k)] ∧ Sat G (row 5 1 u k (bys (leB k x)) :: L) w)
  (m := n) (e₀ := [(0, .int .u64 x), (1, .int .i64 n), (5, .slice none 0 0), (6, .int .i64 (0 : Nat))]) sB
  ⟨0, x, _, Nat.zero_le _, rfl, by simp, rfl, hw⟩ ?_
 rintro m e w ⟨k, y, u, hk, rfl, hy, rfl, hw⟩
 refine x_seq ?_
 refine x_seq ?_
 refine x_region rfl ?_
 refine x_mv rfl rfl trivial rfl ?_
 refine x_mv rfl rfl trivial rfl ?_
 refine x_lt rfl rfl trivial rfl rfl ?_
 refine xl_nil ?_
 refine x_if rfl (fun h1 => ?_) (fun h1 => ?_)
 ·
  have hyx : y ≤ x := by rw [hy]; exact Nat.div_le_self _ _
  obtain ⟨ua, uc, rfl⟩ := row_form hw
  refine x_skip ?_
  refine x_seq ?_
  refine x_block ?_
  refine x_seq ?_
  refine x_region rfl ?_
  refine x_mv rfl rfl trivial rfl ?_
  refine x_mv rfl rfl trivial rfl ?_
  refine x_convE (v := (((UInt8.ofNat (y % 256)).toNat : Nat) : Int)) rfl rfl trivial (by kernel_rfl) U_uint64 U_uint8 rfl (byte8 y) ?_
  refine x_bs1 (cs := [bv (UInt8.ofNat (y % 256))]) rfl rfl trivial U_sl_uint8 sz_uint8 zs_uint8 (by decide) rfl rfl rfl hw rfl (fun w b15 hw => ?_)
  refine x_app (m := k) (k := 1) (news := [bv (UInt8.ofNat (y % 256))]) rfl rfl trivial U_sl_uint8 sz_uint8 by_uint8 zs_uint8 rfl rfl hw pK (Rd.blk0 hw pK) rfl (ones_bv _) (by simp only [maxLen]; omega) (by omega) rfl (fun w v16 hw => ?_)
  refine x_as rfl rfl trivial rfl ?_
  refine xl_nil ?_
  refine x_region rfl ?_
  refine x_mv rfl rfl trivial rfl ?_
  refine x_quo rfl rfl trivial rfl rfl (by omega) ?_
  refine x_as rfl rfl trivial rfl ?_
  refine xl_nil ?_
  refine x_region rfl ?_
  refine x_mv rfl rfl trivial rfl ?_
  refine x_addi rfl rfl trivial rfl rfl (by omega) ?_
  refine x_as rfl rfl trivial rfl ?_
  refine xl_nil ?_
  have e1 : IntKind.u64.wrap ((y : Int).tdiv 256) = ((x / 256 ^ (k + 1) : Nat) : Int) := by
   have e : ((y : Nat) : Int).tdiv 256 = ((y / 256 : Nat) : Int) := by rw [Int.tdiv_eq_ediv_of_nonneg (by omega)]; simp
   rw [e, w64 (by omega), hy, Nat.div_div_eq_div_mul, ← Nat.pow_succ]
  have e2 : bys (leB k x) ++ [bv (UInt8.ofNat (y % 256))] = bys (leB (k + 1) x) := by rw [leB_snoc, ← hy]; simp [bys]
  rw [e1]
  rw [e2] at hw
  exact ⟨n - (k + 1), by omega, [(0, .int .u64 (x / 256 ^ (k + 1) : Nat)), (1, _), (5, v16), (6, .int .i64 (k + 1 : Nat))], sB, k + 1, _, v16, by omega, rfl, rfl, rfl, (hw.bring (As := [blk b15 _ _, row 5 1 v16 _ _]) bR).tail⟩
 refine x_exit rfl ?_
 refine x_seq ?_
 refine x_region rfl ?_
 refine x_mv rfl rfl trivial rfl ?_
 refine x_as rfl rfl trivial rfl ?_
 refine xl_nil ?_
 refine x_ret ?_
 exact end1 rfl rfl rfl (by
 have hkn : k = n := by omega
 subst hkn; exact hw)
end
section
variable {P : Program} {n : Nat} {ops : Array Oper} {dr : Bool} {done r : List Nat} {K : Env → World → Prop} {e : Env} {w : World} {i d : Nat} {t s : TypeId} {p : String} {af : Array Edge} {g : Option (Nat × Bool)} {x : Operand}
theorem x_cutLT {c : TypeId} {q : Option Addr} {len cap z : Nat} {lo : Int} {kl : IntKind} {l : Operand} (ho : ops[i]? = some ⟨some d, .slice s x (some l) none none, t, p, af, g⟩) (hd : Nat.blt d n = true) (hg : Gd ops e g) (hs : P.underlying s = some (.slice c)) (hz : (P.info? c).map (·.size) = some z)
  (hx : ev e x = some (.slice q len cap)) (hl : ev e l = some (.int kl lo)) (hb : 0 ≤ lo ∧ lo ≤ len) (hc : len ≤ cap) (hq : lo < cap → ∃ b o, q = some ⟨b, o, none⟩)
  (h : ∀ v', (∀ b o, q = some ⟨b, o, none⟩ → lo < cap → v' = .slice (some ⟨b, o + lo.toNat * z, none⟩) (len - lo.toNat) (cap - lo.toNat)) → (lo = cap → v' = .slice q 0 0) → XL P n ops dr (i :: done) r K ((d, v') :: e) w) : XL P n ops dr done (i :: r) K e w := by
 by_cases hlc : lo < cap
 ·obtain ⟨b, o, rfl⟩ := hq hlc
  exact x_cutL ho hd hg hs hz hx hl hb hlc (h _ (fun b' o' h1 _ => by cases h1; rfl) (fun h1 => by omega))
 have hlen : len = cap := by omega
 subst hlen
 exact x_cutLz ho hd hg hs (by rw [hz]; rfl) hx hl (by omega) (h _ (fun b' o' _ h1 => absurd h1 hlc) (fun _ => rfl))
end
section
variable {P : Program} {n : Nat} {ops : Array Oper} {dr : Bool} {done r : List Nat} {K : Env → World → Prop} {e : Env} {w : World} {i d : Nat} {t s s' : TypeId} {p : String} {af : Array Edge} {g : Option (Nat × Bool)} {x y : Operand} {G : Gh} {L R : List Assn}
theorem x_appT {c : TypeId} {z bytes m : Nat} {v u : Value} {xs : List Value} {rs : List (List Value)} (ho : ops[i]? = some ⟨some d, .call ⟨.builtin .append, #[x, y], #[s, s]⟩, t, p, af, g⟩) (hd : Nat.blt d n = true) (hg : Gd ops e g) (hs : P.underlying s = some (.slice c)) (hzc : (P.info? c).map (·.size) = some z)
  (hbc : (P.info? c).map (·.bytes) = some bytes) (hz0 : (zeroOf P c).map (·.size) = some z) (hx : ev e x = some v) (hy : ev e y = some u) (hw : Sat G L w) (hp : Pick (row c z v m xs) L R) (hr : SlT z u rs w) (h1 : Ones rs.flatten)
  (h63 : m + rs.length ≤ maxLen) (hby : (m + rs.length) * bytes ≤ 140737488355328) (hpd : pend P ops dr done i = [])
  (h : ∀ w' v', Sat G (row c z v' (m + rs.length) (xs ++ rs.flatten) :: R) w' → XL P n ops dr (i :: done) r K ((d, v') :: e) w') : XL P n ops dr done (i :: r) K e w := by
 rcases hr with ⟨a, rfl, -, rfl⟩ | ⟨b, o, cap, rfl, h2, h3, h4⟩
 ·cases hi : P.info? c with
  | none => simp [hi] at hzc
  | some inf =>
   have hle : ∃ a' c', v = .slice a' m c' ∧ m ≤ c' := by
    obtain ⟨_, h | ⟨b, cap, cur, h, h', _⟩⟩ := row_open (hw.pick hp)
    ·obtain ⟨rfl, rfl, _⟩ := h; exact ⟨none, 0, rfl, Nat.le_refl _⟩
    exact ⟨_, cap, h, h'⟩
   obtain ⟨a', c', rfl, hle⟩ := hle
   have hl : ∀ (x : Addr), (loadCells x 0).run P w = .ok #[] w := fun x => by simpa using run_loadCells_list (P := P) w x [] (by simp)
   have hrr : (Builtin.append_ #[s, s] t #[.slice a' m c', .slice a 0 0]).run P w = .ok (.slice a' m c') w := by
    cases a' <;> cases a <;> simp [Builtin.append_, run_underlying hs, Builtin.lenOf, Builtin.firstCells, sizeOf, typeInfo, hi, hle, storeCells, hl]
   refine xl_eff ho (by simpa [dstOk] using hd) hg (ρ := rh e) (by intro z hZ; simp [Op.operands, Call.operands] at hZ; exact oh2 hx hy hZ) rfl (v := .slice a' m c') (w' := w) ?_ (noPend hpd) (h _ _ (by simpa using hw.pick hp))
   simp only [execOp, resolve, invoke, builtin, Sem.run_bind, Sem.run_pure, Result.andThen_ok, List.map_toArray, List.map_cons, List.map_nil, rh_of hx, rh_of hy, hrr]
 exact x_app (k := rs.length) ho hd hg hs hzc hbc hz0 hx hy hw hp h4 (flatten_length h3) h1 h63 hby hpd h
end
section
variable {P : Program} {n : Nat} {ops : Array Oper} {dr : Bool} {done r : List Nat} {K : Env → World → Prop} {e : Env} {w : World} {i d : Nat} {t s : TypeId} {p : String} {af : Array Edge} {g : Option (Nat × Bool)} {x y : Operand}
variable {G : Gh} {L R : List Assn} {c : TypeId} {q : Option Addr} {len cap : Nat} {b : Bys} {w0 : World}
theorem SlB.inv (h : SlB (.slice q len cap) b w0) : len = b.length ∧ b.length ≤ cap ∧ ((cap = 0 ∧ b = []) ∨ ∃ bb o, q = some ⟨bb, o, none⟩) := by
 rcases h with ⟨⟨a, h1⟩, rfl⟩ | ⟨bb, o, c, h1, h2, h3⟩
 ·cases h1; exact ⟨rfl, Nat.le_refl _, .inl ⟨rfl, rfl⟩⟩
 cases h1; exact ⟨rfl, h2, .inr ⟨bb, o, rfl⟩⟩
def Plain (v : Value) : Prop := ∀ q m c, v = .slice q m c → ∀ a, q = some a → a.spot = none
theorem x_cutLB {lo : Int} {kl : IntKind} {l : Operand} (ho : ops[i]? = some ⟨some d, .slice s x (some l) none none, t, p, af, g⟩) (hd : Nat.blt d n = true) (hg : Gd ops e g) (hs : P.underlying s = some (.slice c)) (hz : (P.info? c).map (·.size) = some 1)
  (hx : ev e x = some (.slice q len cap)) (hl : ev e l = some (.int kl lo)) (hk : SlB (.slice q len cap) b w0) (hb : 0 ≤ lo ∧ lo ≤ b.length)
  (h : ∀ v', (∀ w, SlB (.slice q len cap) b w → SlB v' (b.drop lo.toNat) w) → (Plain (.slice q len cap) → Plain v') → XL P n ops dr (i :: done) r K ((d, v') :: e) w) : XL P n ops dr done (i :: r) K e w := by
 obtain ⟨h1, h2, h3⟩ := hk.inv
 subst h1
 refine x_cutLT ho hd hg hs hz hx hl hb h2 (fun h4 => ?_) (fun v' h5 h6 => h v' (fun w hw => ?_) (fun hp => ?_))
 ·rcases h3 with ⟨rfl, rfl⟩ | h3
  ·have := hb.1; simp at h4; omega
  exact h3
 ·obtain ⟨-, -, h7⟩ := hw.inv
  by_cases h8 : lo = cap
  ·rw [h6 h8]
   refine .inl ⟨⟨_, rfl⟩, List.drop_eq_nil_of_le (by omega)⟩
  rcases h7 with ⟨rfl, rfl⟩ | ⟨bb, o, rfl⟩
  ·simp at hb; omega
  rw [h5 _ _ rfl (by omega)]
  refine .inr ⟨bb, o + lo.toNat, cap - lo.toNat, by rw [List.length_drop, Nat.mul_one], by rw [List.length_drop]; omega, ?_⟩
  exact hw.rdd lo.toNat
 by_cases h8 : lo = cap
 ·rw [h6 h8]
  intro q' m' c' h9 a ha
  cases h9
  exact hp _ _ _ rfl a ha
 rcases h3 with ⟨rfl, rfl⟩ | ⟨bb, o, rfl⟩
 ·simp at hb; omega
 rw [h5 _ _ rfl (by omega)]
 intro q' m' c' h9 a ha
 cases h9; cases ha; rfl
theorem SlB.hi (hw : SlB (.slice q len cap) b w0) {k cap' : Nat} (h1 : k ≤ b.length) (h2 : k ≤ cap') (h3 : cap' ≤ cap) : SlB (.slice q k cap') (b.take k) w0 := by
 rcases hw with ⟨⟨a, e1⟩, rfl⟩ | ⟨bb, o, c, e1, e2, e3⟩
 ·cases e1
  have : k = 0 := by simpa using h1
  subst this
  have : cap' = 0 := by omega
  subst this
  exact .inl ⟨⟨_, rfl⟩, by simp⟩
 cases e1
 refine .inr ⟨bb, o, cap', by rw [List.length_take, Nat.min_eq_left h1], by rw [List.length_take]; omega, ?_⟩
 rw [bys_take]; exact e3.take k
theorem x_cutHB {hi : Int} {kh : IntKind} {h' : Operand} (ho : ops[i]? = some ⟨some d, .slice s x none (some h') none, t, p, af, g⟩) (hd : Nat.blt d n = true) (hg : Gd ops e g) (hs : P.underlying s = some (.slice c)) (hz : (P.info? c).map (·.size) = some 1)
  (hx : ev e x = some (.slice q len cap)) (hh : ev e h' = some (.int kh hi)) (hk : SlB (.slice q len cap) b w0) (hb : 0 ≤ hi ∧ hi ≤ b.length) (hq : ∀ a, q = some a → a.spot = none)
  (h : ∀ v', v' = .slice q hi.toNat cap → (∀ w, SlB (.slice q len cap) b w → SlB v' (b.take hi.toNat) w) → XL P n ops dr (i :: done) r K ((d, v') :: e) w) : XL P n ops dr done (i :: r) K e w := by
 obtain ⟨h1, h2, -⟩ := hk.inv
 exact x_cutH ho hd hg hs (by rw [hz]; rfl) hx hq hh ⟨hb.1, by omega⟩ (h _ rfl fun w hw => hw.hi (by omega) (by omega) (Nat.le_refl _))
theorem Plain.row {T z m : Nat} {v : Value} {xs : List Value} {G : Gh} {L : List Assn} {w : World} (hw : Sat G (row T z v m xs :: L) w) : Plain v := by
 obtain ⟨hl, h | ⟨b, cap, cur, rfl, h1, h2, h3, h4⟩⟩ := row_open hw
 ·obtain ⟨rfl, _⟩ := h
  intro q' m' c' h9 a ha
  cases h9; cases ha
 intro q' m' c' h9 a ha
 cases h9; cases ha; rfl
theorem x_appB {m : Nat} {v u : Value} {xs : List Value} {b : Bys} (ho : ops[i]? = some ⟨some d, .call ⟨.builtin .append, #[x, y], #[s, s]⟩, t, p, af, g⟩) (hd : Nat.blt d n = true) (hg : Gd ops e g) (hs : P.underlying s = some (.slice c)) (hzc : (P.info? c).map (·.size) = some 1)
  (hbc : (P.info? c).map (·.bytes) = some 1) (hz0 : (zeroOf P c).map (·.size) = some 1) (hx : ev e x = some v) (hy : ev e y = some u) (hw : Sat G L w) (hp : Pick (row c 1 v m xs) L R) (hr : SlB u b w)
  (h63 : m + b.length ≤ 140737488355328) (hpd : pend P ops dr done i = [])
  (h : ∀ w' v', Sat G (row c 1 v' (m + b.length) (xs ++ bys b) :: R) w' → XL P n ops dr (i :: done) r K ((d, v') :: e) w') : XL P n ops dr done (i :: r) K e w := by
 have hl : ((bys b).map fun v => [v]).length = b.length := by rw [List.length_map, bys_length]
 have hf : ((bys b).map fun v => [v]).flatten = bys b := by
  induction bys b with
  | nil => rfl
  | cons a l ih => rw [List.map_cons, List.flatten_cons, ih]; rfl
 refine x_appT (m := m) (rs := (bys b).map fun v => [v]) ho hd hg hs hzc hbc hz0 hx hy hw hp ?_ (by rw [hf]; exact ones_bys b) (by rw [hl]; simp only [maxLen]; omega) (by rw [hl]; omega) hpd (fun w' v' h' => h w' v' (by rw [hl, hf] at h'; exact h'))
 rcases hr with ⟨⟨a, rfl⟩, rfl⟩ | ⟨bb, o, cap, rfl, h1, h2⟩
 ·exact .inl ⟨a, rfl, fun _ _ => rfl, rfl⟩
 refine .inr ⟨bb, o, cap, by rw [hl], by rw [hl]; exact h1, fun r hr => ?_, by rw [hf]; exact h2⟩
 obtain ⟨v, -, rfl⟩ := List.mem_map.1 hr; rfl
end
section
variable {P : Program} {n : Nat} {ops : Array Oper} {dr : Bool} {done r : List Nat} {K : Env → World → Prop} {e : Env} {w : World} {i d : Nat} {t : TypeId} {p : String} {af : Array Edge} {g : Option (Nat × Bool)}
variable {s u : TypeId} {x y : Operand} {T : TypeId} {v z : Value} {D : TypeDesc}
def isIface (P : Program) (t : TypeId) : Bool := match P.underlying t with | some (.interface _) => true | _ => false
theorem iface_of {t : TypeId} (h : isIface P t = true) : ∃ ms, P.underlying t = some (.interface ms) := by
 unfold isIface at h
 split at h
 ·rename_i ms h1; exact ⟨ms, h1⟩
 cases h
theorem x_ta1 (ho : ops[i]? = some ⟨some d, .typeAssert x s u true, t, p, af, g⟩) (hd : Nat.blt d n = true) (hg : Gd ops e g) (hu : P.underlying u = some D) (hD : ∀ ms, D ≠ .interface ms) (hx : ev e x = some (.iface u v))
  (h : XL P n ops dr (i :: done) r K ((d, .tuple #[v, .bool true]) :: e) w) : XL P n ops dr done (i :: r) K e w :=
 xl_pure ho (by simpa [dstOk] using hd) hg (ρ := rh e) (by intro z hZ; simp [Op.operands] at hZ; exact oh1 hx hZ) rfl (v := .tuple #[v, .bool true]) (fun w' => by
  simp only [execOp, rh_of hx, Instr.typeAssert, Sem.run_bind, run_underlying hu, Result.andThen_ok]
  cases D <;> first | simp | exact absurd rfl (hD _)) h
theorem x_ta0 (ho : ops[i]? = some ⟨some d, .typeAssert x s u true, t, p, af, g⟩) (hd : Nat.blt d n = true) (hg : Gd ops e g) (hu : P.underlying u = some D) (hz : (P.info? u).bind (·.zero) = some z) (hx : ev e x = some .nilIface)
  (h : XL P n ops dr (i :: done) r K ((d, .tuple #[z, .bool false]) :: e) w) : XL P n ops dr done (i :: r) K e w :=
 xl_pure ho (by simpa [dstOk] using hd) hg (ρ := rh e) (by intro z hZ; simp [Op.operands] at hZ; exact oh1 hx hZ) rfl (v := .tuple #[z, .bool false]) (fun w' => by
  have hzv : (zeroValue u).run P w' = .ok z w' := by
   cases hi : P.info? u with
   | none => simp [hi] at hz
   | some inf =>
    have hzz : inf.zero = some z := by simpa [hi] using hz
    simp [zeroValue, typeInfo, hi, hzz]
  simp only [execOp, rh_of hx, Instr.typeAssert, Sem.run_bind, run_underlying hu, Result.andThen_ok]
  cases D <;> simp [hzv]) h
theorem okind_ni {op : BinOp} {ms : Array (String × TypeId)} (hs : P.underlying s = some (.interface ms)) : okind P (.binOp op s x (.const .nilIface) u) = 0 := by
 unfold okind
 cases op <;> simp [hs, Region.isConst]
theorem run_eq_ni {ms : Array (String × TypeId)} (hs : P.underlying s = some (.interface ms)) (w : World) : (Op.equal s .nilIface .nilIface).run P w = .ok true w ∧ ∀ T v, (Op.equal s (.iface T v) .nilIface).run P w = .ok false w := by
 refine ⟨?_, fun T v => ?_⟩ <;> (unfold Op.equal; show Sem.run P (Op.equalIn (9999 + 1) s _ _) w = _; rw [Op.equalIn, Sem.run_bind, run_underlying hs, Result.andThen_ok]; rfl)
theorem run_guard_ni {op : BinOp} {ms : Array (String × TypeId)} {v : Value} (hs : P.underlying s = some (.interface ms)) (w : World) : (eqGuard op s x (.const .nilIface) v .nilIface).run P w = .ok () w := by
 unfold eqGuard
 cases op <;> first | rfl | (cases v <;> first | rfl | simp)
theorem x_neI0 {ms : Array (String × TypeId)} (ho : ops[i]? = some ⟨some d, .binOp .neq s x (.const .nilIface) u, t, p, af, g⟩) (hd : Nat.blt d n = true) (hg : Gd ops e g) (hs : P.underlying s = some (.interface ms)) (hx : ev e x = some .nilIface)
  (h : XL P n ops dr (i :: done) r K ((d, .bool false) :: e) w) : XL P n ops dr done (i :: r) K e w :=
 x_bin ho hd hg (okind_ni hs) hx rfl (fun w' => by simp only [Sem.run_bind, run_guard_ni hs, Result.andThen_ok, binOp, (run_eq_ni hs w').1]; rfl) h
end
end Go.Proofs.YtnlakpappccekaaGreatDoor.X
