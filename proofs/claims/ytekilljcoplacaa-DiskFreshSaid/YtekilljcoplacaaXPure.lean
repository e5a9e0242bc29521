/- Generic ground: the rules of the operations that touch no memory. -/
import Derived.Test.YtekilljcoplacaaXMem
import Derived.WalkKit
namespace Go.Proofs.Ytekilljcoplacaa.X
set_option linter.unusedVariables false
set_option linter.unusedSimpArgs false

/-- The operands' values. -/
def rh (e : Env) : Operand → Value := fun x => (ev e x).getD undef
theorem rh_of {e : Env} {x : Operand} {v : Value} (h : ev e x = some v) : rh e x = v := by simp [rh, h]
theorem rh_k {e : Env} {x : Operand} {v : Value} (h : ev e x = some v) : ev e x = some (rh e x) := by simp [rh, h]

theorem oh1 {e : Env} {x : Operand} {v : Value} (hx : ev e x = some v) {z : Operand} (hz : z = x) : ev e z = some (rh e z) := by subst hz; exact rh_k hx
theorem oh2 {e : Env} {x y : Operand} {v u : Value} (hx : ev e x = some v) (hy : ev e y = some u) {z : Operand} (hz : z = x ∨ z = y) : ev e z = some (rh e z) := hz.elim (oh1 hx) (oh1 hy)
theorem oh3 {e : Env} {x y c : Operand} {v u s : Value} (hx : ev e x = some v) (hy : ev e y = some u) (hc : ev e c = some s) {z : Operand} (hz : z = x ∨ z = y ∨ z = c) : ev e z = some (rh e z) := hz.elim (oh1 hx) (oh2 hy hc)

def evs (e : Env) : List Operand → Option (List Value)
  | [] => some []
  | x :: r => match ev e x, evs e r with
    | some v, some vs => some (v :: vs)
    | _, _ => none

theorem evs_mem {e : Env} : ∀ {xs : List Operand} {vs : List Value}, evs e xs = some vs → (∀ z ∈ xs, ev e z = some (rh e z)) ∧ xs.map (rh e) = vs
  | [], _, h => by simp [evs] at h; subst h; simp
  | x :: r, vs, h => by
    simp only [evs] at h
    split at h
    · rename_i v vs' h1 h2
      cases h
      obtain ⟨h3, h4⟩ := evs_mem h2
      refine ⟨fun z hz => ?_, by simp [rh_of h1, h4]⟩
      rcases List.mem_cons.1 hz with rfl | hz
      · exact rh_k h1
      · exact h3 z hz
    · cases h

theorem wrap64 {x : Int} (h : -9223372036854775808 ≤ x ∧ x ≤ 9223372036854775807) : IntKind.i64.wrap x = x := by rw [IntKind.wrap_i64]; omega

section
variable {P : Program} {n : Nat} {ops : Array Oper} {dr : Bool} {done r : List Nat} {K : Env → World → Prop} {e : Env} {w : World} {i d : Nat} {t : TypeId} {p : String} {af : Array Edge} {g : Option (Nat × Bool)}

theorem x_mv {x : Operand} {v : Value} (ho : ops[i]? = some ⟨some d, .move x, t, p, af, g⟩) (hd : Nat.blt d n = true) (hg : Gd ops e g) (hx : ev e x = some v)
    (h : XL P n ops dr (i :: done) r K ((d, v) :: e) w) : XL P n ops dr done (i :: r) K e w :=
  xl_pure ho (by simpa [dstOk] using hd) hg (ρ := rh e) (by intro z hZ; simp [Op.operands] at hZ; exact oh1 hx hZ) rfl (v := v) (fun w' => by simp [execOp, rh_of hx]) h

theorem x_as {x : Operand} {v : Value} (ho : ops[i]? = some ⟨some d, .assign x, t, p, af, g⟩) (hd : Nat.blt d n = true) (hg : Gd ops e g) (hx : ev e x = some v)
    (h : XL P n ops dr (i :: done) r K ((d, v) :: e) w) : XL P n ops dr done (i :: r) K e w :=
  xl_pure ho (by simpa [dstOk] using hd) hg (ρ := rh e) (by intro z hZ; simp [Op.operands] at hZ; exact oh1 hx hZ) rfl (v := v) (fun w' => by simp [execOp, rh_of hx]) h

theorem x_pick {c a b : Operand} {q : Bool} {va vb : Value} (ho : ops[i]? = some ⟨some d, .pick c a b, t, p, af, g⟩) (hd : Nat.blt d n = true) (hg : Gd ops e g) (hc : ev e c = some (.bool q)) (ha : ev e a = some va) (hb : ev e b = some vb)
    (h : XL P n ops dr (i :: done) r K ((d, cond q va vb) :: e) w) : XL P n ops dr done (i :: r) K e w :=
  xl_pure ho (by simpa [dstOk] using hd) hg (ρ := rh e) (by intro z hZ; simp [Op.operands] at hZ; exact oh3 hc ha hb hZ) rfl (v := cond q va vb)
    (fun w' => by cases q <;> simp [execOp, rh_of hc, rh_of ha, rh_of hb, asBool]) h
theorem x_pickT {c a b : Operand} {va vb : Value} (ho : ops[i]? = some ⟨some d, .pick c a b, t, p, af, g⟩) (hd : Nat.blt d n = true) (hg : Gd ops e g) (hc : ev e c = some (.bool true)) (ha : ev e a = some va) (hb : ev e b = some vb)
    (h : XL P n ops dr (i :: done) r K ((d, va) :: e) w) : XL P n ops dr done (i :: r) K e w := x_pick ho hd hg hc ha hb h
theorem x_pickF {c a b : Operand} {va vb : Value} (ho : ops[i]? = some ⟨some d, .pick c a b, t, p, af, g⟩) (hd : Nat.blt d n = true) (hg : Gd ops e g) (hc : ev e c = some (.bool false)) (ha : ev e a = some va) (hb : ev e b = some vb)
    (h : XL P n ops dr (i :: done) r K ((d, vb) :: e) w) : XL P n ops dr done (i :: r) K e w := x_pick ho hd hg hc ha hb h

/-- The run of a test or sum of two values, whatever it is. -/
theorem x_bin {op : BinOp} {s u : TypeId} {x y : Operand} {vx vy v : Value} (ho : ops[i]? = some ⟨some d, .binOp op s x y u, t, p, af, g⟩) (hd : Nat.blt d n = true) (hg : Gd ops e g) (hk : okind P (.binOp op s x y u) = 0)
    (hx : ev e x = some vx) (hy : ev e y = some vy) (hr : ∀ w', (do eqGuard op s x y vx vy; binOp op s vx vy : Sem Value).run P w' = .ok v w')
    (h : XL P n ops dr (i :: done) r K ((d, v) :: e) w) : XL P n ops dr done (i :: r) K e w :=
  xl_pure ho (by simpa [dstOk] using hd) hg (ρ := rh e) (by intro z hZ; simp [Op.operands] at hZ; exact oh2 hx hy hZ) hk (v := v)
    (fun w' => by
      have := hr w'
      simp only [execOp, rh_of hx, rh_of hy]
      rw [Sem.run_bind, this]; rfl) h

theorem run_eqGuard_int {op : BinOp} {s : TypeId} {x y : Operand} {k k' : IntKind} {a b : Int} {w : World} : (eqGuard op s x y (.int k a) (.int k' b)).run P w = .ok () w := by
  unfold eqGuard; cases op <;> simp

theorem bk {op : BinOp} {s u : TypeId} {x y : Operand} (h : (op matches .eql | .neq) = false) : okind P (.binOp op s x y u) = 0 := by
  unfold okind; cases op <;> first | rfl | (simp at h)

variable {s u : TypeId} {x y : Operand} {k : IntKind} {a b : Int}

theorem x_add (ho : ops[i]? = some ⟨some d, .binOp .add s x y u, t, p, af, g⟩) (hd : Nat.blt d n = true) (hg : Gd ops e g) (hx : ev e x = some (.int k a)) (hy : ev e y = some (.int k b))
    (h : XL P n ops dr (i :: done) r K ((d, .int k (k.wrap (a + b))) :: e) w) : XL P n ops dr done (i :: r) K e w :=
  x_bin ho hd hg (bk rfl) hx hy (fun w' => by simp [run_eqGuard_int, binOp, Op.intArith]) h
theorem x_sub (ho : ops[i]? = some ⟨some d, .binOp .sub s x y u, t, p, af, g⟩) (hd : Nat.blt d n = true) (hg : Gd ops e g) (hx : ev e x = some (.int k a)) (hy : ev e y = some (.int k b))
    (h : XL P n ops dr (i :: done) r K ((d, .int k (k.wrap (a - b))) :: e) w) : XL P n ops dr done (i :: r) K e w :=
  x_bin ho hd hg (bk rfl) hx hy (fun w' => by simp [run_eqGuard_int, binOp, Op.intArith]) h
theorem x_mul (ho : ops[i]? = some ⟨some d, .binOp .mul s x y u, t, p, af, g⟩) (hd : Nat.blt d n = true) (hg : Gd ops e g) (hx : ev e x = some (.int k a)) (hy : ev e y = some (.int k b))
    (h : XL P n ops dr (i :: done) r K ((d, .int k (k.wrap (a * b))) :: e) w) : XL P n ops dr done (i :: r) K e w :=
  x_bin ho hd hg (bk rfl) hx hy (fun w' => by simp [run_eqGuard_int, binOp, Op.intArith]) h
theorem x_quo (ho : ops[i]? = some ⟨some d, .binOp .quo s x y u, t, p, af, g⟩) (hd : Nat.blt d n = true) (hg : Gd ops e g) (hx : ev e x = some (.int k a)) (hy : ev e y = some (.int k b)) (hb : b ≠ 0)
    (h : XL P n ops dr (i :: done) r K ((d, .int k (k.wrap (a.tdiv b))) :: e) w) : XL P n ops dr done (i :: r) K e w :=
  x_bin ho hd hg (bk rfl) hx hy (fun w' => by simp [run_eqGuard_int, binOp, Op.intDiv, hb]) h
theorem x_rem (ho : ops[i]? = some ⟨some d, .binOp .rem s x y u, t, p, af, g⟩) (hd : Nat.blt d n = true) (hg : Gd ops e g) (hx : ev e x = some (.int k a)) (hy : ev e y = some (.int k b)) (hb : b ≠ 0)
    (h : XL P n ops dr (i :: done) r K ((d, .int k (a.tmod b)) :: e) w) : XL P n ops dr done (i :: r) K e w :=
  x_bin ho hd hg (bk rfl) hx hy (fun w' => by simp [run_eqGuard_int, binOp, Op.intDiv, hb]) h

/- The same at 'int', where nothing wraps. -/
theorem x_addi (ho : ops[i]? = some ⟨some d, .binOp .add s x y u, t, p, af, g⟩) (hd : Nat.blt d n = true) (hg : Gd ops e g) (hx : ev e x = some (.int .i64 a)) (hy : ev e y = some (.int .i64 b)) (hb : -9223372036854775808 ≤ a + b ∧ a + b ≤ 9223372036854775807)
    (h : XL P n ops dr (i :: done) r K ((d, .int .i64 (a + b)) :: e) w) : XL P n ops dr done (i :: r) K e w := x_add ho hd hg hx hy (by rw [wrap64 hb]; exact h)
theorem x_subi (ho : ops[i]? = some ⟨some d, .binOp .sub s x y u, t, p, af, g⟩) (hd : Nat.blt d n = true) (hg : Gd ops e g) (hx : ev e x = some (.int .i64 a)) (hy : ev e y = some (.int .i64 b)) (hb : -9223372036854775808 ≤ a - b ∧ a - b ≤ 9223372036854775807)
    (h : XL P n ops dr (i :: done) r K ((d, .int .i64 (a - b)) :: e) w) : XL P n ops dr done (i :: r) K e w := x_sub ho hd hg hx hy (by rw [wrap64 hb]; exact h)
theorem x_muli (ho : ops[i]? = some ⟨some d, .binOp .mul s x y u, t, p, af, g⟩) (hd : Nat.blt d n = true) (hg : Gd ops e g) (hx : ev e x = some (.int .i64 a)) (hy : ev e y = some (.int .i64 b)) (hb : -9223372036854775808 ≤ a * b ∧ a * b ≤ 9223372036854775807)
    (h : XL P n ops dr (i :: done) r K ((d, .int .i64 (a * b)) :: e) w) : XL P n ops dr done (i :: r) K e w := x_mul ho hd hg hx hy (by rw [wrap64 hb]; exact h)
/-- of numbers that are not below 0 -/
theorem x_quoi (ho : ops[i]? = some ⟨some d, .binOp .quo s x y u, t, p, af, g⟩) (hd : Nat.blt d n = true) (hg : Gd ops e g) (hx : ev e x = some (.int .i64 a)) (hy : ev e y = some (.int .i64 b)) (ha : 0 ≤ a ∧ a ≤ 9223372036854775807) (hb : 1 ≤ b)
    (h : XL P n ops dr (i :: done) r K ((d, .int .i64 (a / b)) :: e) w) : XL P n ops dr done (i :: r) K e w := x_quo ho hd hg hx hy (by omega) (by
      have h1 : a.tdiv b = a / b := Int.tdiv_eq_ediv_of_nonneg ha.1
      have h2 : 0 ≤ a / b := Int.ediv_nonneg ha.1 (by omega)
      have h3 : a / b ≤ a := Int.ediv_le_self b ha.1
      rw [h1, wrap64 ⟨by omega, by omega⟩]; exact h)
theorem x_remi (ho : ops[i]? = some ⟨some d, .binOp .rem s x y u, t, p, af, g⟩) (hd : Nat.blt d n = true) (hg : Gd ops e g) (hx : ev e x = some (.int .i64 a)) (hy : ev e y = some (.int .i64 b)) (ha : 0 ≤ a) (hb : 1 ≤ b)
    (h : XL P n ops dr (i :: done) r K ((d, .int .i64 (a % b)) :: e) w) : XL P n ops dr done (i :: r) K e w := x_rem ho hd hg hx hy (by omega) (by
      have h1 : a.tmod b = a % b := Int.tmod_eq_emod_of_nonneg ha
      rw [h1]; exact h)

theorem x_and (ho : ops[i]? = some ⟨some d, .binOp .and s x y u, t, p, af, g⟩) (hd : Nat.blt d n = true) (hg : Gd ops e g) (hx : ev e x = some (.int k a)) (hy : ev e y = some (.int k b))
    (h : XL P n ops dr (i :: done) r K ((d, .int k (k.wrap (BitVec.ofInt k.bits a &&& BitVec.ofInt k.bits b).toNat)) :: e) w) : XL P n ops dr done (i :: r) K e w :=
  x_bin ho hd hg (bk rfl) hx hy (fun w' => by simp [run_eqGuard_int, binOp, Op.intBits]) h
theorem x_or (ho : ops[i]? = some ⟨some d, .binOp .or s x y u, t, p, af, g⟩) (hd : Nat.blt d n = true) (hg : Gd ops e g) (hx : ev e x = some (.int k a)) (hy : ev e y = some (.int k b))
    (h : XL P n ops dr (i :: done) r K ((d, .int k (k.wrap (BitVec.ofInt k.bits a ||| BitVec.ofInt k.bits b).toNat)) :: e) w) : XL P n ops dr done (i :: r) K e w :=
  x_bin ho hd hg (bk rfl) hx hy (fun w' => by simp [run_eqGuard_int, binOp, Op.intBits]) h
theorem x_xor (ho : ops[i]? = some ⟨some d, .binOp .xor s x y u, t, p, af, g⟩) (hd : Nat.blt d n = true) (hg : Gd ops e g) (hx : ev e x = some (.int k a)) (hy : ev e y = some (.int k b))
    (h : XL P n ops dr (i :: done) r K ((d, .int k (k.wrap (BitVec.ofInt k.bits a ^^^ BitVec.ofInt k.bits b).toNat)) :: e) w) : XL P n ops dr done (i :: r) K e w :=
  x_bin ho hd hg (bk rfl) hx hy (fun w' => by simp [run_eqGuard_int, binOp, Op.intBits]) h

theorem x_lt (ho : ops[i]? = some ⟨some d, .binOp .lss s x y u, t, p, af, g⟩) (hd : Nat.blt d n = true) (hg : Gd ops e g) (hx : ev e x = some (.int k a)) (hy : ev e y = some (.int k b))
    (h : XL P n ops dr (i :: done) r K ((d, .bool (decide (a < b))) :: e) w) : XL P n ops dr done (i :: r) K e w :=
  x_bin ho hd hg (bk rfl) hx hy (fun w' => by simp [run_eqGuard_int, binOp, Op.intCmp]) h
theorem x_le (ho : ops[i]? = some ⟨some d, .binOp .leq s x y u, t, p, af, g⟩) (hd : Nat.blt d n = true) (hg : Gd ops e g) (hx : ev e x = some (.int k a)) (hy : ev e y = some (.int k b))
    (h : XL P n ops dr (i :: done) r K ((d, .bool (decide (a ≤ b))) :: e) w) : XL P n ops dr done (i :: r) K e w :=
  x_bin ho hd hg (bk rfl) hx hy (fun w' => by simp [run_eqGuard_int, binOp, Op.intCmp]) h
theorem x_gt (ho : ops[i]? = some ⟨some d, .binOp .gtr s x y u, t, p, af, g⟩) (hd : Nat.blt d n = true) (hg : Gd ops e g) (hx : ev e x = some (.int k a)) (hy : ev e y = some (.int k b))
    (h : XL P n ops dr (i :: done) r K ((d, .bool (decide (b < a))) :: e) w) : XL P n ops dr done (i :: r) K e w :=
  x_bin ho hd hg (bk rfl) hx hy (fun w' => by simp [run_eqGuard_int, binOp, Op.intCmp]) h
theorem x_ge (ho : ops[i]? = some ⟨some d, .binOp .geq s x y u, t, p, af, g⟩) (hd : Nat.blt d n = true) (hg : Gd ops e g) (hx : ev e x = some (.int k a)) (hy : ev e y = some (.int k b))
    (h : XL P n ops dr (i :: done) r K ((d, .bool (decide (b ≤ a))) :: e) w) : XL P n ops dr done (i :: r) K e w :=
  x_bin ho hd hg (bk rfl) hx hy (fun w' => by simp [run_eqGuard_int, binOp, Op.intCmp]) h
theorem x_eq (ho : ops[i]? = some ⟨some d, .binOp .eql s x y u, t, p, af, g⟩) (hd : Nat.blt d n = true) (hg : Gd ops e g) (hk : okind P (.binOp .eql s x y u) = 0) (hx : ev e x = some (.int k a)) (hy : ev e y = some (.int k b))
    (h : XL P n ops dr (i :: done) r K ((d, .bool (decide (a = b))) :: e) w) : XL P n ops dr done (i :: r) K e w :=
  x_bin ho hd hg hk hx hy (fun w' => by simp [run_eqGuard_int, binOp, Op.intCmp]; by_cases h : a = b <;> simp [h]) h
theorem x_ne (ho : ops[i]? = some ⟨some d, .binOp .neq s x y u, t, p, af, g⟩) (hd : Nat.blt d n = true) (hg : Gd ops e g) (hk : okind P (.binOp .neq s x y u) = 0) (hx : ev e x = some (.int k a)) (hy : ev e y = some (.int k b))
    (h : XL P n ops dr (i :: done) r K ((d, .bool (decide (a ≠ b))) :: e) w) : XL P n ops dr done (i :: r) K e w :=
  x_bin ho hd hg hk hx hy (fun w' => by simp [run_eqGuard_int, binOp, Op.intCmp]; by_cases h : a = b <;> simp [h, bne]) h

/- Pointers against nil. -/
theorem run_equal_ptrnil {c : TypeId} {q : Option Addr} (hs : P.underlying s = some (.pointer c)) (w : World) : (Op.equal s (.pointer q) (.pointer none)).run P w = .ok q.isNone w := by
  have : ∀ m, (Op.equalIn (m + 1) s (.pointer q) (.pointer none)).run P w = .ok q.isNone w := fun m => by
    cases q <;> simp [Op.equalIn, run_underlying hs]
  exact this 9999
theorem x_eqnil {c : TypeId} {q : Option Addr} (ho : ops[i]? = some ⟨some d, .binOp .eql s x (.const (.pointer none)) u, t, p, af, g⟩) (hd : Nat.blt d n = true) (hg : Gd ops e g) (hk : okind P (.binOp .eql s x (.const (.pointer none)) u) = 0)
    (hs : P.underlying s = some (.pointer c)) (hx : ev e x = some (.pointer q))
    (h : XL P n ops dr (i :: done) r K ((d, .bool q.isNone) :: e) w) : XL P n ops dr done (i :: r) K e w :=
  x_bin ho hd hg hk hx (show ev e (.const (.pointer none)) = some (.pointer none) from rfl) (fun w' => by
    have h0 : (eqGuard .eql s x (.const (.pointer none)) (.pointer q) (.pointer none)).run P w' = .ok () w' := by simp [eqGuard]
    have h1 : (binOp .eql s (.pointer q) (.pointer none)).run P w' = .ok (.bool q.isNone) w' := by
      simp only [binOp, Sem.run_bind, run_equal_ptrnil hs, Result.andThen_ok]; rfl
    simp only [Sem.run_bind, h0, h1, Result.andThen_ok]) h
theorem x_nenil {c : TypeId} {q : Option Addr} (ho : ops[i]? = some ⟨some d, .binOp .neq s x (.const (.pointer none)) u, t, p, af, g⟩) (hd : Nat.blt d n = true) (hg : Gd ops e g) (hk : okind P (.binOp .neq s x (.const (.pointer none)) u) = 0)
    (hs : P.underlying s = some (.pointer c)) (hx : ev e x = some (.pointer q))
    (h : XL P n ops dr (i :: done) r K ((d, .bool q.isSome) :: e) w) : XL P n ops dr done (i :: r) K e w :=
  x_bin ho hd hg hk hx (show ev e (.const (.pointer none)) = some (.pointer none) from rfl) (fun w' => by
    have h0 : (eqGuard .neq s x (.const (.pointer none)) (.pointer q) (.pointer none)).run P w' = .ok () w' := by simp [eqGuard]
    have h1 : (binOp .neq s (.pointer q) (.pointer none)).run P w' = .ok (.bool q.isSome) w' := by
      simp only [binOp, Sem.run_bind, run_equal_ptrnil hs, Result.andThen_ok]; cases q <;> rfl
    simp only [Sem.run_bind, h0, h1, Result.andThen_ok]) h

/- Truth values. -/
theorem run_equal_bool {q q' : Bool} (hs : P.underlying s = some .bool) (w : World) : (Op.equal s (.bool q) (.bool q')).run P w = .ok (decide (q = q')) w := by
  have : ∀ m, (Op.equalIn (m + 1) s (.bool q) (.bool q')).run P w = .ok (decide (q = q')) w := fun m => by
    simp [Op.equalIn, run_underlying hs]; cases q <;> cases q' <;> rfl
  exact this 9999
theorem x_eqb {q q' : Bool} (ho : ops[i]? = some ⟨some d, .binOp .eql s x y u, t, p, af, g⟩) (hd : Nat.blt d n = true) (hg : Gd ops e g) (hk : okind P (.binOp .eql s x y u) = 0) (hs : P.underlying s = some .bool) (hx : ev e x = some (.bool q)) (hy : ev e y = some (.bool q'))
    (h : XL P n ops dr (i :: done) r K ((d, .bool (decide (q = q'))) :: e) w) : XL P n ops dr done (i :: r) K e w :=
  x_bin ho hd hg hk hx hy (fun w' => by
    have h0 : (eqGuard .eql s x y (.bool q) (.bool q')).run P w' = .ok () w' := by simp [eqGuard]
    have h1 : (binOp .eql s (.bool q) (.bool q')).run P w' = .ok (.bool (decide (q = q'))) w' := by simp only [binOp, Sem.run_bind, run_equal_bool hs, Result.andThen_ok]; rfl
    simp only [Sem.run_bind, h0, h1, Result.andThen_ok]) h
theorem x_neb {q q' : Bool} (ho : ops[i]? = some ⟨some d, .binOp .neq s x y u, t, p, af, g⟩) (hd : Nat.blt d n = true) (hg : Gd ops e g) (hk : okind P (.binOp .neq s x y u) = 0) (hs : P.underlying s = some .bool) (hx : ev e x = some (.bool q)) (hy : ev e y = some (.bool q'))
    (h : XL P n ops dr (i :: done) r K ((d, .bool (decide (q ≠ q'))) :: e) w) : XL P n ops dr done (i :: r) K e w :=
  x_bin ho hd hg hk hx hy (fun w' => by
    have h0 : (eqGuard .neq s x y (.bool q) (.bool q')).run P w' = .ok () w' := by simp [eqGuard]
    have h1 : (binOp .neq s (.bool q) (.bool q')).run P w' = .ok (.bool (decide (q ≠ q'))) w' := by simp only [binOp, Sem.run_bind, run_equal_bool hs, Result.andThen_ok]; cases q <;> cases q' <;> rfl
    simp only [Sem.run_bind, h0, h1, Result.andThen_ok]) h

theorem x_not {q : Bool} (ho : ops[i]? = some ⟨some d, .unOp .not s x, t, p, af, g⟩) (hd : Nat.blt d n = true) (hg : Gd ops e g) (hx : ev e x = some (.bool q))
    (h : XL P n ops dr (i :: done) r K ((d, .bool (!q)) :: e) w) : XL P n ops dr done (i :: r) K e w :=
  xl_pure ho (by simpa [dstOk] using hd) hg (ρ := rh e) (by intro z hZ; simp [Op.operands] at hZ; exact oh1 hx hZ) rfl (v := .bool (!q)) (fun w' => by simp [execOp, rh_of hx, Op.unary]) h
theorem x_notp {q : Prop} [Decidable q] (ho : ops[i]? = some ⟨some d, .unOp .not s x, t, p, af, g⟩) (hd : Nat.blt d n = true) (hg : Gd ops e g) (hx : ev e x = some (.bool (decide q)))
    (h : XL P n ops dr (i :: done) r K ((d, .bool (decide (¬ q))) :: e) w) : XL P n ops dr done (i :: r) K e w :=
  x_not ho hd hg hx (by rw [show (!decide q) = decide (¬ q) by simp]; exact h)
theorem x_neg (ho : ops[i]? = some ⟨some d, .unOp .neg s x, t, p, af, g⟩) (hd : Nat.blt d n = true) (hg : Gd ops e g) (hx : ev e x = some (.int k a))
    (h : XL P n ops dr (i :: done) r K ((d, .int k (k.wrap (0 - a))) :: e) w) : XL P n ops dr done (i :: r) K e w :=
  xl_pure ho (by simpa [dstOk] using hd) hg (ρ := rh e) (by intro z hZ; simp [Op.operands] at hZ; exact oh1 hx hZ) rfl (v := .int k (k.wrap (0 - a))) (fun w' => by simp [execOp, rh_of hx, Op.unary, Op.intArith]) h

/-- A conversion between integer kinds. -/
theorem x_conv {k' : IntKind} {D : TypeDesc} (ho : ops[i]? = some ⟨some d, .convert s u x, t, p, af, g⟩) (hd : Nat.blt d n = true) (hg : Gd ops e g) (hk : okind P (.convert s u x) = 0) (hs : P.underlying s = some D) (hu : P.underlying u = some (.int k')) (hx : ev e x = some (.int k a))
    (h : XL P n ops dr (i :: done) r K ((d, .int k' (k'.wrap a)) :: e) w) : XL P n ops dr done (i :: r) K e w :=
  xl_pure ho (by simpa [dstOk] using hd) hg (ρ := rh e) (by intro z hZ; simp [Op.operands] at hZ; exact oh1 hx hZ) hk (v := .int k' (k'.wrap a))
    (fun w' => by simp [execOp, rh_of hx, convert, run_underlying hs, run_underlying hu, Conv.intToInt]) h

theorem x_nc {q : Addr} (ho : ops[i]? = some ⟨some d, .nilCheck x, t, p, af, g⟩) (hd : Nat.blt d n = true) (hg : Gd ops e g) (hx : ev e x = some (.pointer (some q)))
    (h : XL P n ops dr (i :: done) r K ((d, .pointer (some q)) :: e) w) : XL P n ops dr done (i :: r) K e w :=
  xl_pure ho (by simpa [dstOk] using hd) hg (ρ := rh e) (by intro z hZ; simp [Op.operands] at hZ; exact oh1 hx hZ) rfl (v := .pointer (some q)) (fun w' => by simp [execOp, rh_of hx]) h
/-- of a function value -/
theorem x_ncf {f : Fn} {c1 c2 : Array Value} (ho : ops[i]? = some ⟨some d, .nilCheck x, t, p, af, g⟩) (hd : Nat.blt d n = true) (hg : Gd ops e g) (hx : ev e x = some (.func f c1 c2)) (hf : ∀ s, f ≠ .method s)
    (h : XL P n ops dr (i :: done) r K ((d, .func f c1 c2) :: e) w) : XL P n ops dr done (i :: r) K e w :=
  xl_pure ho (by simpa [dstOk] using hd) hg (ρ := rh e) (by intro z hZ; simp [Op.operands] at hZ; exact oh1 hx hZ) rfl (v := .func f c1 c2) (fun w' => by
    cases f <;> first | (simp [execOp, rh_of hx]; done) | exact absurd rfl (hf _)) h

theorem x_ext {j : Nat} {vs : Array Value} {v : Value} (ho : ops[i]? = some ⟨some d, .extract x j, t, p, af, g⟩) (hd : Nat.blt d n = true) (hg : Gd ops e g) (hx : ev e x = some (.tuple vs)) (hv : vs.toList[j]? = some v)
    (h : XL P n ops dr (i :: done) r K ((d, v) :: e) w) : XL P n ops dr done (i :: r) K e w :=
  xl_pure ho (by simpa [dstOk] using hd) hg (ρ := rh e) (by intro z hZ; simp [Op.operands] at hZ; exact oh1 hx hZ) rfl (v := v) (fun w' => by
    have hv' : vs[j]? = some v := by simpa using hv
    simp [execOp, rh_of hx, Instr.extract, hv']) h

theorem x_mkf {f : Fn} {c1 c2 : Array Operand} {v1 v2 : Array Value} (ho : ops[i]? = some ⟨some d, .makeFunc f c1 c2, t, p, af, g⟩) (hd : Nat.blt d n = true) (hg : Gd ops e g) (hx : ∀ z ∈ c1 ++ c2, ∃ v, ev e z = some v)
    (h1 : c1.map (rh e) = v1) (h2 : c2.map (rh e) = v2) (h : XL P n ops dr (i :: done) r K ((d, .func f v1 v2) :: e) w) : XL P n ops dr done (i :: r) K e w :=
  xl_pure ho (by simpa [dstOk] using hd) hg (ρ := rh e) (by intro z hz; obtain ⟨v, hv⟩ := hx z hz; exact rh_k hv) rfl (v := .func f v1 v2) (fun w' => by simp [execOp, Instr.makeFunc, h1, h2]) h

theorem x_mki {D : TypeDesc} {v : Value} (ho : ops[i]? = some ⟨some d, .makeInterface s x, t, p, af, g⟩) (hd : Nat.blt d n = true) (hg : Gd ops e g) (hs : P.underlying s = some D) (hD : ∀ ms, D ≠ .interface ms) (hx : ev e x = some v)
    (h : XL P n ops dr (i :: done) r K ((d, .iface s v) :: e) w) : XL P n ops dr done (i :: r) K e w :=
  xl_pure ho (by simpa [dstOk] using hd) hg (ρ := rh e) (by intro z hZ; simp [Op.operands] at hZ; exact oh1 hx hZ) rfl (v := .iface s v) (fun w' => by
    simp only [execOp, rh_of hx, Instr.makeInterface, Sem.run_bind, run_underlying hs, Result.andThen_ok]
    cases D <;> first | rfl | exact absurd rfl (hD _)) h

/- Addresses. -/
theorem add_lit {b o k : Nat} : (⟨b, o, none⟩ : Addr).add k = ⟨b, o + k, none⟩ := by unfold Addr.add; split <;> simp_all

/-- Where a field lies. -/
def fieldOff (P : Program) (s : TypeId) (f : Nat) : Option Nat :=
  match P.underlying s with
  | some (.struct fs) => match fs[f]? with
    | some fl => match P.info? fl.type with
      | some inf => if inf.size = 0 then none else some fl.offset
      | none => none
    | none => none
  | _ => none

theorem run_fieldAt {f b o k : Nat} (hf : fieldOff P s f = some k) (w : World) : (Instr.fieldAt s (.pointer (some ⟨b, o, none⟩)) f).run P w = .ok (.pointer (some ⟨b, o + k, none⟩)) w := by
  unfold fieldOff at hf
  split at hf
  · rename_i fs hs
    split at hf
    · rename_i fl hfl
      split at hf
      · rename_i inf hinf
        split at hf
        · cases hf
        · rename_i h0
          cases hf
          simp [Instr.fieldAt, run_underlying hs, hfl, Instr.sureAddr, fieldPlace, sizeOf, typeInfo, hinf, h0, add_lit]
      · cases hf
    · cases hf
  · cases hf

theorem x_fldk {f b o k : Nat} (ho : ops[i]? = some ⟨some d, .fieldAddr s x f, t, p, af, g⟩) (hd : Nat.blt d n = true) (hg : Gd ops e g) (hf : fieldOff P s f = some k) (hx : ev e x = some (.pointer (some ⟨b, o, none⟩)))
    (h : XL P n ops dr (i :: done) r K ((d, .pointer (some ⟨b, o + k, none⟩)) :: e) w) : XL P n ops dr done (i :: r) K e w :=
  xl_pure ho (by simpa [dstOk] using hd) hg (ρ := rh e) (by intro z hZ; simp [Op.operands] at hZ; exact oh1 hx hZ) rfl (v := .pointer (some ⟨b, o + k, none⟩)) (fun w' => by simp only [execOp, rh_of hx, Sem.run_bind, run_fieldAt hf]; rfl) h
theorem x_fld {f b k : Nat} (ho : ops[i]? = some ⟨some d, .fieldAddr s x f, t, p, af, g⟩) (hd : Nat.blt d n = true) (hg : Gd ops e g) (hf : fieldOff P s f = some k) (hx : ev e x = some (.pointer (some ⟨b, 0, none⟩)))
    (h : XL P n ops dr (i :: done) r K ((d, .pointer (some ⟨b, k, none⟩)) :: e) w) : XL P n ops dr done (i :: r) K e w := x_fldk ho hd hg hf hx (by rw [Nat.zero_add]; exact h)

/-- The address of a slice's element. -/
theorem x_idx {c : TypeId} {b o len cap z : Nat} (ho : ops[i]? = some ⟨some d, .indexAddr s x y, t, p, af, g⟩) (hd : Nat.blt d n = true) (hg : Gd ops e g) (hs : P.underlying s = some (.slice c)) (hz : (P.info? c).map (·.size) = some z)
    (hx : ev e x = some (.slice (some ⟨b, o, none⟩) len cap)) (hy : ev e y = some (.int k a)) (ha : 0 ≤ a ∧ a < len)
    (h : XL P n ops dr (i :: done) r K ((d, .pointer (some ⟨b, o + a.toNat * z, none⟩)) :: e) w) : XL P n ops dr done (i :: r) K e w :=
  xl_pure ho (by simpa [dstOk] using hd) hg (ρ := rh e) (by intro z hZ; simp [Op.operands] at hZ; exact oh2 hx hy hZ) rfl (v := .pointer (some ⟨b, o + a.toNat * z, none⟩)) (fun w' => by
    cases hi : P.info? c with
    | none => simp [hi] at hz
    | some inf =>
      have hsz : inf.size = z := by simpa [hi] using hz
      simp [execOp, rh_of hx, rh_of hy, Instr.indexAt, asIntOf, run_underlying hs, ha.1, ha.2, sizeOf, typeInfo, hi, hsz, add_lit]) h
/-- .. of one cell -/
theorem x_idx1 {c : TypeId} {b o len cap : Nat} (ho : ops[i]? = some ⟨some d, .indexAddr s x y, t, p, af, g⟩) (hd : Nat.blt d n = true) (hg : Gd ops e g) (hs : P.underlying s = some (.slice c)) (hz : (P.info? c).map (·.size) = some 1)
    (hx : ev e x = some (.slice (some ⟨b, o, none⟩) len cap)) (hy : ev e y = some (.int k a)) (ha : 0 ≤ a ∧ a < len)
    (h : XL P n ops dr (i :: done) r K ((d, .pointer (some ⟨b, o + a.toNat, none⟩)) :: e) w) : XL P n ops dr done (i :: r) K e w := x_idx ho hd hg hs hz hx hy ha (by rw [Nat.mul_one]; exact h)

theorem x_len {c : TypeId} {q : Option Addr} {len cap : Nat} (ho : ops[i]? = some ⟨some d, .call ⟨.builtin .len, #[x], #[s]⟩, t, p, af, g⟩) (hd : Nat.blt d n = true) (hg : Gd ops e g) (hk : okind P (.call ⟨.builtin .len, #[x], #[s]⟩) = 0) (hs : P.underlying s = some (.slice c))
    (hx : ev e x = some (.slice q len cap)) (h : XL P n ops dr (i :: done) r K ((d, .int .i64 len) :: e) w) : XL P n ops dr done (i :: r) K e w :=
  xl_pure ho (by simpa [dstOk] using hd) hg (ρ := rh e) (by intro z hZ; simp [Op.operands, Call.operands] at hZ; exact oh1 hx hZ) hk (v := .int .i64 len)
    (fun w' => by simp [execOp, resolve, invoke, builtin, rh_of hx, Builtin.len_, run_underlying hs, goInt]) h
theorem x_lens {q : ByteArray} (ho : ops[i]? = some ⟨some d, .call ⟨.builtin .len, #[x], #[s]⟩, t, p, af, g⟩) (hd : Nat.blt d n = true) (hg : Gd ops e g) (hk : okind P (.call ⟨.builtin .len, #[x], #[s]⟩) = 0) (hs : P.underlying s = some .string)
    (hx : ev e x = some (.string q)) (h : XL P n ops dr (i :: done) r K ((d, .int .i64 q.size) :: e) w) : XL P n ops dr done (i :: r) K e w :=
  xl_pure ho (by simpa [dstOk] using hd) hg (ρ := rh e) (by intro z hZ; simp [Op.operands, Call.operands] at hZ; exact oh1 hx hZ) hk (v := .int .i64 q.size)
    (fun w' => by simp [execOp, resolve, invoke, builtin, rh_of hx, Builtin.len_, run_underlying hs, goInt]) h

/-- The smaller, the greater one. -/
theorem x_min2 {as' : Array TypeId} (ho : ops[i]? = some ⟨some d, .call ⟨.builtin .min, #[x, y], as'⟩, t, p, af, g⟩) (hd : Nat.blt d n = true) (hg : Gd ops e g) (hx : ev e x = some (.int k a)) (hy : ev e y = some (.int k b))
    (h : XL P n ops dr (i :: done) r K ((d, .int k (min a b)) :: e) w) : XL P n ops dr done (i :: r) K e w :=
  xl_pure ho (by simpa [dstOk] using hd) hg (ρ := rh e) (by intro z hZ; simp [Op.operands, Call.operands] at hZ; exact oh2 hx hy hZ) rfl (v := .int k (min a b))
    (fun w' => by simp [execOp, resolve, invoke, builtin, rh_of hx, rh_of hy, Builtin.min_, Builtin.min2]; split <;> omega) h
theorem x_max2 {as' : Array TypeId} (ho : ops[i]? = some ⟨some d, .call ⟨.builtin .max, #[x, y], as'⟩, t, p, af, g⟩) (hd : Nat.blt d n = true) (hg : Gd ops e g) (hx : ev e x = some (.int k a)) (hy : ev e y = some (.int k b))
    (h : XL P n ops dr (i :: done) r K ((d, .int k (max a b)) :: e) w) : XL P n ops dr done (i :: r) K e w :=
  xl_pure ho (by simpa [dstOk] using hd) hg (ρ := rh e) (by intro z hZ; simp [Op.operands, Call.operands] at hZ; exact oh2 hx hy hZ) rfl (v := .int k (max a b))
    (fun w' => by simp [execOp, resolve, invoke, builtin, rh_of hx, rh_of hy, Builtin.max_, Builtin.max2]; split <;> omega) h

/- Cuts of a slice: 'x[lo:hi]'. -/
def optInt (e : Env) : Option Operand → Int → Prop
  | none, _ => True
  | some z, v => ∃ k, ev e z = some (.int k v)

theorem run_bound {k : IntKind} {v : Int} {y : Nat} {c : BoundsCode} (h0 : 0 ≤ v ∧ v ≤ y) (w : World) : (Instr.sliceBound (.int k v) y c).run P w = .ok v.toNat w := by
  simp [Instr.sliceBound, asIntOf, h0.1, h0.2]

theorem x_cut {c : TypeId} {b o len cap z : Nat} {lo hi : Int} {kl kh : IntKind} {l h' : Operand} (ho : ops[i]? = some ⟨some d, .slice s x (some l) (some h') none, t, p, af, g⟩) (hd : Nat.blt d n = true) (hg : Gd ops e g) (hs : P.underlying s = some (.slice c)) (hz : (P.info? c).map (·.size) = some z)
    (hx : ev e x = some (.slice (some ⟨b, o, none⟩) len cap)) (hl : ev e l = some (.int kl lo)) (hh : ev e h' = some (.int kh hi)) (hb : 0 ≤ lo ∧ lo ≤ hi ∧ hi ≤ cap) (hlc : lo < cap)
    (h : XL P n ops dr (i :: done) r K ((d, .slice (some ⟨b, o + lo.toNat * z, none⟩) (hi.toNat - lo.toNat) (cap - lo.toNat)) :: e) w) : XL P n ops dr done (i :: r) K e w :=
  xl_pure ho (by simpa [dstOk] using hd) hg (ρ := rh e) (by intro z hZ; simp [Op.operands] at hZ; exact oh3 hx hl hh hZ) rfl
    (v := .slice (some ⟨b, o + lo.toNat * z, none⟩) (hi.toNat - lo.toNat) (cap - lo.toNat)) (fun w' => by
      cases hi' : P.info? c with
      | none => simp [hi'] at hz
      | some inf =>
        have hsz : inf.size = z := by simpa [hi'] using hz
        have h1 := run_bound (P := P) (k := kh) (v := hi) (y := cap) (c := .sliceAcap) ⟨by omega, hb.2.2⟩ w'
        have h2 := run_bound (P := P) (k := kl) (v := lo) (y := hi.toNat) (c := .sliceB) ⟨hb.1, by omega⟩ w'
        have hne : ¬ cap = lo.toNat := by omega
        simp [execOp, rh_of hx, rh_of hl, rh_of hh, Instr.sliceAt, Instr.slice, Instr.sliceBounds, run_underlying hs, h1, h2, sizeOf, typeInfo, hi', hsz, hne, add_lit]) h
/-- x[:hi] -/
theorem x_cutH {c : TypeId} {q : Option Addr} {len cap : Nat} {hi : Int} {kh : IntKind} {h' : Operand} (ho : ops[i]? = some ⟨some d, .slice s x none (some h') none, t, p, af, g⟩) (hd : Nat.blt d n = true) (hg : Gd ops e g) (hs : P.underlying s = some (.slice c)) (hz : ((P.info? c).map (·.size)).isSome = true)
    (hx : ev e x = some (.slice q len cap)) (hq : ∀ a, q = some a → a.spot = none) (hh : ev e h' = some (.int kh hi)) (hb : 0 ≤ hi ∧ hi ≤ cap)
    (h : XL P n ops dr (i :: done) r K ((d, .slice q hi.toNat cap) :: e) w) : XL P n ops dr done (i :: r) K e w :=
  xl_pure ho (by simpa [dstOk] using hd) hg (ρ := rh e) (by intro z hZ; simp [Op.operands] at hZ; exact oh2 hx hh hZ) rfl
    (v := .slice q hi.toNat cap) (fun w' => by
      cases hi' : P.info? c with
      | none => simp [hi'] at hz
      | some inf =>
        have h1 := run_bound (P := P) (k := kh) (v := hi) (y := cap) (c := .sliceAcap) hb w'
        cases q with
        | none => simp [execOp, rh_of hx, rh_of hh, Instr.sliceAt, Instr.slice, Instr.sliceBounds, run_underlying hs, h1, sizeOf, typeInfo, hi']
        | some a => simp [execOp, rh_of hx, rh_of hh, Instr.sliceAt, Instr.slice, Instr.sliceBounds, run_underlying hs, h1, sizeOf, typeInfo, hi', Addr.add]) h
/-- x[lo:] -/
theorem x_cutL {c : TypeId} {b o len cap z : Nat} {lo : Int} {kl : IntKind} {l : Operand} (ho : ops[i]? = some ⟨some d, .slice s x (some l) none none, t, p, af, g⟩) (hd : Nat.blt d n = true) (hg : Gd ops e g) (hs : P.underlying s = some (.slice c)) (hz : (P.info? c).map (·.size) = some z)
    (hx : ev e x = some (.slice (some ⟨b, o, none⟩) len cap)) (hl : ev e l = some (.int kl lo)) (hb : 0 ≤ lo ∧ lo ≤ len) (hlc : lo < cap)
    (h : XL P n ops dr (i :: done) r K ((d, .slice (some ⟨b, o + lo.toNat * z, none⟩) (len - lo.toNat) (cap - lo.toNat)) :: e) w) : XL P n ops dr done (i :: r) K e w :=
  xl_pure ho (by simpa [dstOk] using hd) hg (ρ := rh e) (by intro z hZ; simp [Op.operands] at hZ; exact oh2 hx hl hZ) rfl
    (v := .slice (some ⟨b, o + lo.toNat * z, none⟩) (len - lo.toNat) (cap - lo.toNat)) (fun w' => by
      cases hi' : P.info? c with
      | none => simp [hi'] at hz
      | some inf =>
        have hsz : inf.size = z := by simpa [hi'] using hz
        have h2 := run_bound (P := P) (k := kl) (v := lo) (y := len) (c := .sliceB) hb w'
        have hne : ¬ cap = lo.toNat := by omega
        simp [execOp, rh_of hx, rh_of hl, Instr.sliceAt, Instr.slice, Instr.sliceBounds, run_underlying hs, h2, sizeOf, typeInfo, hi', hsz, hne, add_lit]) h
/-- arr[:], the array at an address -/
theorem x_cutA {c : TypeId} {q : Addr} {m : Nat} (ho : ops[i]? = some ⟨some d, .slice s x none none none, t, p, af, g⟩) (hd : Nat.blt d n = true) (hg : Gd ops e g) (hs : P.underlying s = some (.array m c)) (hz : ((P.info? c).map (·.size)).isSome = true) (hm : m ≠ 0)
    (hx : ev e x = some (.pointer (some q))) (hq : q.spot = none)
    (h : XL P n ops dr (i :: done) r K ((d, .slice (some q) m m) :: e) w) : XL P n ops dr done (i :: r) K e w :=
  xl_pure ho (by simpa [dstOk] using hd) hg (ρ := rh e) (by intro z hZ; simp [Op.operands] at hZ; exact oh1 hx hZ) rfl (v := .slice (some q) m m) (fun w' => by
      cases hi' : P.info? c with
      | none => simp [hi'] at hz
      | some inf => simp [execOp, rh_of hx, Instr.sliceAt, Instr.sliceBounds, Instr.sureAddr, run_underlying hs, sizeOf, typeInfo, hi', hm, Addr.add]) h

/-- A struct or an array out of its parts, by value. -/
theorem x_build {ps : Array (Nat × Operand)} {vs : List Value} {v : Value} (ho : ops[i]? = some ⟨some d, .build s ps, t, p, af, g⟩) (hd : Nat.blt d n = true) (hg : Gd ops e g) (hx : evs e (ps.toList.map (·.2)) = some vs)
    (hr : ∀ w', (Instr.build s ((ps.toList.map (·.1)).zip vs).toArray).run P w' = .ok v w')
    (h : XL P n ops dr (i :: done) r K ((d, v) :: e) w) : XL P n ops dr done (i :: r) K e w := by
  obtain ⟨hk, hm⟩ := evs_mem hx
  refine xl_pure ho (by simpa [dstOk] using hd) hg (ρ := rh e) (by intro z hz; exact hk z (by simpa [Op.operands] using hz)) rfl (v := v) (fun w' => ?_) h
  have e1 : (ps.map fun (j, z) => (j, rh e z)) = ((ps.toList.map (·.1)).zip vs).toArray := by
    apply Array.ext'
    rw [← hm]
    simp only [Array.toList_map]
    generalize ps.toList = q
    induction q with
    | nil => rfl
    | cons x q ih => obtain ⟨a, b⟩ := x; simp only [List.map_cons, List.zip_cons_cons, ih]
  simp only [execOp, e1, Sem.run_bind, hr]; rfl

end
end Go.Proofs.Ytekilljcoplacaa.X
