/- Generic ground: the rules of the operations that read, write and make memory (rows of cells). -/
import Derived.Test.YtekilljcoplacaaXPure
namespace Go.Proofs.Ytekilljcoplacaa.X
set_option linter.unusedVariables false
set_option linter.unusedSimpArgs false

/-- Block 'b' is a row of these cells. -/
def blk (b : Nat) (l : List Value) (T : TypeId) : Assn := pt b (.cells l.toArray T (0, 0))

/-- From 'a' on stand these values. -/
def Rd (w : World) (a : Addr) (cs : List Value) : Prop := ∀ j u, cs[j]? = some u → w.cell? (a.add j) = some u

def aggB (P : Program) (t : TypeId) : Bool := match P.underlying t with | some (.struct _) | some (.array _ _) => true | _ => false
def szB (P : Program) (t : TypeId) : Nat := ((P.info? t).map (·.size)).getD 0
/-- a scalar of one cell -/
def oneB (P : Program) (t : TypeId) : Bool := (P.underlying t).isSome && !aggB P t && (P.info? t).any (·.size == 1)
/-- a struct or an array of so many cells -/
def manyB (P : Program) (t : TypeId) (z : Nat) : Bool := aggB P t && (P.info? t).any (·.size == z)
/-- the zero value's cells -/
def zeroOf (P : Program) (t : TypeId) : Option (Array Value) := (P.info? t).bind fun i => i.zero.map Value.cells

/-- the same value, many times -/
def rep (n : Nat) (v : Value) : List Value := List.replicate n v
@[simp] theorem rep_length (n : Nat) (v : Value) : (rep n v).length = n := List.length_replicate ..

def Loads (P : Program) (w : World) (t : TypeId) (a : Addr) (v : Value) : Prop := (loadVar t a).run P w = .ok v w

section
variable {P : Program} {w : World} {t : TypeId} {a : Addr} {v : Value} {g : Gh} {L R : List Assn} {b o : Nat} {l : List Value} {T : TypeId}

theorem run_isAgg {x : Bool} (h : aggB P t = x) (hs : (P.underlying t).isSome = true) (w : World) : (isAgg t).run P w = .ok x w := by
  cases hu : P.underlying t with
  | none => rw [hu] at hs; cases hs
  | some d =>
    unfold aggB at h; rw [hu] at h
    unfold isAgg
    rw [Sem.run_bind, run_underlying hu w]
    cases d <;> simp_all

theorem oneB_spec (h : oneB P t = true) : (P.underlying t).isSome = true ∧ aggB P t = false ∧ ∃ i, P.info? t = some i ∧ i.size = 1 := by
  simp only [oneB, Bool.and_eq_true, Bool.not_eq_true', Option.any_eq_true] at h
  obtain ⟨⟨h1, h2⟩, i, hi, h3⟩ := h
  exact ⟨h1, h2, i, hi, by simpa using h3⟩
theorem manyB_spec {z : Nat} (h : manyB P t z = true) : (P.underlying t).isSome = true ∧ aggB P t = true ∧ ∃ i, P.info? t = some i ∧ i.size = z := by
  simp only [manyB, Bool.and_eq_true, Option.any_eq_true] at h
  obtain ⟨h1, i, hi, h3⟩ := h
  refine ⟨?_, h1, i, hi, by simpa using h3⟩
  unfold aggB at h1
  cases hu : P.underlying t with
  | none => rw [hu] at h1; cases h1
  | some d => rfl

theorem cell_blk (h : Sat g L w) (p : Pick (blk b l T) L R) : w.cell? ⟨b, o, none⟩ = l[o]? := by
  rw [cell_of_row w b o _ _ _ (h.pt p)]; simp
theorem Rd.of_blk (h : Sat g L w) (p : Pick (blk b l T) L R) : Rd w ⟨b, o, none⟩ (l.drop o) := fun j u hu => by
  rw [add_lit, cell_blk h p]; simpa [List.getElem?_drop] using hu
theorem Rd.take {cs : List Value} (h : Rd w a cs) (m : Nat) : Rd w a (cs.take m) := fun j u hu => by
  rw [List.getElem?_take] at hu
  split at hu
  · exact h j u hu
  · cases hu
theorem Rd.drop {cs : List Value} {b o : Nat} (h : Rd w ⟨b, o, none⟩ cs) (m : Nat) : Rd w ⟨b, o + m, none⟩ (cs.drop m) := fun j u hu => by
  rw [add_lit, Nat.add_assoc, ← add_lit]; exact h (m + j) u (by simpa [List.getElem?_drop] using hu)
theorem Rd.nil {a : Addr} : Rd w a [] := fun j u hu => by simp at hu
theorem Rd.one {b o : Nat} {u : Value} (h : w.cell? ⟨b, o, none⟩ = some u) : Rd w ⟨b, o, none⟩ [u] := fun j x hx => by
  rw [add_lit]
  cases j with
  | zero => simp at hx; subst hx; exact h
  | succ j => simp at hx

theorem Loads.one (h : oneB P t = true) (hc : w.cell? a = some v) : Loads P w t a v := by
  obtain ⟨h1, h2, _⟩ := oneB_spec h
  unfold Loads loadVar
  rw [Sem.run_bind, run_isAgg h2 h1]
  simp [load, Sem.run, hc]
theorem Loads.many {z : Nat} {cs : List Value} (h : manyB P t z = true) (hz : cs.length = z) (hr : Rd w a cs) : Loads P w t a (.agg cs.toArray) := by
  obtain ⟨h1, h2, i, hi, hs⟩ := manyB_spec h
  unfold Loads loadVar
  rw [Sem.run_bind, run_isAgg h2 h1]
  have hl := run_loadCells_list (P := P) w a cs hr
  simp [sizeOf, typeInfo, hi, hs, ← hz, hl]

/-- of a row that is a part of what is known -/
theorem Loads.blk1 (h : oneB P t = true) (hw : Sat g L w) (p : Pick (blk b l T) L R) (hv : l[o]? = some v) : Loads P w t ⟨b, o, none⟩ v := Loads.one h (by rw [cell_blk hw p]; exact hv)
theorem Loads.blkN {z : Nat} {cs : List Value} (h : manyB P t z = true) (hw : Sat g L w) (p : Pick (blk b l T) L R) (hv : (l.drop o).take z = cs) (hz : cs.length = z) : Loads P w t ⟨b, o, none⟩ (.agg cs.toArray) :=
  Loads.many h hz (by rw [← hv]; exact (Rd.of_blk hw p).take z)
/-- the whole row -/
theorem Loads.blkA {z : Nat} (h : manyB P t z = true) (hw : Sat g L w) (p : Pick (blk b l T) L R) (hz : l.length = z) : Loads P w t ⟨b, 0, none⟩ (.agg l.toArray) :=
  Loads.many h hz (by have := Rd.of_blk (o := 0) hw p; simpa using this)

/-- Values of one cell. -/
def Ones (cs : List Value) : Prop := ∀ u ∈ cs, u.oneCell' = true

theorem setRow_eq (h : w.heap[b]? = some (.cells l.toArray T (0, 0))) (c : Array Value) : w.setRow b c = { w with heap := w.heap.setIfInBounds b (.cells c T (0, 0)) } := by
  have hlt := (Array.getElem?_eq_some_iff.1 h).1
  have hget : w.heap[b] = .cells l.toArray T (0, 0) := by simpa [Array.getElem?_eq_getElem hlt] using h
  unfold World.setRow
  congr 1
  apply Array.ext
  · simp
  · intro i h1 h2
    by_cases e : b = i
    · subst e; simp [Array.getElem_modify, hget]
    · rw [Array.getElem_modify, if_neg e, Array.getElem_setIfInBounds, if_neg e]

theorem Sat.setBlk (h : Sat g L w) (p : Pick (blk b l T) L R) (l' : List Value) : Sat g (blk b l' T :: R) (w.setRow b l'.toArray) := by
  have h1 := h.pick p
  rw [setRow_eq h1.pt_head]
  exact h1.set _

theorem run_storeBlk (h : Sat g L w) (p : Pick (blk b l T) L R) {cs : List Value} (h1 : Ones cs) (hl : o + cs.length ≤ l.length) :
    (storeCells ⟨b, o, none⟩ cs).run P w = .ok () (w.setRow b (l.take o ++ cs ++ l.drop (o + cs.length)).toArray) := by
  have := run_storeCells_at P b o T cs 0 l.toArray w (h.pt p) (by simpa using hl) h1
  simpa using this

end

section
variable {P : Program} {n : Nat} {ops : Array Oper} {dr : Bool} {done r : List Nat} {K : Env → World → Prop} {e : Env} {w : World} {i d : Nat} {t : TypeId} {p : String} {af : Array Edge} {g : Option (Nat × Bool)}
variable {G : Gh} {L R : List Assn} {s T : TypeId} {x y : Operand} {b o : Nat} {l : List Value} {v : Value}

/-- Nothing is to be read again. -/
theorem noPend {dst : Option Tmp} {v : Value} {w' : World} (hp : pend P ops dr done i = []) : ∀ q ∈ pend P ops dr done i, ChkE P n ops q (putE e dst v) w' := fun q hq => by rw [hp] at hq; cases hq

theorem pend_one {q q0 : Nat} (h : pend P ops dr done i = [q0]) (hq : q ∈ pend P ops dr done i) : q = q0 := by rw [h] at hq; simpa using hq
theorem pend_two {q q0 q1 : Nat} (h : pend P ops dr done i = [q0, q1]) (hq : q ∈ pend P ops dr done i) : q = q0 ∨ q = q1 := by rw [h] at hq; simpa using hq

/-- A read that is read again. -/
theorem chk_ld {q d : Nat} {a : Addr} {gq : Option (Nat × Bool)} {pq : String} {aq : Array Edge} {tq : TypeId} (ho : ops[q]? = some ⟨some d, .load s x, tq, pq, aq, gq⟩) (hx : ev e x = some (.pointer (some a))) (hv : get e d = some v) (hl : Loads P w s a v) :
    ChkE P n ops q e w := by
  intro o' ho' a' ha hwant
  have : o' = ⟨some d, .load s x, tq, pq, aq, gq⟩ := Option.some.inj (ho'.symm.trans ho)
  subst this
  refine ⟨v, ?_, fun d' hd' => ?_⟩
  · have hxa := ha.ev hx
    unfold Loads at hl
    simp only [execOp, hxa, Instr.loadAt, Instr.sureAddr, Sem.run_bind, Sem.run_pure, Result.andThen_ok, hl]
  · cases hd'; exact ha.get d v hv
/-- .. whose guard said no. -/
theorem chk_not {q j dj : Nat} {want b : Bool} {oq : Oper} (ho : ops[q]? = some oq) (hg : oq.guard = some (j, want)) (hj : (ops[j]?).bind (·.dst) = some dj) (hv : get e dj = some (.bool b)) (hb : b = !want) : ChkE P n ops q e w := by
  intro o' ho' a' ha hwant
  have : o' = oq := Option.some.inj (ho'.symm.trans ho)
  subst this
  simp [Region.wanted, hg, yielded_of ha hj hv, hb] at hwant

theorem x_ld {a : Addr} (ho : ops[i]? = some ⟨some d, .load s x, t, p, af, g⟩) (hd : Nat.blt d n = true) (hg : Gd ops e g) (hx : ev e x = some (.pointer (some a))) (hl : Loads P w s a v)
    (h : XL P n ops dr (i :: done) r K ((d, v) :: e) w) : XL P n ops dr done (i :: r) K e w :=
  xl_read ho (by simpa [dstOk] using hd) hg (ρ := rh e) (by intro z hZ; simp [Op.operands] at hZ; exact oh1 hx hZ) rfl (v := v)
    (by unfold Loads at hl; simp only [execOp, rh_of hx, Instr.loadAt, Instr.sureAddr, Sem.run_bind, Sem.run_pure, Result.andThen_ok, hl]) h

/-- A store of one cell. -/
theorem x_st1P {l' : List Value} (ho : ops[i]? = some ⟨none, .store s x y, t, p, af, g⟩) (hg : Gd ops e g) (hx : ev e x = some (.pointer (some ⟨b, o, none⟩))) (hy : ev e y = some v) (h1 : oneB P s = true) (hv : v.oneCell' = true)
    (hw : Sat G L w) (hp : Pick (blk b l T) L R) (hol : Nat.blt o l.length = true) (hl' : l.set o v = l')
    (hpd : ∀ w', Sat G (blk b l' T :: R) w' → ∀ q ∈ pend P ops dr done i, ChkE P n ops q e w')
    (h : ∀ w', Sat G (blk b l' T :: R) w' → XL P n ops dr (i :: done) r K e w') : XL P n ops dr done (i :: r) K e w := by
  subst hl'
  have hol' : o < l.length := by simpa using hol
  have hs : Sat G (blk b (l.set o v) T :: R) (w.setRow b (l.set o v).toArray) := hw.setBlk hp _
  refine xl_effu ho rfl hg (ρ := rh e) (by intro z hZ; simp [Op.operands] at hZ; exact oh2 hx hy hZ) rfl (w' := w.setRow b (l.set o v).toArray) ?_ (hpd _ hs) (h _ hs)
  obtain ⟨_, _, inf, hi, hsz⟩ := oneB_spec h1
  have hcs : v.cells = #[v] := by cases v <;> first | rfl | (simp [Value.oneCell'] at hv)
  have hst := run_storeBlk (P := P) (o := o) (cs := [v]) hw hp (fun u hu => by simp at hu; subst hu; exact hv) (by simp; omega)
  have hset : l.take o ++ [v] ++ l.drop (o + [v].length) = l.set o v := by
    rw [List.set_eq_take_append_cons_drop, if_pos hol']; simp
  rw [hset] at hst
  simp only [execOp, rh_of hx, rh_of hy, Instr.storeAt, Instr.sureAddr, storeVar, Sem.run_bind, Sem.run_pure, Result.andThen_ok, sizeOf, typeInfo, program, hi, Sem.run, hcs, hsz]
  simp [hst]

theorem x_st1 {l' : List Value} (ho : ops[i]? = some ⟨none, .store s x y, t, p, af, g⟩) (hg : Gd ops e g) (hx : ev e x = some (.pointer (some ⟨b, o, none⟩))) (hy : ev e y = some v) (h1 : oneB P s = true) (hv : v.oneCell' = true)
    (hw : Sat G L w) (hp : Pick (blk b l T) L R) (hol : Nat.blt o l.length = true) (hl' : l.set o v = l') (hpd : pend P ops dr done i = [])
    (h : ∀ w', Sat G (blk b l' T :: R) w' → XL P n ops dr (i :: done) r K e w') : XL P n ops dr done (i :: r) K e w :=
  x_st1P ho hg hx hy h1 hv hw hp hol hl' (fun w' _ => noPend (dst := none) (v := undef) hpd) h

/-- A store of many cells: a struct or an array. -/
theorem x_stN {z : Nat} {cs l' : List Value} (ho : ops[i]? = some ⟨none, .store s x y, t, p, af, g⟩) (hg : Gd ops e g) (hx : ev e x = some (.pointer (some ⟨b, o, none⟩))) (hy : ev e y = some (.agg cs.toArray)) (h1 : manyB P s z = true) (hz : cs.length = z) (hv : Ones cs)
    (hw : Sat G L w) (hp : Pick (blk b l T) L R) (hol : o + z ≤ l.length) (hl' : l.take o ++ cs ++ l.drop (o + z) = l') (hpd : pend P ops dr done i = [])
    (h : ∀ w', Sat G (blk b l' T :: R) w' → XL P n ops dr (i :: done) r K e w') : XL P n ops dr done (i :: r) K e w := by
  subst hl'
  refine xl_effu ho rfl hg (ρ := rh e) (by intro z hZ; simp [Op.operands] at hZ; exact oh2 hx hy hZ) rfl (w' := w.setRow b (l.take o ++ cs ++ l.drop (o + z)).toArray) ?_ (noPend (dst := none) hpd) (h _ (hw.setBlk hp _))
  obtain ⟨_, _, inf, hi, hsz⟩ := manyB_spec h1
  have hst := run_storeBlk (P := P) (o := o) (cs := cs) hw hp hv (by omega)
  rw [hz] at hst
  simp only [execOp, rh_of hx, rh_of hy, Instr.storeAt, Instr.sureAddr, storeVar, Sem.run_bind, Sem.run_pure, Result.andThen_ok, sizeOf, typeInfo, program, hi, Sem.run, Value.cells, hsz]
  simp [hz, hst]

/-- A new variable of zeros. -/
theorem x_alloc {c : List Value} (ho : ops[i]? = some ⟨some d, .alloc s, t, p, af, g⟩) (hd : Nat.blt d n = true) (hg : Gd ops e g) (hz : zeroOf P s = some c.toArray) (hw : Sat G L w) (hpd : pend P ops dr done i = [])
    (h : ∀ w' b, Sat G (blk b c s :: L) w' → XL P n ops dr (i :: done) r K ((d, .pointer (some ⟨b, 0, none⟩)) :: e) w') : XL P n ops dr done (i :: r) K e w := by
  refine xl_eff ho (by simpa [dstOk] using hd) hg (ρ := rh e) (by intro z hZ; simp [Op.operands] at hZ) rfl (v := .pointer (some ⟨w.heap.size, 0, none⟩)) (w' := { w with heap := w.heap.push (.cells c.toArray s (0, 0)) }) ?_ (noPend hpd) (h _ _ (hw.push _))
  unfold zeroOf at hz
  cases hi : P.info? s with
  | none => simp [hi] at hz
  | some inf =>
    cases hzz : inf.zero with
    | none => simp [hi, hzz] at hz
    | some z =>
      have hc : z.cells = c.toArray := by simpa [hi, hzz] using hz
      simp [execOp, Instr.alloc, zeroValue, typeInfo, hi, hzz, newVar, newRow, hc]

/-- A new variable of a value. -/
theorem x_box {c : List Value} (ho : ops[i]? = some ⟨some d, .box s x, t, p, af, g⟩) (hd : Nat.blt d n = true) (hg : Gd ops e g) (hx : ev e x = some v) (hc : v.cells = c.toArray) (hw : Sat G L w) (hpd : pend P ops dr done i = [])
    (h : ∀ w' b, Sat G (blk b c s :: L) w' → XL P n ops dr (i :: done) r K ((d, .pointer (some ⟨b, 0, none⟩)) :: e) w') : XL P n ops dr done (i :: r) K e w := by
  refine xl_eff ho (by simpa [dstOk] using hd) hg (ρ := rh e) (by intro z hZ; simp [Op.operands] at hZ; exact oh1 hx hZ) rfl (v := .pointer (some ⟨w.heap.size, 0, none⟩)) (w' := { w with heap := w.heap.push (.cells c.toArray s (0, 0)) }) ?_ (noPend hpd) (h _ _ (hw.push _))
  simp [execOp, rh_of hx, Instr.box, newVar, newRow, hc]

theorem fill_one {z : Nat} {cs c : Array Value} {v : Value} (hv : v.cells = cs) (h1 : cs.size = z) (h2 : c.size = z) : Instr.fill (fun i => some (i * z, z)) c [(0, v)] = some cs := by
  simp only [Instr.fill, Nat.zero_mul, hv, h1, h2, Nat.zero_add]
  simp
  apply Array.ext'
  have key : ∀ (l : List Value) (k : Nat) (c : Array Value), k + l.length = c.size →
      ((l.zipIdx k).foldl (fun (cs : Array Value) (x : Value × Nat) => cs.setIfInBounds x.2 x.1) c).toList = c.toList.take k ++ l := by
    intro l
    induction l with
    | nil => intro k c hk; simp at hk ⊢; rw [List.take_of_length_le (by simp [hk])]
    | cons u l ih =>
      intro k c hk
      simp only [List.zipIdx_cons, List.foldl_cons]
      rw [ih (k + 1) _ (by simp at hk ⊢; omega)]
      simp at hk
      rw [List.take_succ_eq_append_getElem (by simp; omega)]
      simp [List.take_set_of_le (Nat.le_refl k)]
  have := key cs.toList 0 c (by simp [h1, h2])
  have e : Array.foldl (fun (cs : Array Value) (x : Value × Nat) => cs.setIfInBounds x.2 x.1) c cs.zipIdx 0 cs.size = List.foldl (fun (cs : Array Value) (x : Value × Nat) => cs.setIfInBounds x.2 x.1) c cs.toList.zipIdx := by
    rw [← Array.toList_zipIdx, Array.foldl_toList]; simp
  rw [e]; simpa using this

/-- A slice literal of one element. -/
theorem x_bs1P {c : TypeId} {z : Nat} {cs : List Value} (ho : ops[i]? = some ⟨some d, .buildSlice s 1 #[(0, x)], t, p, af, g⟩) (hd : Nat.blt d n = true) (hg : Gd ops e g) (hs : P.underlying s = some (.slice c)) (hzc : (P.info? c).map (·.size) = some z) (hz0 : (zeroOf P c).map (·.size) = some z) (hz : 0 < z ∧ z ≤ 16777216)
    (hx : ev e x = some v) (hc : v.cells = cs.toArray) (hl : cs.length = z) (hw : Sat G L w)
    (hpd : ∀ w' b, Sat G (blk b cs c :: L) w' → ∀ q ∈ pend P ops dr done i, ChkE P n ops q ((d, .slice (some ⟨b, 0, none⟩) 1 1) :: e) w')
    (h : ∀ w' b, Sat G (blk b cs c :: L) w' → XL P n ops dr (i :: done) r K ((d, .slice (some ⟨b, 0, none⟩) 1 1) :: e) w') : XL P n ops dr done (i :: r) K e w := by
  refine xl_eff ho (by simpa [dstOk] using hd) hg (ρ := rh e) (by intro z hZ; simp [Op.operands] at hZ; exact oh1 hx hZ) rfl (v := .slice (some ⟨w.heap.size, 0, none⟩) 1 1) (w' := { w with heap := w.heap.push (.cells cs.toArray c (0, 0)) }) ?_ (hpd _ _ (hw.push _)) (h _ _ (hw.push _))
  cases hi : P.info? c with
  | none => simp [hi] at hzc
  | some inf =>
    have hsz : inf.size = z := by simpa [hi] using hzc
    cases hzz : inf.zero with
    | none => simp [zeroOf, hi, hzz] at hz0
    | some zv =>
      have hzs : zv.cells.size = z := by simpa [zeroOf, hi, hzz] using hz0
      have hf := fill_one (z := z) (cs := cs.toArray) (c := (Array.range z).map (zv.cells[· % z]!)) hc (by simpa using hl) (by simp)
      have hnz : z ≠ 0 := by omega
      have hle : ¬ 16777216 < z := by omega
      simp [execOp, Instr.buildSlice, run_underlying hs, sizeOf, typeInfo, hi, hsz, zeroValue, hzz, hnz, hle, hzs, rh_of hx, hf, newRow]

theorem x_bs1 {c : TypeId} {z : Nat} {cs : List Value} (ho : ops[i]? = some ⟨some d, .buildSlice s 1 #[(0, x)], t, p, af, g⟩) (hd : Nat.blt d n = true) (hg : Gd ops e g) (hs : P.underlying s = some (.slice c)) (hzc : (P.info? c).map (·.size) = some z) (hz0 : (zeroOf P c).map (·.size) = some z) (hz : 0 < z ∧ z ≤ 16777216)
    (hx : ev e x = some v) (hc : v.cells = cs.toArray) (hl : cs.length = z) (hw : Sat G L w) (hpd : pend P ops dr done i = [])
    (h : ∀ w' b, Sat G (blk b cs c :: L) w' → XL P n ops dr (i :: done) r K ((d, .slice (some ⟨b, 0, none⟩) 1 1) :: e) w') : XL P n ops dr done (i :: r) K e w :=
  x_bs1P ho hd hg hs hzc hz0 hz hx hc hl hw (fun w' b _ => noPend (dst := some d) hpd) h

/-- 'make([]T, len, cap)', an element of one cell. -/
theorem x_mks {c : TypeId} {z : Value} {a m : Int} {k k' : IntKind} {bytes : Nat} (ho : ops[i]? = some ⟨some d, .makeSlice s x y, t, p, af, g⟩) (hd : Nat.blt d n = true) (hg : Gd ops e g) (hs : P.underlying s = some (.slice c)) (hzc : (P.info? c).map (·.size) = some 1) (hby : (P.info? c).map (·.bytes) = some bytes)
    (hz0 : zeroOf P c = some #[z]) (hx : ev e x = some (.int k a)) (hy : ev e y = some (.int k' m)) (hb : 0 ≤ a ∧ a ≤ m) (hm : (bytes : Int) * m ≤ 281474976710656) (h63 : m ≤ 9223372036854775807) (hw : Sat G L w) (hpd : pend P ops dr done i = [])
    (h : ∀ w' b, Sat G (blk b (rep m.toNat z) c :: L) w' → XL P n ops dr (i :: done) r K ((d, .slice (some ⟨b, 0, none⟩) a.toNat m.toNat) :: e) w') : XL P n ops dr done (i :: r) K e w := by
  refine xl_eff ho (by simpa [dstOk] using hd) hg (ρ := rh e) (by intro z hZ; simp [Op.operands] at hZ; exact oh2 hx hy hZ) rfl (v := .slice (some ⟨w.heap.size, 0, none⟩) a.toNat m.toNat) (w' := { w with heap := w.heap.push (.cells (rep m.toNat z).toArray c (0, 0)) }) ?_ (noPend hpd) (h _ _ (hw.push _))
  cases hi : P.info? c with
  | none => simp [hi] at hzc
  | some inf =>
    have hsz : inf.size = 1 := by simpa [hi] using hzc
    have hbb : inf.bytes = bytes := by simpa [hi] using hby
    cases hzz : inf.zero with
    | none => simp [zeroOf, hi, hzz] at hz0
    | some zv =>
      have hzs : zv.cells = #[z] := by simpa [zeroOf, hi, hzz] using hz0
      have hr := run_make (P := P) w s c inf zv hs hi hzz k k' a m hb.1 hb.2 (by rw [hbb]; exact hm) h63
      have hmc : madeCells zv.cells (m.toNat * inf.size) = (rep m.toNat z).toArray := by
        rw [hzs, hsz, Nat.mul_one]; unfold madeCells
        apply Array.ext'
        simp [Nat.mod_one, List.map_const', rep]
      rw [hmc] at hr
      simp only [execOp, rh_of hx, rh_of hy, Sem.run_bind, hr]
      rfl

/-- A slice that may grow: nil, or the head of a row of its own. -/
def row (T : TypeId) (z : Nat) (v : Value) (m : Nat) (xs : List Value) : Assn := fun h => xs.length = m * z ∧
  ((v = .slice none 0 0 ∧ m = 0) ∨ ∃ b cap cur, v = .slice (some ⟨b, 0, none⟩) m cap ∧ h b = some (.cells (xs ++ cur).toArray T (0, 0)) ∧ m ≤ cap ∧ cap ≤ maxLen ∧ (xs ++ cur).length = cap * z)

theorem row_nil (hw : Sat G L w) (T : TypeId) (z : Nat) : Sat G (row T z (.slice none 0 0) 0 [] :: L) w := by
  obtain ⟨hg, h, hh, hL⟩ := hw
  refine ⟨hg, h, hh, fun _ => none, h, fun b => .inl rfl, fun b o hb => ?_, ⟨by simp, .inl ⟨rfl, rfl⟩⟩, hL⟩
  rcases union_cases hb with h | h
  · cases h
  · exact h

/-- A row that 'make' made, none or all of it in use. -/
theorem row_mk {xs cur : List Value} {z m cap : Nat} (hw : Sat G (blk b (xs ++ cur) T :: L) w) (h1 : xs.length = m * z) (h2 : m ≤ cap) (h3 : cap ≤ maxLen) (h4 : (xs ++ cur).length = cap * z) : Sat G (row T z (.slice (some ⟨b, 0, none⟩) m cap) m xs :: L) w :=
  hw.cons_mono fun h hh => ⟨h1, .inr ⟨b, cap, cur, rfl, hh, h2, h3, h4⟩⟩

theorem row_full {xs : List Value} {z m : Nat} (hw : Sat G (blk b xs T :: L) w) (h1 : xs.length = m * z) (h3 : m ≤ maxLen) : Sat G (row T z (.slice (some ⟨b, 0, none⟩) m m) m xs :: L) w :=
  row_mk (cur := []) (by rw [List.append_nil]; exact hw) h1 (Nat.le_refl _) h3 (by rw [List.append_nil]; exact h1)

/-- .. and what it is. -/
theorem row_open {z m : Nat} {xs : List Value} (hw : Sat G (row T z v m xs :: L) w) : xs.length = m * z ∧
    ((v = .slice none 0 0 ∧ m = 0 ∧ xs = [] ∧ Sat G L w) ∨ ∃ b cap cur, v = .slice (some ⟨b, 0, none⟩) m cap ∧ m ≤ cap ∧ cap ≤ maxLen ∧ (xs ++ cur).length = cap * z ∧ Sat G (blk b (xs ++ cur) T :: L) w) := by
  have hw' := hw
  obtain ⟨hg, h, hh, h1, h2, hd, hu, ⟨hx, hA⟩, hL⟩ := hw
  refine ⟨hx, ?_⟩
  rcases hA with ⟨rfl, rfl⟩ | ⟨b, cap, cur, rfl, hb, h3, h4, h5⟩
  · exact .inl ⟨rfl, rfl, List.eq_nil_of_length_eq_zero (by simpa using hx), hw'.tail⟩
  · exact .inr ⟨b, cap, cur, rfl, h3, h4, h5, hg, h, hh, h1, h2, hd, hu, hb, hL⟩

theorem row_form {z m : Nat} {xs : List Value} (hw : Sat G (row T z v m xs :: L) w) : ∃ a cap, v = .slice a m cap := by
  obtain ⟨_, h | ⟨b, cap, cur, h, _⟩⟩ := row_open hw
  · obtain ⟨rfl, rfl, _⟩ := h; exact ⟨none, 0, rfl⟩
  · exact ⟨_, cap, h⟩

/-- 'append(s, x...)' to a slice that may grow. -/
theorem run_app {c : TypeId} {z bytes m k : Nat} {xs news : List Value} {zv : Value} {inf : TypeInfo} {ty : TypeId} {ax : Addr} {cx : Nat} (hs : P.underlying s = some (.slice c)) (hi : P.info? c = some inf) (hzz : inf.zero = some zv) (hsz : inf.size = z) (hbb : inf.bytes = bytes) (hzs : zv.cells.size = z)
    (hw : Sat G (row c z v m xs :: R) w) (hr : Rd w ax news) (hl : news.length = k * z) (h1 : Ones news) (h63 : m + k ≤ maxLen) (hby : (m + k) * bytes ≤ 140737488355328) :
    ∃ v' w', (Builtin.append_ #[s, s] ty #[v, .slice (some ax) k cx]).run P w = .ok v' w' ∧ Sat G (row c z v' (m + k) (xs ++ news) :: R) w' := by
  subst hsz
  have hsmall : m + k ≤ 9223372036854775807 := by simp only [maxLen] at h63; omega
  obtain ⟨hxl, hcase⟩ := row_open hw
  have hlen : (xs ++ news).length = (m + k) * inf.size := by rw [List.length_append, hxl, hl, Nat.add_mul]
  have grown : ∀ (old : Nat), Sat G R w → Sat G (row c inf.size (.slice (some ⟨w.heap.size, 0, none⟩) (m + k) (grownCap w (m + k) old c)) (m + k) (xs ++ news) :: R)
      (w.drew.alloc (.cells (xs.toArray ++ news.toArray ++ Builtin.zeroCells zv.cells (grownCap w (m + k) old c - (m + k))) c)) := fun old hR => by
    have hge := grownCap_ge w (m + k) old c
    have hcm : grownCap w (m + k) old c ≤ maxLen := grownCap_le_maxLen w (m + k) old c h63
    have h2 := (hR.drawn (w.drawn + 1)).push (.cells (xs.toArray ++ news.toArray ++ Builtin.zeroCells zv.cells (grownCap w (m + k) old c - (m + k))) c (0, 0))
    have e : xs.toArray ++ news.toArray ++ Builtin.zeroCells zv.cells (grownCap w (m + k) old c - (m + k)) = ((xs ++ news) ++ (Builtin.zeroCells zv.cells (grownCap w (m + k) old c - (m + k))).toList).toArray := by
      apply Array.ext'; simp
    rw [e] at h2 ⊢
    refine row_mk h2 hlen hge hcm ?_
    rw [List.length_append, hlen, Array.length_toList, size_zeroCells, hzs, ← Nat.add_mul]
    congr 1; omega
  rcases hcase with ⟨rfl, rfl, rfl, hR⟩ | ⟨b, cap, cur, rfl, hmc, hcm, hcl, hB⟩
  · by_cases hk : k = 0
    · subst hk
      have hn : news = [] := List.eq_nil_of_length_eq_zero (by simpa using hl)
      subst hn
      refine ⟨.slice none 0 0, w, ?_, by simpa using row_nil hR c inf.size⟩
      simp [Builtin.append_, run_underlying hs, sizeOf, typeInfo, hi, Builtin.lenOf, Builtin.firstCells, loadCells, loadCellsFrom]
    · have hrr := run_append_nil (P := P) w s ty c inf zv hs hi hzz ax k cx news hl hr (by omega) (by omega) (by rw [hbb]; have hb := hby; simp only [Nat.zero_add] at hb; omega)
      have hgr := grown 0 hR
      simp only [Nat.zero_add, List.nil_append, Array.empty_append] at hgr ⊢
      exact ⟨_, _, hrr, hgr⟩
  · by_cases hroom : m + k ≤ cap
    · have hfit : m * inf.size + news.length ≤ (xs ++ cur).toArray.size := by rw [List.size_toArray, hcl, hl, ← Nat.add_mul]; exact Nat.mul_le_mul_right _ hroom
      have hrr := run_append_room (P := P) w s ty c inf hs hi b m cap (xs ++ cur).toArray (hB.pt .here) ax k cx news hl hr h1 hroom hfit
      have hB' := hB.setBlk .here ((xs ++ news) ++ cur.drop news.length)
      have e : (List.take (m * inf.size) (xs ++ cur).toArray.toList ++ news ++ List.drop (m * inf.size + news.length) (xs ++ cur).toArray.toList).toArray = ((xs ++ news) ++ cur.drop news.length).toArray := by
        simp only [← hxl]
        simp [List.drop_append, List.drop_eq_nil_of_le]
      rw [e] at hrr
      refine ⟨_, _, hrr, row_mk hB' hlen hroom hcm ?_⟩
      rw [List.length_append, hlen, List.length_drop, ← hcl]
      simp only [List.size_toArray, List.length_append] at hfit ⊢
      rw [hxl, hl, Nat.add_mul] at *
      omega
    · have holds : Rd w ⟨b, 0, none⟩ xs := by
        have := (Rd.of_blk (o := 0) hB .here).take xs.length
        simpa using this
      have hrr := run_append_grow (P := P) w s ty c inf zv hs hi hzz ⟨b, 0, none⟩ m cap xs hxl holds ax k cx news hl hr (by omega) (by omega) (by rw [hbb]; exact growslice_fits (by omega) hby)
      exact ⟨_, _, hrr, grown cap hB.tail⟩

theorem x_app {c : TypeId} {z bytes m k : Nat} {xs news : List Value} {ax : Addr} {cx : Nat} (ho : ops[i]? = some ⟨some d, .call ⟨.builtin .append, #[x, y], #[s, s]⟩, t, p, af, g⟩) (hd : Nat.blt d n = true) (hg : Gd ops e g) (hs : P.underlying s = some (.slice c)) (hzc : (P.info? c).map (·.size) = some z)
    (hbc : (P.info? c).map (·.bytes) = some bytes) (hz0 : (zeroOf P c).map (·.size) = some z) (hx : ev e x = some v) (hy : ev e y = some (.slice (some ax) k cx)) (hw : Sat G L w) (hp : Pick (row c z v m xs) L R) (hr : Rd w ax news) (hl : news.length = k * z) (h1 : Ones news)
    (h63 : m + k ≤ maxLen) (hby : (m + k) * bytes ≤ 140737488355328) (hpd : pend P ops dr done i = [])
    (h : ∀ w' v', Sat G (row c z v' (m + k) (xs ++ news) :: R) w' → XL P n ops dr (i :: done) r K ((d, v') :: e) w') : XL P n ops dr done (i :: r) K e w := by
  cases hi : P.info? c with
  | none => simp [hi] at hzc
  | some inf =>
    have hsz : inf.size = z := by simpa [hi] using hzc
    have hbb : inf.bytes = bytes := by simpa [hi] using hbc
    cases hzz : inf.zero with
    | none => simp [zeroOf, hi, hzz] at hz0
    | some zv =>
      have hzs : zv.cells.size = z := by simpa [zeroOf, hi, hzz] using hz0
      obtain ⟨v', w', hrun, hsat⟩ := run_app (P := P) (ty := t) (cx := cx) hs hi hzz hsz hbb hzs (hw.pick hp) hr hl h1 h63 hby
      refine xl_eff ho (by simpa [dstOk] using hd) hg (ρ := rh e) (by intro z hZ; simp [Op.operands, Call.operands] at hZ; exact oh2 hx hy hZ) rfl (v := v') (w' := w') ?_ (noPend hpd) (h _ _ hsat)
      simp only [execOp, resolve, invoke, builtin, Sem.run_bind, Sem.run_pure, Result.andThen_ok, List.map_toArray, List.map_cons, List.map_nil, rh_of hx, rh_of hy, hrun]

/-- 'copy(dst, src)' into a row: elements of one cell. -/
theorem x_cp {c : TypeId} {s' : TypeId} {dl dc sl sc : Nat} {ax : Addr} {cs l' : List Value} (ho : ops[i]? = some ⟨some d, .call ⟨.builtin .copy, #[x, y], #[s, s']⟩, t, p, af, g⟩) (hd : Nat.blt d n = true) (hg : Gd ops e g) (hs : P.underlying s = some (.slice c)) (hzc : (P.info? c).map (·.size) = some 1)
    (hx : ev e x = some (.slice (some ⟨b, o, none⟩) dl dc)) (hy : ev e y = some (.slice (some ax) sl sc)) (hw : Sat G L w) (hp : Pick (blk b l T) L R) (hr : Rd w ax cs) (hl : cs.length = Nat.min sl dl) (h1 : Ones cs) (hfit : o + cs.length ≤ l.length)
    (hl' : l.take o ++ cs ++ l.drop (o + cs.length) = l') (hpd : pend P ops dr done i = [])
    (h : ∀ w', Sat G (blk b l' T :: R) w' → XL P n ops dr (i :: done) r K ((d, .int .i64 cs.length) :: e) w') : XL P n ops dr done (i :: r) K e w := by
  subst hl'
  have hrr := run_copy_row (P := P) w s s' t c b o dl dc ax sl sc l.toArray T cs hs hzc (hw.pt hp) hl hr (by simpa using hfit) h1
  refine xl_eff ho (by simpa [dstOk] using hd) hg (ρ := rh e) (by intro z hZ; simp [Op.operands, Call.operands] at hZ; exact oh2 hx hy hZ) rfl (v := .int .i64 cs.length) (w' := w.setRow b (l.take o ++ cs ++ l.drop (o + cs.length)).toArray) ?_ (noPend hpd) (h _ (hw.setBlk hp _))
  simp only [execOp, resolve, invoke, builtin, Sem.run_bind, Sem.run_pure, Result.andThen_ok, List.map_toArray, List.map_cons, List.map_nil, rh_of hx, rh_of hy, hrr]
  rfl

/-- A function with a body. -/
def Callable (P : Program) (f : FuncId) : Prop := ∃ fn, P.funcs[f]? = some fn ∧ (fn.name == "runtime.NumGoroutine") = false ∧ fn.body.isNone = false

/-- A call of a Go function. -/
theorem x_callP {f : FuncId} {xs : Array Operand} {ts : Array TypeId} {args : List Value} {Q : Value → World → Prop} (ho : ops[i]? = some ⟨some d, .call ⟨.value (.func f), xs, ts⟩, t, p, af, g⟩) (hd : Nat.blt d n = true) (hg : Gd ops e g)
    (hf : Callable P f) (ha : evs e xs.toList = some args) (hc : Calls P f args.toArray w (Ret Q)) (hpd : ∀ w' v, Q v w' → ∀ q ∈ pend P ops dr done i, ChkE P n ops q ((d, v) :: e) w')
    (h : ∀ w' v, Q v w' → XL P n ops dr (i :: done) r K ((d, v) :: e) w') : XL P n ops dr done (i :: r) K e w := by
  obtain ⟨fn, hf, hb1, hb2⟩ := hf
  obtain ⟨hk, hm⟩ := evs_mem ha
  refine xl_call ho (by simpa [dstOk] using hd) hg (ρ := rh e) (by
    intro z hZ; simp [Op.operands, Call.operands] at hZ
    rcases hZ with rfl | hZ
    · rfl
    · exact hk z (by simpa using hZ)) rfl (f := f) (args := args.toArray) ?_ hc fun v w' hQ => ⟨hpd w' v hQ, h w' v hQ⟩
  have hrf : rh e (.func f) = .func (.func f) #[] #[] := rfl
  have hm' : xs.map (rh e) = args.toArray := by apply Array.ext'; simp [hm]
  simp only [execOp, resolve, hrf, Deferred.ofValue, invoke, callFunc, hm', Sem.run_bind, Sem.run_pure, Result.andThen_ok, program, Sem.run, hf, hb1, hb2]
  simp

theorem x_call {f : FuncId} {xs : Array Operand} {ts : Array TypeId} {args : List Value} {Q : Value → World → Prop} (ho : ops[i]? = some ⟨some d, .call ⟨.value (.func f), xs, ts⟩, t, p, af, g⟩) (hd : Nat.blt d n = true) (hg : Gd ops e g)
    (hf : Callable P f) (ha : evs e xs.toList = some args) (hc : Calls P f args.toArray w (Ret Q)) (hpd : pend P ops dr done i = [])
    (h : ∀ w' v, Q v w' → XL P n ops dr (i :: done) r K ((d, v) :: e) w') : XL P n ops dr done (i :: r) K e w :=
  x_callP ho hd hg hf ha hc (fun w' v _ => noPend (dst := some d) hpd) h

/-- A call of a function value. -/
theorem x_callv {z : Operand} {f : FuncId} {xs : Array Operand} {ts : Array TypeId} {c1 c2 : Array Value} {args args' : List Value} {Q : Value → World → Prop} (ho : ops[i]? = some ⟨some d, .call ⟨.value z, xs, ts⟩, t, p, af, g⟩) (hd : Nat.blt d n = true) (hg : Gd ops e g)
    (hz : ev e z = some (.func (.func f) c1 c2)) (hf : Callable P f) (ha : evs e xs.toList = some args) (ha' : c1.toList ++ args ++ c2.toList = args') (hc : Calls P f args'.toArray w (Ret Q)) (hpd : pend P ops dr done i = [])
    (h : ∀ w' v, Q v w' → XL P n ops dr (i :: done) r K ((d, v) :: e) w') : XL P n ops dr done (i :: r) K e w := by
  obtain ⟨fn, hf, hb1, hb2⟩ := hf
  obtain ⟨hk, hm⟩ := evs_mem ha
  refine xl_call ho (by simpa [dstOk] using hd) hg (ρ := rh e) (by
    intro q hZ; simp [Op.operands, Call.operands] at hZ
    rcases hZ with rfl | hZ
    · exact rh_k hz
    · exact hk q (by simpa using hZ)) rfl (f := f) (args := args'.toArray) ?_ hc fun v w' hQ => ⟨noPend hpd, h w' v hQ⟩
  have hm' : c1 ++ xs.map (rh e) ++ c2 = args'.toArray := by apply Array.ext'; simp [hm, ← ha']
  simp only [execOp, resolve, rh_of hz, Deferred.ofValue, invoke, callFunc, hm', Sem.run_bind, Sem.run_pure, Result.andThen_ok, program, Sem.run, hf, hb1, hb2]
  simp

end
end Go.Proofs.Ytekilljcoplacaa.X
