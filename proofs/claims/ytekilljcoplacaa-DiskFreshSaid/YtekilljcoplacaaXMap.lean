/- Generic ground: maps with keys of type int. -/
import Derived.Test.YtekilljcoplacaaXLd
namespace Go.Proofs.Ytekilljcoplacaa.X
set_option linter.unusedVariables false
set_option linter.unusedSimpArgs false

abbrev KV := List (Int × Value)

def klook : KV → Int → Option Value
  | [], _ => none
  | (k, v) :: r, i => if i = k then some v else klook r i
def kput : KV → Int → Value → KV
  | [], i, v => [(i, v)]
  | (k, u) :: r, i, v => if i = k then (k, v) :: r else (k, u) :: kput r i v
def kdel : KV → Int → KV
  | [], _ => []
  | (k, u) :: r, i => if i = k then r else (k, u) :: kdel r i

theorem klook_put (kv : KV) (i : Int) (v : Value) (j : Int) : klook (kput kv i v) j = if j = i then some v else klook kv j := by
  induction kv with
  | nil => simp [kput, klook]
  | cons p r ih =>
    obtain ⟨k, u⟩ := p
    by_cases h : i = k
    · subst h; simp only [kput, if_true, klook]; split <;> rfl
    · simp only [kput, if_neg h, klook, ih]
      by_cases h1 : j = k
      · subst h1; simp [Ne.symm h]
      · simp [h1]

theorem klook_none {kv : KV} {i : Int} : klook kv i = none ↔ i ∉ kv.map (·.1) := by
  induction kv with
  | nil => simp [klook]
  | cons p r ih =>
    obtain ⟨k, u⟩ := p
    by_cases h : i = k
    · subst h; simp [klook]
    · simp [klook, h, ih]

theorem klook_mem {kv : KV} {i : Int} {v : Value} (h : klook kv i = some v) : (i, v) ∈ kv := by
  induction kv with
  | nil => simp [klook] at h
  | cons p r ih =>
    obtain ⟨k, u⟩ := p
    by_cases hk : i = k
    · subst hk; simp [klook] at h; subst h; simp
    · simp [klook, hk] at h; exact List.mem_cons_of_mem _ (ih h)

theorem mem_klook {kv : KV} (hn : (kv.map (·.1)).Nodup) {i : Int} {v : Value} (h : (i, v) ∈ kv) : klook kv i = some v := by
  induction kv with
  | nil => cases h
  | cons p r ih =>
    obtain ⟨k, u⟩ := p
    simp only [List.map_cons, List.nodup_cons] at hn
    rcases List.mem_cons.1 h with h | h
    · cases h; simp [klook]
    · have : i ≠ k := fun e => hn.1 (List.mem_map.2 ⟨(i, v), h, e⟩)
      simp [klook, this, ih hn.2 h]

theorem kput_keys (kv : KV) (i : Int) (v : Value) : (kput kv i v).map (·.1) = if i ∈ kv.map (·.1) then kv.map (·.1) else kv.map (·.1) ++ [i] := by
  induction kv with
  | nil => simp [kput]
  | cons p r ih =>
    obtain ⟨k, u⟩ := p
    by_cases h : i = k
    · subst h; simp [kput]
    · by_cases hm : i ∈ r.map (·.1)
      · rw [if_pos hm] at ih; rw [if_pos (by rw [List.map_cons]; exact List.mem_cons_of_mem _ hm)]
        simp only [kput, if_neg h, List.map_cons, ih]
      · rw [if_neg hm] at ih; rw [if_neg (by rw [List.map_cons]; exact fun hc => (List.mem_cons.1 hc).elim h hm)]
        simp only [kput, if_neg h, List.map_cons, ih, List.cons_append]
theorem kput_nodup {kv : KV} (hn : (kv.map (·.1)).Nodup) (i : Int) (v : Value) : ((kput kv i v).map (·.1)).Nodup := by
  rw [kput_keys]; split
  · exact hn
  · rename_i h; exact List.nodup_append.2 ⟨hn, by simp, fun a ha b hb => by simp at hb; subst hb; exact fun e => h (e ▸ ha)⟩
theorem kdel_sub (kv : KV) (i : Int) : (kdel kv i).Sublist kv := by
  induction kv with
  | nil => exact .slnil
  | cons p r ih =>
    obtain ⟨k, u⟩ := p
    by_cases h : i = k
    · subst h; simp [kdel]
    · simp only [kdel, if_neg h]; exact ih.cons_cons _
theorem kdel_nodup {kv : KV} (hn : (kv.map (·.1)).Nodup) (i : Int) : ((kdel kv i).map (·.1)).Nodup := hn.sublist ((kdel_sub kv i).map _)
theorem klook_del {kv : KV} (hn : (kv.map (·.1)).Nodup) (i j : Int) : klook (kdel kv i) j = if j = i then none else klook kv j := by
  induction kv with
  | nil => simp [kdel, klook]
  | cons p r ih =>
    obtain ⟨k, u⟩ := p
    simp only [List.map_cons, List.nodup_cons] at hn
    by_cases h : i = k
    · subst h
      simp only [kdel, if_true, klook]
      by_cases hj : j = i
      · subst hj; rw [if_pos rfl]; exact klook_none.2 hn.1
      · simp [hj]
    · simp only [kdel, if_neg h, klook, ih hn.2]
      by_cases hj : j = k
      · subst hj; simp [Ne.symm h]
      · simp [hj]

/-- The entries are those pairs. -/
structure Fits (es : List MapEntry) (ck : Nat) (kv : KV) : Prop where
  pairs : es.map (fun e => (e.key, e.val)) = kv.map fun p => (Value.int .i64 p.1, p.2)
  keys : (kv.map (·.1)).Nodup
  old : ∀ e ∈ es, e.born < ck
  borns : (es.map (·.born)).Nodup

def mapI (m : Nat) (kv : KV) : Assn := fun h => ∃ es ck, h m = some (.map es ck) ∧ Fits es.toList ck kv

def kfind : KV → Int → Nat → Option (Nat × Value)
  | [], _, _ => none
  | (k, v) :: r, i, j => if i = k then some (j, v) else kfind r i (j + 1)

theorem findNow_eq (K : IntKind) (i : Int) : ∀ (es : List MapEntry) (kv : KV) (j : Nat), es.map (fun e => (e.key, e.val)) = kv.map (fun p => (Value.int .i64 p.1, p.2)) →
    Instr.findNow (.int K) (.int .i64 i) es j = some (kfind kv i j)
  | [], [], _, _ => rfl
  | [], _ :: _, _, h => by simp at h
  | _ :: _, [], _, h => by simp at h
  | e :: es, (k, v) :: kv, j, h => by
    simp only [List.map_cons, List.cons.injEq, Prod.mk.injEq] at h
    obtain ⟨⟨h1, h2⟩, h3⟩ := h
    have ih := findNow_eq K i es kv (j + 1) h3
    by_cases hk : i = k
    · subst hk; simp [Instr.findNow, h1, h2, Instr.sameNow, kfind]
    · have hb : (i == k) = false := by simpa using hk
      simp [Instr.findNow, h1, Instr.sameNow, kfind, hk, ih, hb]

theorem kfind_look (i : Int) : ∀ (kv : KV) (j : Nat), (kfind kv i j).map (·.2) = klook kv i
  | [], _ => rfl
  | (k, v) :: r, j => by by_cases h : i = k <;> simp [kfind, klook, h, kfind_look i r]

theorem kfind_put (i : Int) (v : Value) : ∀ (es : List MapEntry) (kv : KV) (j : Nat), es.map (fun e => (e.key, e.val)) = kv.map (fun p => (Value.int .i64 p.1, p.2)) →
    ∀ q u, kfind kv i j = some (q, u) → j ≤ q ∧ ∃ e, es[q - j]? = some e ∧ e.key = .int .i64 i ∧
      (es.modify (q - j) fun e => { e with key := .int .i64 i, val := v }).map (fun e => (e.key, e.val)) = (kput kv i v).map (fun p => (Value.int .i64 p.1, p.2)) ∧
      (es.modify (q - j) fun e => { e with key := .int .i64 i, val := v }).map (·.born) = es.map (·.born) ∧
      (es.eraseIdx (q - j)).map (fun e => (e.key, e.val)) = (kdel kv i).map (fun p => (Value.int .i64 p.1, p.2))
  | [], [], _, _, _, _, h => by simp [kfind] at h
  | [], _ :: _, _, h, _, _, _ => by simp at h
  | _ :: _, [], _, h, _, _, _ => by simp at h
  | e :: es, (k, u) :: kv, j, h, q, u', hf => by
    simp only [List.map_cons, List.cons.injEq, Prod.mk.injEq] at h
    obtain ⟨⟨h1, h2⟩, h3⟩ := h
    by_cases hk : i = k
    · subst hk
      simp [kfind] at hf
      obtain ⟨rfl, rfl⟩ := hf
      refine ⟨Nat.le_refl _, e, ?_⟩
      simp [kput, kdel, h1, h3]
    · simp [kfind, hk] at hf
      obtain ⟨hle, e', h4, h5, h6, h7, h8⟩ := kfind_put i v es kv (j + 1) h3 q u' hf
      have hq : q - j = (q - (j + 1)) + 1 := by omega
      refine ⟨by omega, e', ?_⟩
      rw [hq]
      refine ⟨by simpa using h4, h5, ?_, ?_, ?_⟩
      · simp only [List.modify_succ_cons, List.map_cons, kput, if_neg hk, h6, h1, h2]
      · simp only [List.modify_succ_cons, List.map_cons, h7]
      · simp only [List.eraseIdx_cons_succ, List.map_cons, kdel, if_neg hk, h8, h1, h2]

section
variable {P : Program} {n : Nat} {ops : Array Oper} {dr : Bool} {done r : List Nat} {K : Env → World → Prop} {e : Env} {w : World} {i d : Nat} {t : TypeId} {p : String} {af : Array Edge} {g : Option (Nat × Bool)}
variable {G : Gh} {L R : List Assn} {s T : TypeId} {x y c : Operand} {m : Nat} {kv : KV} {v : Value} {kt et : TypeId} {a : Int}

theorem run_getObj {o : Obj} (h : w.heap[m]? = some o) (hn : ∀ c e f, o ≠ .cells c e f) : (getObj m).run P w = .ok o w := by
  unfold getObj
  cases o <;> simp [Sem.run, h]
  exact absurd rfl (hn _ _ _)
theorem run_setObj {o : Obj} (o' : Obj) (h : w.heap[m]? = some o) (hn : ∀ c e f, o ≠ .cells c e f) : (setObj m o').run P w = .ok () { w with heap := w.heap.setIfInBounds m o' } := by
  unfold setObj
  cases o <;> simp [Sem.run, h]
  exact absurd rfl (hn _ _ _)

theorem mapI_open (hw : Sat G (mapI m kv :: R) w) : ∃ es ck, Fits es.toList ck kv ∧ Sat G (pt m (.map es ck) :: R) w := by
  obtain ⟨hg, h, hh, h1, h2, hd, hu, ⟨es, ck, hm, hf⟩, hL⟩ := hw
  exact ⟨es, ck, hf, hg, h, hh, h1, h2, hd, hu, hm, hL⟩
theorem mapI_shut {es : Array MapEntry} {ck : Nat} (hf : Fits es.toList ck kv) (hw : Sat G (pt m (.map es ck) :: R) w) : Sat G (mapI m kv :: R) w := hw.cons_mono fun h hm => ⟨es, ck, hm, hf⟩

theorem run_findKey (hk : P.underlying kt = some (.int .i64)) {es : List MapEntry} {ck : Nat} (hf : Fits es ck kv) (w : World) : (Instr.findKey kt (.int .i64 a) es).run P w = .ok (kfind kv a 0) w := by
  simp [Instr.findKey, run_underlying hk, findNow_eq .i64 a es kv 0 hf.pairs]
theorem run_checkKey (hk : P.underlying kt = some (.int .i64)) {b : Bool} (w : World) : (Instr.checkKey b 10000 kt (.int .i64 a)).run P w = .ok () w := by
  have : ∀ q, (Instr.checkKey b (q + 1) kt (.int .i64 a)).run P w = .ok () w := fun q => by simp [Instr.checkKey, run_underlying hk]
  exact this 9999

/-- 'map[int]T{}', 'make(map[int]T)'. -/
theorem x_mkm (ho : ops[i]? = some ⟨some d, .makeMap s none, t, p, af, g⟩) (hd : Nat.blt d n = true) (hg : Gd ops e g) (hw : Sat G L w) (hpd : pend P ops dr done i = [])
    (h : ∀ w' m, Sat G (mapI m [] :: L) w' → XL P n ops dr (i :: done) r K ((d, .map (some m)) :: e) w') : XL P n ops dr done (i :: r) K e w := by
  refine xl_eff ho (by simpa [dstOk] using hd) hg (ρ := rh e) (by intro z hZ; simp [Op.operands] at hZ) rfl (v := .map (some w.heap.size)) (w' := { w with heap := w.heap.push (.map #[] 0) }) ?_ (noPend hpd) (h _ _ (mapI_shut ⟨rfl, by simp, by simp, by simp⟩ (hw.push _)))
  simp [execOp, Instr.makeMap, newObj, Sem.run]

/-- 'v, ok := m[k]' -/
theorem x_lk2 {z : Value} (ho : ops[i]? = some ⟨some d, .lookup s x y true, t, p, af, g⟩) (hd : Nat.blt d n = true) (hg : Gd ops e g) (hs : P.underlying s = some (.map kt et)) (hk : P.underlying kt = some (.int .i64)) (hz : (P.info? et).bind (·.zero) = some z) (hx : ev e x = some (.map (some m))) (hy : ev e y = some (.int .i64 a))
    (hw : Sat G L w) (hp : Pick (mapI m kv) L R) {v0 : Value} {b0 : Bool} (hv0 : (klook kv a).getD z = v0) (hb0 : (klook kv a).isSome = b0) (h : XL P n ops dr (i :: done) r K ((d, .tuple #[v0, .bool b0]) :: e) w) : XL P n ops dr done (i :: r) K e w := by
  subst hv0 hb0
  obtain ⟨es, ck, hf, hw'⟩ := mapI_open (hw.pick hp)
  refine xl_read ho (by simpa [dstOk] using hd) hg (ρ := rh e) (by intro z hZ; simp [Op.operands] at hZ; exact oh2 hx hy hZ) rfl (v := .tuple #[(klook kv a).getD z, .bool (klook kv a).isSome]) ?_ h
  have h1 := run_getObj (P := P) hw'.pt_head (by simp)
  have h2 := kfind_look a kv 0
  cases hi : P.info? et with
  | none => simp [hi] at hz
  | some inf =>
    have hzz : inf.zero = some z := by simpa [hi] using hz
    cases hkf : kfind kv a 0 with
    | none => rw [hkf] at h2; simp at h2; simp [execOp, rh_of hx, rh_of hy, Instr.lookup, run_underlying hs, h1, run_checkKey hk, run_findKey hk hf, hkf, zeroValue, typeInfo, hi, hzz, ← h2]
    | some q => obtain ⟨q, u⟩ := q; rw [hkf] at h2; simp at h2; simp [execOp, rh_of hx, rh_of hy, Instr.lookup, run_underlying hs, h1, run_checkKey hk, run_findKey hk hf, hkf, ← h2]
/-- 'm[k]' -/
theorem x_lk1 {z : Value} (ho : ops[i]? = some ⟨some d, .lookup s x y false, t, p, af, g⟩) (hd : Nat.blt d n = true) (hg : Gd ops e g) (hs : P.underlying s = some (.map kt et)) (hk : P.underlying kt = some (.int .i64)) (hz : (P.info? et).bind (·.zero) = some z) (hx : ev e x = some (.map (some m))) (hy : ev e y = some (.int .i64 a))
    (hw : Sat G L w) (hp : Pick (mapI m kv) L R) {v0 : Value} (hv0 : (klook kv a).getD z = v0) (h : XL P n ops dr (i :: done) r K ((d, v0) :: e) w) : XL P n ops dr done (i :: r) K e w := by
  subst hv0
  obtain ⟨es, ck, hf, hw'⟩ := mapI_open (hw.pick hp)
  refine xl_read ho (by simpa [dstOk] using hd) hg (ρ := rh e) (by intro z hZ; simp [Op.operands] at hZ; exact oh2 hx hy hZ) rfl (v := (klook kv a).getD z) ?_ h
  have h1 := run_getObj (P := P) hw'.pt_head (by simp)
  have h2 := kfind_look a kv 0
  cases hi : P.info? et with
  | none => simp [hi] at hz
  | some inf =>
    have hzz : inf.zero = some z := by simpa [hi] using hz
    cases hkf : kfind kv a 0 with
    | none => rw [hkf] at h2; simp at h2; simp [execOp, rh_of hx, rh_of hy, Instr.lookup, run_underlying hs, h1, run_checkKey hk, run_findKey hk hf, hkf, zeroValue, typeInfo, hi, hzz, ← h2]
    | some q => obtain ⟨q, u⟩ := q; rw [hkf] at h2; simp at h2; simp [execOp, rh_of hx, rh_of hy, Instr.lookup, run_underlying hs, h1, run_checkKey hk, run_findKey hk hf, hkf, ← h2]

theorem kfind_none {i : Int} : ∀ {kv : KV} {j : Nat}, kfind kv i j = none → i ∉ kv.map (·.1)
  | [], _, _ => by simp
  | (k, v) :: r, j, h => by
    by_cases hk : i = k
    · subst hk; simp [kfind] at h
    · simp [kfind, hk] at h; simpa [hk] using kfind_none h
theorem kput_new {i : Int} {v : Value} : ∀ {kv : KV}, i ∉ kv.map (·.1) → kput kv i v = kv ++ [(i, v)]
  | [], _ => rfl
  | (k, u) :: r, h => by simp at h; simp [kput, h.1, kput_new (kv := r) (i := i) (v := v) (by simpa using h.2)]

/-- 'm[k] = v' -/
theorem x_mu (ho : ops[i]? = some ⟨none, .mapUpdate s x y c, t, p, af, g⟩) (hg : Gd ops e g) (hs : P.underlying s = some (.map kt et)) (hk : P.underlying kt = some (.int .i64)) (hx : ev e x = some (.map (some m))) (hy : ev e y = some (.int .i64 a)) (hc : ev e c = some v)
    (hw : Sat G L w) (hp : Pick (mapI m kv) L R) (hpd : pend P ops dr done i = []) (h : ∀ w', Sat G (mapI m (kput kv a v) :: R) w' → XL P n ops dr (i :: done) r K e w') : XL P n ops dr done (i :: r) K e w := by
  obtain ⟨es, ck, hf, hw'⟩ := mapI_open (hw.pick hp)
  have h1 := run_getObj (P := P) hw'.pt_head (by simp)
  have hso := fun o' => run_setObj (P := P) o' hw'.pt_head (by simp)
  cases hkf : kfind kv a 0 with
  | none =>
    have hnk := kfind_none hkf
    have hfit : Fits (es.push { key := .int .i64 a, val := v, born := ck }).toList (ck + 1) (kput kv a v) := by
      refine ⟨by rw [kput_new hnk]; simp [hf.pairs], kput_nodup hf.keys _ _, fun e he => ?_, ?_⟩
      · simp at he; rcases he with he | rfl
        · have := hf.old e (by simpa using he); omega
        · simp
      · simp only [Array.toList_push, List.map_append, List.map_cons, List.map_nil]
        refine List.nodup_append.2 ⟨hf.borns, by simp, fun b hb c hc => ?_⟩
        simp at hc; subst hc
        obtain ⟨e, he, rfl⟩ := List.mem_map.1 hb
        have := hf.old e he; omega
    refine xl_effu ho rfl hg (ρ := rh e) (by intro z hZ; simp [Op.operands] at hZ; exact oh3 hx hy hc hZ) rfl (w' := _) ?_ (noPend (dst := none) hpd) (h _ (mapI_shut hfit (hw'.set _)))
    simp [execOp, rh_of hx, rh_of hy, rh_of hc, Instr.mapUpdate, run_underlying hs, h1, run_checkKey hk, run_findKey hk hf, hkf, hso]
  | some q =>
    obtain ⟨q, u⟩ := q
    obtain ⟨_, e', h4, h5, h6, h7, _⟩ := kfind_put a v es.toList kv 0 hf.pairs q u hkf
    simp only [Nat.sub_zero] at h4 h6 h7
    have hfit : Fits (es.modify q fun e => { e with key := .int .i64 a, val := v }).toList ck (kput kv a v) := by
      have em : (es.modify q fun e => { e with key := .int .i64 a, val := v }).toList = es.toList.modify q fun e => { e with key := .int .i64 a, val := v } := by simp
      rw [em]
      refine ⟨h6, kput_nodup hf.keys _ _, fun x hx => ?_, by rw [h7]; exact hf.borns⟩
      have hb : x.born ∈ (es.toList.modify q fun e => { e with key := .int .i64 a, val := v }).map (·.born) := List.mem_map.2 ⟨x, hx, rfl⟩
      rw [h7] at hb
      obtain ⟨z, hz, hzb⟩ := List.mem_map.1 hb
      have := hf.old z hz; omega
    refine xl_effu ho rfl hg (ρ := rh e) (by intro z hZ; simp [Op.operands] at hZ; exact oh3 hx hy hc hZ) rfl (w' := _) ?_ (noPend (dst := none) hpd) (h _ (mapI_shut hfit (hw'.set _)))
    have hkey : ((es[q]?).map (·.key)).getD (.int .i64 a) = .int .i64 a := by
      have : es[q]? = some e' := by simpa using h4
      simp [this, h5]
    simp [execOp, rh_of hx, rh_of hy, rh_of hc, Instr.mapUpdate, run_underlying hs, h1, run_checkKey hk, run_findKey hk hf, hkf, hso, hkey, Instr.keyThatStays, Instr.sameBits]

/-- 'delete(m, k)' -/
theorem x_del {ts : Array TypeId} (ho : ops[i]? = some ⟨none, .call ⟨.builtin .delete, #[x, y], ts⟩, t, p, af, g⟩) (hg : Gd ops e g) (ht : ts[0]? = some s) (hs : P.underlying s = some (.map kt et)) (hk : P.underlying kt = some (.int .i64)) (hx : ev e x = some (.map (some m))) (hy : ev e y = some (.int .i64 a))
    (hw : Sat G L w) (hp : Pick (mapI m kv) L R) (hpd : pend P ops dr done i = []) (h : ∀ w', Sat G (mapI m (kdel kv a) :: R) w' → XL P n ops dr (i :: done) r K e w') : XL P n ops dr done (i :: r) K e w := by
  obtain ⟨es, ck, hf, hw'⟩ := mapI_open (hw.pick hp)
  have h1 := run_getObj (P := P) hw'.pt_head (by simp)
  have hso := fun o' => run_setObj (P := P) o' hw'.pt_head (by simp)
  cases hkf : kfind kv a 0 with
  | none =>
    have hnk := kfind_none hkf
    have hdel : ∀ {kv : KV}, a ∉ kv.map (·.1) → kdel kv a = kv := by
      intro kv
      induction kv with
      | nil => intro _; rfl
      | cons p r ih => intro hn; obtain ⟨k, u⟩ := p; simp at hn; simp [kdel, hn.1, ih (by simpa using hn.2)]
    have hfit : Fits es.toList ck (kdel kv a) := by rw [hdel hnk]; exact hf
    refine xl_eff ho rfl hg (ρ := rh e) (by intro z hZ; simp [Op.operands, Call.operands] at hZ; exact oh2 hx hy hZ) rfl (v := .tuple #[]) (w' := _) ?_ (noPend (dst := none) hpd) (h _ (mapI_shut hfit (hw'.set _)))
    simp [execOp, resolve, invoke, builtin, rh_of hx, rh_of hy, Builtin.delete_, ht, run_underlying hs, h1, run_checkKey hk, run_findKey hk hf, hkf, hso]
  | some q =>
    obtain ⟨q, u⟩ := q
    obtain ⟨_, e', h4, h5, _, _, h8⟩ := kfind_put a (.int .i64 0) es.toList kv 0 hf.pairs q u hkf
    simp only [Nat.sub_zero] at h4 h8
    have hql : q < es.size := by have := (List.getElem?_eq_some_iff.1 h4).1; simpa using this
    have em : (es.eraseIdxIfInBounds q).toList = es.toList.eraseIdx q := by simp [Array.eraseIdxIfInBounds, hql]
    have hfit : Fits (es.eraseIdxIfInBounds q).toList ck (kdel kv a) := by
      rw [em]
      exact ⟨h8, kdel_nodup hf.keys _, fun x hx => hf.old x ((List.eraseIdx_sublist ..).subset hx), hf.borns.sublist ((List.eraseIdx_sublist ..).map _)⟩
    refine xl_eff ho rfl hg (ρ := rh e) (by intro z hZ; simp [Op.operands, Call.operands] at hZ; exact oh2 hx hy hZ) rfl (v := .tuple #[]) (w' := _) ?_ (noPend (dst := none) hpd) (h _ (mapI_shut hfit (hw'.set _)))
    simp [execOp, resolve, invoke, builtin, rh_of hx, rh_of hy, Builtin.delete_, ht, run_underlying hs, h1, run_checkKey hk, run_findKey hk hf, hkf, hso]

/-- 'clear(m)' -/
theorem x_clr {ts : Array TypeId} (ho : ops[i]? = some ⟨none, .call ⟨.builtin .clear, #[x], ts⟩, t, p, af, g⟩) (hg : Gd ops e g) (ht : ts[0]? = some s) (hs : P.underlying s = some (.map kt et)) (hx : ev e x = some (.map (some m)))
    (hw : Sat G L w) (hp : Pick (mapI m kv) L R) (hpd : pend P ops dr done i = []) (h : ∀ w', Sat G (mapI m [] :: R) w' → XL P n ops dr (i :: done) r K e w') : XL P n ops dr done (i :: r) K e w := by
  obtain ⟨es, ck, hf, hw'⟩ := mapI_open (hw.pick hp)
  have h1 := run_getObj (P := P) hw'.pt_head (by simp)
  have hso := fun o' => run_setObj (P := P) o' hw'.pt_head (by simp)
  refine xl_eff ho rfl hg (ρ := rh e) (by intro z hZ; simp [Op.operands, Call.operands] at hZ; exact oh1 hx hZ) rfl (v := .tuple #[]) (w' := _) ?_ (noPend (dst := none) hpd) (h _ (mapI_shut (es := #[]) (ck := ck) ⟨rfl, by simp, by simp, by simp⟩ (hw'.set _)))
  simp [execOp, resolve, invoke, builtin, rh_of hx, Builtin.clear_, ht, run_underlying hs, h1, hso]

/-- A map that is being gone through: 'vis', the keys that came up, the last one first. -/
def iter (it m : Nat) (kv : KV) (vis : List Int) : Assn := fun h => ∃ (es : Array MapEntry) (ck : Nat) (sq : Array Nat) (vs : List MapEntry), h m = some (.map es ck) ∧ h it = some (.mapIter (some m) ck sq ck) ∧ m ≠ it ∧ Fits es.toList ck kv ∧
  (∀ e ∈ vs, e ∈ es.toList) ∧ (vs.map fun (e : MapEntry) => e.born) = sq.toList.reverse ∧ (vs.map fun (e : MapEntry) => e.key) = vis.map (Value.int .i64 ·)

theorem iter_open {it : Nat} {vis : List Int} (hw : Sat G (iter it m kv vis :: R) w) : ∃ (es : Array MapEntry) (ck : Nat) (sq : Array Nat) (vs : List MapEntry), Fits es.toList ck kv ∧ (∀ e ∈ vs, e ∈ es.toList) ∧ (vs.map fun (e : MapEntry) => e.born) = sq.toList.reverse ∧ (vs.map fun (e : MapEntry) => e.key) = vis.map (Value.int .i64 ·) ∧
    Sat G (pt it (.mapIter (some m) ck sq ck) :: pt m (.map es ck) :: R) w := by
  obtain ⟨hg, h, hh, h1, h2, hd, hu, ⟨es, ck, sq, vs, hm, hi, hne, hf, h3, h4, h5⟩, hL⟩ := hw
  refine ⟨es, ck, sq, vs, hf, h3, h4, h5, hg, h, hh, fun b => if b = it then h1 b else none, fun b => if b = it then none else union h1 h2 b, fun b => ?_, fun b o hb => ?_, by simp [pt, hi], fun b => if b = it then none else h1 b, h2, fun b => ?_, fun b o hb => ?_, by simp [pt, hne, hm], hL⟩
  · by_cases e : b = it <;> simp [e]
  · refine hu b o ?_
    rcases union_cases hb with hb | hb
    · have hb' : (if b = it then h1 b else none) = some o := hb
      split at hb'
      · exact union_left hb'
      · cases hb'
    · have hb' : (if b = it then none else union h1 h2 b) = some o := hb
      split at hb'
      · cases hb'
      · exact hb'
  · by_cases e : b = it
    · exact .inl (by simp [e])
    · rcases hd b with h | h
      · exact .inl (by simp [h])
      · exact .inr h
  · have hit : h2 it = none := (hd it).resolve_left (by simp [hi])
    by_cases e : b = it
    · subst e; rcases union_cases hb with hb | hb
      · simp at hb
      · rw [hit] at hb; cases hb
    · simp only [if_neg e]
      rcases union_cases hb with hb | hb
      · simp [e] at hb; exact union_left hb
      · exact union_right hd hb

theorem iter_shut {it : Nat} {vis : List Int} {es : Array MapEntry} {ck : Nat} {sq : Array Nat} {vs : List MapEntry} (hf : Fits es.toList ck kv) (h3 : ∀ e ∈ vs, e ∈ es.toList) (h4 : (vs.map fun (e : MapEntry) => e.born) = sq.toList.reverse) (h5 : (vs.map fun (e : MapEntry) => e.key) = vis.map (Value.int .i64 ·))
    (hw : Sat G (pt it (.mapIter (some m) ck sq ck) :: pt m (.map es ck) :: R) w) : Sat G (iter it m kv vis :: R) w := by
  have hne := hw.ne
  have h : Sat G (both [pt it (.mapIter (some m) ck sq ck), pt m (.map es ck)] :: R) w := Sat.both_in (M := [_, _]) hw
  refine h.cons_mono fun h ⟨h1, h2, hd, hu, hi, h6, h7, hd', hu', hm, _⟩ => ⟨es, ck, sq, vs, hu m _ (union_right hd (hu' m _ (union_left hm))), hu it _ (union_left hi), fun e => hne e.symm, hf, h3, h4, h5⟩

/-- 'for k, v := range m', its beginning. -/
theorem x_rng (ho : ops[i]? = some ⟨some d, .range s x, t, p, af, g⟩) (hd : Nat.blt d n = true) (hg : Gd ops e g) (hs : P.underlying s = some (.map kt et)) (hx : ev e x = some (.map (some m))) (hw : Sat G L w) (hp : Pick (mapI m kv) L R) (hpd : pend P ops dr done i = [])
    (h : ∀ w' it, Sat G (iter it m kv [] :: R) w' → XL P n ops dr (i :: done) r K ((d, .pointer (some ⟨it, 0, none⟩)) :: e) w') : XL P n ops dr done (i :: r) K e w := by
  obtain ⟨es, ck, hf, hw'⟩ := mapI_open (hw.pick hp)
  have h1 := run_getObj (P := P) hw'.pt_head (by simp)
  refine xl_eff ho (by simpa [dstOk] using hd) hg (ρ := rh e) (by intro z hZ; simp [Op.operands] at hZ; exact oh1 hx hZ) rfl (v := .pointer (some ⟨w.heap.size, 0, none⟩)) (w' := { w with heap := w.heap.push (.mapIter (some m) ck #[] ck) }) ?_ (noPend hpd)
    (h _ _ (iter_shut (vs := []) hf (by simp) (by simp) (by simp) (hw'.push _)))
  simp [execOp, rh_of hx, Instr.range, run_underlying hs, h1, newObj, Sem.run]

theorem born_inj {es : List MapEntry} (h : (es.map (·.born)).Nodup) {a b : MapEntry} (ha : a ∈ es) (hb : b ∈ es) (e : a.born = b.born) : a = b := by
  induction es with
  | nil => cases ha
  | cons x es ih =>
    simp only [List.map_cons, List.nodup_cons] at h
    rcases List.mem_cons.1 ha with ha1 | ha1 <;> rcases List.mem_cons.1 hb with hb1 | hb1
    · rw [ha1, hb1]
    · exact absurd (List.mem_map.2 ⟨b, hb1, by rw [← e, ha1]⟩) h.1
    · exact absurd (List.mem_map.2 ⟨a, ha1, by rw [e, hb1]⟩) h.1
    · exact ih h.2 ha1 hb1

theorem Fits.entry {es : List MapEntry} {ck : Nat} (hf : Fits es ck kv) {x : MapEntry} (hx : x ∈ es) : ∃ k, x.key = .int .i64 k ∧ klook kv k = some x.val := by
  have : (x.key, x.val) ∈ kv.map fun p => (Value.int .i64 p.1, p.2) := by rw [← hf.pairs]; exact List.mem_map.2 ⟨x, hx, rfl⟩
  obtain ⟨p, hp, he⟩ := List.mem_map.1 this
  simp only [Prod.mk.injEq] at he
  exact ⟨p.1, he.1.symm, by rw [← he.2]; exact mem_klook hf.keys hp⟩
theorem Fits.key_inj {es : List MapEntry} {ck : Nat} (hf : Fits es ck kv) {a b : MapEntry} (ha : a ∈ es) (hb : b ∈ es) (e : a.key = b.key) : a = b := by
  have hn : (es.map (·.key)).Nodup := by
    have : es.map (·.key) = (kv.map (·.1)).map (Value.int .i64 ·) := by
      have := congrArg (List.map (·.1)) hf.pairs; simpa [List.map_map, Function.comp_def] using this
    rw [this]
    exact List.Pairwise.map _ (fun a b hab h => hab (by simpa using h)) hf.keys
  clear hf
  induction es with
  | nil => cases ha
  | cons x es ih =>
    simp only [List.map_cons, List.nodup_cons] at hn
    rcases List.mem_cons.1 ha with ha1 | ha1 <;> rcases List.mem_cons.1 hb with hb1 | hb1
    · rw [ha1, hb1]
    · exact absurd (List.mem_map.2 ⟨b, hb1, by rw [← e, ha1]⟩) hn.1
    · exact absurd (List.mem_map.2 ⟨a, ha1, by rw [e, hb1]⟩) hn.1
    · exact ih ha1 hb1 hn.2
theorem Fits.of_key {es : List MapEntry} {ck : Nat} (hf : Fits es ck kv) {k : Int} {v : Value} (h : klook kv k = some v) : ∃ x ∈ es, x.key = .int .i64 k ∧ x.val = v := by
  have : (Value.int .i64 k, v) ∈ es.map fun e => (e.key, e.val) := by rw [hf.pairs]; exact List.mem_map.2 ⟨(k, v), klook_mem h, rfl⟩
  obtain ⟨x, hx, he⟩ := List.mem_map.1 this
  simp only [Prod.mk.injEq] at he
  exact ⟨x, hx, he.1, he.2⟩

/-- .. its step: it is over, every key came up; or a key comes up that did not. -/
theorem x_nx {it : Nat} {vis : List Int} (ho : ops[i]? = some ⟨some d, .next x false, t, p, af, g⟩) (hd : Nat.blt d n = true) (hg : Gd ops e g) (hx : ev e x = some (.pointer (some ⟨it, 0, none⟩))) (hw : Sat G L w) (hp : Pick (iter it m kv vis) L R) (hpd : pend P ops dr done i = [])
    (hover : ∀ w', (∀ k v, klook kv k = some v → k ∈ vis) → Sat G (iter it m kv vis :: R) w' → XL P n ops dr (i :: done) r K ((d, .tuple #[.bool false]) :: e) w')
    (hnext : ∀ w' k v, klook kv k = some v → k ∉ vis → Sat G (iter it m kv (k :: vis) :: R) w' → XL P n ops dr (i :: done) r K ((d, .tuple #[.bool true, .int .i64 k, v]) :: e) w') : XL P n ops dr done (i :: r) K e w := by
  obtain ⟨es, ck, sq, vs, hf, h3, h4, h5, hw'⟩ := iter_open (hw.pick hp)
  have h1 := run_getObj (P := P) hw'.pt_head (by simp)
  have h2 := run_getObj (P := P) (hw'.pt (.there .here)) (by simp)
  have hso := fun o' => run_setObj (P := P) o' hw'.pt_head (by simp)
  have hsq : ∀ b, b ∈ sq ↔ ∃ x ∈ vs, MapEntry.born x = b := fun b => by
    have : b ∈ sq.toList.reverse ↔ b ∈ vs.map fun (e : MapEntry) => e.born := by rw [h4]
    simpa using this
  have hvis : ∀ k, k ∈ vis ↔ ∃ x ∈ vs, x.key = .int .i64 k := fun k => by
    have : (Value.int .i64 k) ∈ vis.map (Value.int .i64 ·) ↔ (Value.int .i64 k) ∈ vs.map fun (e : MapEntry) => e.key := by rw [h5]
    simpa using this
  -- the test for an entry that is younger than the last step says no
  have hyoung : (!sq.isEmpty && !es.isEmpty && es.all (·.born ≥ ck)) = false := by
    cases he : es.isEmpty with
    | true => simp
    | false =>
      have hne : es.toList ≠ [] := by intro h; simp at he; exact he (by simpa using h)
      obtain ⟨x, r', hxr⟩ := List.exists_cons_of_ne_nil hne
      have hx0 : x ∈ es.toList := by rw [hxr]; simp
      have := hf.old x hx0
      have : es.all (·.born ≥ ck) = false := by
        cases hb : es.all (·.born ≥ ck) with
        | false => rfl
        | true => have := Array.all_eq_true_iff_forall_mem.1 hb x (by simpa using hx0); simp at this; omega
      simp [this]
  let left := es.filter fun e => !sq.contains e.born
  have hold : left.filter (·.born < ck) = left := by
    apply Array.filter_eq_self.2
    intro x hx; have := hf.old x (by have := (Array.mem_filter.1 hx).1; simpa using this); simpa using this
  have hnew : left.filter (·.born ≥ ck) = #[] := by
    apply Array.filter_eq_empty_iff.2
    intro x hx; have := hf.old x (by have := (Array.mem_filter.1 hx).1; simpa using this); simpa using this
  have hexec : ∀ r', (Instr.next (.pointer (some ⟨it, 0, none⟩)) false t).run P w = r' → (execOp (rh e) ⟨some d, .next x false, t, p, af, g⟩).run P w = r'.andThen fun v w' => .ok (.value v) w' := fun r' hr => by
    simp only [execOp, rh_of hx, Sem.run_bind, hr]; rfl
  by_cases hl : left = #[]
  · refine xl_eff ho (by simpa [dstOk] using hd) hg (ρ := rh e) (by intro z hZ; simp [Op.operands] at hZ; exact oh1 hx hZ) rfl (v := .tuple #[.bool false]) (w' := w) ?_ (noPend hpd) (hover _ (fun k v hk => ?_) (hw.pick hp))
    · refine (hexec (.ok (.tuple #[.bool false]) w) ?_).trans rfl
      simp only [Instr.next, Sem.run_bind, h1, h2, Result.andThen_ok, hyoung]
      have e1 : (es.filter fun e => !sq.contains e.born) = left := rfl
      simp only [e1, hl]
      simp [choose, Sem.run, Question.forced]
    · obtain ⟨x, hx, hxk, _⟩ := hf.of_key hk
      have : ¬ x ∈ left := by rw [hl]; simp
      have hb : x.born ∈ sq := by
        cases hc : sq.contains x.born with
        | true => simpa using hc
        | false => exact absurd (Array.mem_filter.2 ⟨by simpa using hx, by rw [hc]; rfl⟩) this
      obtain ⟨y, hy, hyb⟩ := (hsq _).1 hb
      have : y = x := born_inj hf.borns (h3 y hy) hx hyb
      subst this
      exact (hvis k).2 ⟨y, hy, hxk⟩
  · have hls : 0 < left.size := Nat.pos_of_ne_zero fun h => hl (Array.eq_empty_of_size_eq_zero h)
    have hemp : left.isEmpty = false := by simp [Array.isEmpty]; omega
    -- whichever is chosen
    have key : ∃ (x : MapEntry) (w0 : World), x ∈ left ∧ (∀ G' L', Sat G' L' w → Sat G' L' w0) ∧ w0.heap = w.heap ∧
        (Instr.next (.pointer (some ⟨it, 0, none⟩)) false t).run P w = .ok (.tuple #[.bool true, x.key, x.val]) { w0 with heap := w0.heap.setIfInBounds it (.mapIter (some m) ck (sq.push x.born) ck) } := by
      let q := Question.mapNext left.size
      let j := if q.forced then 0 else q.cut (w.tape w.drawn q)
      have hj : j < left.size := by
        by_cases hqf : q.forced = true
        · simp [j, hqf]; exact hls
        · simp [j, hqf, q, Question.cut]; exact Nat.mod_lt _ hls
      have hjg : left[j]? = some left[j] := Array.getElem?_eq_getElem hj
      refine ⟨left[j], if q.forced then w else { w with drawn := w.drawn + 1 }, Array.getElem_mem hj, fun G' L' h => by split; (exact h); (exact h.drawn _), by split <;> rfl, ?_⟩
      simp only [Instr.next, Sem.run_bind, h1, h2, Result.andThen_ok, hyoung]
      have e2 : (es.filter fun e => !sq.contains e.born) = left := rfl
      simp only [e2, hold, hnew, hemp, Array.append_empty, Array.size_map, Bool.false_eq_true, if_false, Array.empty_append, Sem.run_pure, Result.andThen_ok]
      have hch : (choose (.mapNext left.size)).run P w = .ok j (if q.forced then w else { w with drawn := w.drawn + 1 }) := by
        unfold choose; simp only [Sem.run]; by_cases hqf : q.forced = true <;> simp [q, j] at hqf ⊢ <;> simp [hqf]
      rw [Sem.run_bind, hch]
      simp only [Result.andThen_ok, Array.getElem?_map, hjg, Option.map_some]
      have hso' : ∀ o', (setObj it o').run P (if q.forced then w else { w with drawn := w.drawn + 1 }) = .ok () { (if q.forced then w else { w with drawn := w.drawn + 1 }) with heap := (if q.forced then w else { w with drawn := w.drawn + 1 }).heap.setIfInBounds it o' } := fun o' =>
        run_setObj (P := P) o' (by split <;> exact hw'.pt_head) (by simp)
      rw [Sem.run_bind, hso']; rfl
    obtain ⟨x, w0, hxl, hsat, hheap, hrun⟩ := key
    have hxe : x ∈ es.toList := by have := (Array.mem_filter.1 hxl).1; simpa using this
    have hxn : ¬ x.born ∈ sq := by have := (Array.mem_filter.1 hxl).2; simpa using this
    obtain ⟨k, hk, hkv⟩ := hf.entry hxe
    have hkn : k ∉ vis := fun hc => by
      obtain ⟨y, hy, hyk⟩ := (hvis k).1 hc
      have : y = x := hf.key_inj (h3 y hy) hxe (hyk.trans hk.symm)
      subst this
      exact hxn ((hsq _).2 ⟨y, hy, rfl⟩)
    have hfin := iter_shut (m := m) (vis := k :: vis) (vs := x :: vs) (sq := sq.push x.born) hf (fun y hy => by rcases List.mem_cons.1 hy with rfl | hy; (exact hxe); (exact h3 y hy)) (by simp [h4]) (by simp [h5, hk]) ((hsat _ _ hw').set _)
    rw [hk] at hrun
    exact xl_eff ho (by simpa [dstOk] using hd) hg (ρ := rh e) (by intro z hZ; simp [Op.operands] at hZ; exact oh1 hx hZ) rfl (v := .tuple #[.bool true, .int .i64 k, x.val]) (w' := _) ((hexec _ hrun).trans rfl) (noPend hpd) (hnext _ k x.val hkv hkn hfin)

/-- .. the pair that came up. -/
theorem x_ent {it : Nat} {vis : List Int} {k : Int} (ho : ops[i]? = some ⟨some d, .entry x, t, p, af, g⟩) (hd : Nat.blt d n = true) (hg : Gd ops e g) (hx : ev e x = some (.pointer (some ⟨it, 0, none⟩))) (hw : Sat G L w) (hp : Pick (iter it m kv (k :: vis)) L R) (hv : klook kv k = some v)
    (h : XL P n ops dr (i :: done) r K ((d, .tuple #[.int .i64 k, v]) :: e) w) : XL P n ops dr done (i :: r) K e w := by
  obtain ⟨es, ck, sq, vs, hf, h3, h4, h5, hw'⟩ := iter_open (hw.pick hp)
  have h1 := run_getObj (P := P) hw'.pt_head (by simp)
  have h2 := run_getObj (P := P) (hw'.pt (.there .here)) (by simp)
  cases vs with
  | nil => simp at h5
  | cons x0 vs =>
    simp only [List.map_cons, List.cons.injEq] at h4 h5
    have hx0 : x0 ∈ es.toList := h3 x0 (List.mem_cons_self ..)
    have hback : sq.back? = some x0.born := by
      have : sq.toList.reverse.head? = some x0.born := by rw [← h4]; rfl
      rw [Array.back?_eq_getElem?]; simpa [List.getLast?_eq_getElem?] using this
    obtain ⟨k', hk', hkv⟩ := hf.entry hx0
    have : k' = k := by have := hk'.symm.trans h5.1; simpa using this
    subst this
    have hval : x0.val = v := by rw [hv] at hkv; simpa using hkv.symm
    have hfind : es.find? (·.born == x0.born) = some x0 := by
      rw [← Array.find?_toList]
      obtain ⟨y, hy⟩ : ∃ y, es.toList.find? (·.born == x0.born) = some y := by
        cases hq : es.toList.find? (·.born == x0.born) with
        | some y => exact ⟨y, rfl⟩
        | none => have := List.find?_eq_none.1 hq x0 hx0; simp at this
      rw [hy]
      have hyb := List.find?_some hy
      simp only [beq_iff_eq] at hyb
      rw [born_inj hf.borns (List.mem_of_find?_eq_some hy) hx0 hyb]
    refine xl_read ho (by simpa [dstOk] using hd) hg (ρ := rh e) (by intro z hZ; simp [Op.operands] at hZ; exact oh1 hx hZ) rfl (v := .tuple #[.int .i64 k', v]) ?_ h
    simp [execOp, rh_of hx, Instr.entry, h1, h2, hback, hfind, hk', hval]

end
end Go.Proofs.Ytekilljcoplacaa.X
