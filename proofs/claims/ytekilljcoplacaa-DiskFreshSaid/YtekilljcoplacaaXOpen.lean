/- What an argument is in memory: slices of bytes, of calls; and that what is read behind a call is what was read before it. -/
import Derived.Test.YtekilljcoplacaaXLaw6a
import Derived.OpenShut
import Derived.ReadAgain
import Derived.HandedShaped
namespace Go.Proofs.Ytekilljcoplacaa.X
open Go.ChangeShapes Go.WideShapes Go.RowKit
set_option linter.unusedVariables false
set_option linter.unusedSimpArgs false

theorem Rd.append {w : World} {b o : Nat} {xs ys : List Value} (h1 : Rd w ⟨b, o, none⟩ xs) (h2 : Rd w ⟨b, o + xs.length, none⟩ ys) : Rd w ⟨b, o, none⟩ (xs ++ ys) := fun j u hu => by
  rw [List.getElem?_append] at hu
  split at hu
  · exact h1 j u hu
  · rename_i hj
    have := h2 (j - xs.length) u hu
    rw [add_lit] at this ⊢
    rwa [show o + xs.length + (j - xs.length) = o + j by omega] at this

theorem Rd.rows {w : World} {b o z : Nat} (f : Nat → List Value) : ∀ n, (∀ i, i < n → (f i).length = z ∧ Rd w ⟨b, o + i * z, none⟩ (f i)) → Rd w ⟨b, o, none⟩ ((List.range n).map f).flatten ∧ ((List.range n).map f).flatten.length = n * z
  | 0, _ => ⟨Rd.nil, by simp⟩
  | n + 1, h => by
    obtain ⟨h1, h2⟩ := Rd.rows f n fun i hi => h i (by omega)
    obtain ⟨h3, h4⟩ := h n (by omega)
    rw [List.range_succ, List.map_append, List.flatten_append]
    refine ⟨h1.append (by rw [h2]; simpa using h4), ?_⟩
    simp only [List.length_append, h2, List.map_cons, List.map_nil, List.flatten_cons, List.flatten_nil, List.append_nil, h3, Nat.add_mul, Nat.one_mul]

theorem cells_get {w : World} {a : Addr} {n : Nat} {cs : List Value} (h : w.cells? 0 a n = some cs) : cs.length = n ∧ ∀ i, i < n → w.cell? (a.add i) = cs[i]? := by
  unfold World.cells? at h
  rw [if_pos (Nat.zero_le _)] at h
  exact ⟨by simpa using mapM_some_length h, fun i hi => mapM_some_get h i i (by simp [hi])⟩

section
variable {H : Type} {enc : TypeId × Value → H} {P : Program} {w : World} {n : Nat} {cs : List Value} {x : DataW H × List MemPlace} {t : TypeId}

/-- A slice, opened: its rows. -/
theorem open_slice {e : TypeId} {z k : Nat} (ht : P.underlying t = some (.slice e)) (hz : P.cellsOf e = z) (hz0 : 0 < z) (hk : P.bytesOf e = k) (h : DataW.trod enc P w 0 (fun _ => true) true n t cs = some x) (hwt : ∀ q ∈ DataW.weights P t x.1, q ≤ reachBytes) :
    ∃ (v : Value) (rows : List (List Value)), cs = [v] ∧ rows.length * k ≤ reachBytes ∧
      (((∃ a, v = .slice a 0 0) ∧ rows = []) ∨ ∃ b o cap, v = .slice (some ⟨b, o, none⟩) rows.length cap ∧ rows.length ≤ cap ∧ Rd w ⟨b, o, none⟩ rows.flatten) ∧
      ∀ r ∈ rows, ∃ m y, DataW.trod enc P w 0 (fun _ => true) true m e r = some y ∧ ∀ q ∈ DataW.weights P e y.1, q ≤ reachBytes := by
  rcases DataW.trod_slice ht h with ⟨rfl, rfl⟩ | ⟨a, len, cap, elems, rest, m, rfl, rfl, rfl, _, hlc, hcm, hel, hget, hrest, _⟩
  · exact ⟨_, [], rfl, by simp, .inl ⟨⟨_, rfl⟩, rfl⟩, by simp⟩
  · obtain ⟨hrl, hrget⟩ := hrest rfl
    rw [hz] at hget hrget
    simp only [DataW.weights, ht, hk, List.length_map, List.mem_cons, List.mem_append] at hwt
    have hall : ∀ (y : DataW H × List MemPlace), y ∈ elems → ∀ q ∈ DataW.weights P e y.1, q ≤ reachBytes := fun y hy q hq => by
      refine hwt q (.inr (.inl ?_))
      have gen : ∀ l : List (DataW H), y.1 ∈ l → q ∈ DataW.weightsAll P e l := by
        intro l
        induction l with
        | nil => intro h; cases h
        | cons d l ih =>
          intro h
          rw [DataW.weightsAll, List.mem_append]
          rcases List.mem_cons.1 h with h | h
          · subst h; exact .inl hq
          · exact .inr (ih h)
      exact gen _ (List.mem_map_of_mem hy)
    by_cases hc : cap = 0
    · have : len = 0 := by omega
      subst hc; subst this
      exact ⟨_, [], rfl, by simp, .inl ⟨⟨_, rfl⟩, rfl⟩, by simp⟩
    · -- the address is plain
      have hfirst : ∃ c0, w.cells? 0 (a.add (0 * z)) z = some c0 := by
        by_cases hl : 0 < len
        · have h1 := hget 0 hl
          have : 0 < elems.length := by omega
          rw [List.getElem?_eq_getElem this] at h1
          obtain ⟨c0, h2, _⟩ := Option.bind_eq_some_iff.1 h1
          exact ⟨c0, h2⟩
        · have hl0 : len = 0 := by omega
          have h1 := hrget 0 (by omega)
          have : 0 < rest.length := by omega
          rw [List.getElem?_eq_getElem this] at h1
          obtain ⟨c0, h2, _⟩ := Option.bind_eq_some_iff.1 h1
          rw [hl0] at h2
          exact ⟨c0, h2⟩
      obtain ⟨b, o, spot⟩ := a
      have hsp : spot = none := by
        obtain ⟨c0, h0⟩ := hfirst
        obtain ⟨h1, h2⟩ := cells_get h0
        have h3 := h2 0 hz0
        have : 0 < c0.length := by omega
        rw [List.getElem?_eq_getElem this] at h3
        simpa [Addr.add] using World.cell?_spot h3
      subst hsp
      have hrow : ∀ i, i < len → ∃ r, w.cells? 0 (Addr.add ⟨b, o, none⟩ (i * z)) z = some r ∧ ∃ y, y ∈ elems ∧ DataW.trod enc P w 0 (fun _ => true) true m e r = some y := fun i hi => by
        have h1 := hget i hi
        have hi' : i < elems.length := by omega
        rw [List.getElem?_eq_getElem hi'] at h1
        obtain ⟨r, h2, h3⟩ := Option.bind_eq_some_iff.1 h1
        exact ⟨r, h2, _, List.getElem_mem hi', h3⟩
      let f : Nat → List Value := fun i => (w.cells? 0 (Addr.add ⟨b, o, none⟩ (i * z)) z).getD []
      have hf : ∀ i, i < len → (f i).length = z ∧ Rd w ⟨b, o + i * z, none⟩ (f i) := fun i hi => by
        obtain ⟨r, h1, _⟩ := hrow i hi
        have hfi : f i = r := by simp only [f, h1, Option.getD_some]
        obtain ⟨h2, h3⟩ := cells_get h1
        rw [hfi]
        refine ⟨h2, fun j u hu => ?_⟩
        have hj : j < z := by
          rcases Nat.lt_or_ge j z with h | h
          · exact h
          · rw [List.getElem?_eq_none (by omega)] at hu; cases hu
        have := (h3 j hj).trans hu
        rwa [add_lit] at this
      refine ⟨_, (List.range len).map f, rfl, ?_, .inr ⟨b, o, cap, by simp, by simpa using hlc, (Rd.rows f len hf).1⟩, fun r hr => ?_⟩
      · have := hwt _ (.inl rfl)
        rw [List.length_map, List.length_range, ← hel]
        exact Nat.le_trans (Nat.mul_le_mul_right _ (Nat.le_add_right _ _)) this
      · obtain ⟨i, hi, rfl⟩ := List.mem_map.1 hr
        obtain ⟨r, h1, y, hy, h2⟩ := hrow i (List.mem_range.1 hi)
        exact ⟨m, y, by simpa [f, h1] using h2, hall y hy⟩

theorem pull {α : Type} {f : α → List Value} {Q : α → Prop} : ∀ (rows : List (List Value)), (∀ r ∈ rows, ∃ c, r = f c ∧ Q c) → ∃ l : List α, rows = l.map f ∧ ∀ c ∈ l, Q c
  | [], _ => ⟨[], rfl, by simp⟩
  | r :: rows, h => by
    obtain ⟨c, rfl, hc⟩ := h r (List.mem_cons_self ..)
    obtain ⟨l, rfl, hl⟩ := pull rows fun r hr => h r (List.mem_cons_of_mem _ hr)
    exact ⟨c :: l, rfl, fun d hd => by
      rcases List.mem_cons.1 hd with h | h
      · subst h; exact hc
      · exact hl d h⟩

/-- A slice of bytes, opened. -/
theorem open_bytes {e : TypeId} (ht : P.underlying t = some (.slice e)) (he : P.underlying e = some (.int .u8)) (hz : P.cellsOf e = 1) (hk : P.bytesOf e = 1) (h : DataW.trod enc P w 0 (fun _ => true) true n t cs = some x) (hwt : ∀ q ∈ DataW.weights P t x.1, q ≤ reachBytes) :
    ∃ (v : Value) (l : Bys), cs = [v] ∧ SlB v l w ∧ l.length ≤ 140737488351232 := by
  obtain ⟨v, rows, rfl, hb, hs, hr⟩ := open_slice ht hz (by decide) hk h hwt
  obtain ⟨l, rfl, -⟩ := pull (f := fun c : UInt8 => [bv c]) (Q := fun _ => True) rows fun r hm => by
    obtain ⟨m, y, h1, _⟩ := hr r hm
    obtain ⟨k, rfl, rfl, hwf⟩ := DataW.trod_int he h1
    have := bounds_u8 hwf
    refine ⟨UInt8.ofNat k.toNat, ?_, trivial⟩
    simp only [bv, List.cons.injEq, and_true, Value.int.injEq, true_and]
    have h2 : (UInt8.ofNat k.toNat).toNat = k.toNat % 2 ^ 8 := UInt8.toNat_ofNat'
    rw [h2]; omega
  have hfl : (l.map fun c : UInt8 => [bv c]).flatten = bys l := by
    clear hb hs hr
    induction l with
    | nil => rfl
    | cons c l ih => rw [List.map_cons, List.flatten_cons, ih]; rfl
  rw [List.length_map, hfl] at hs
  refine ⟨v, l, rfl, ?_, by simp [reachBytes] at hb; omega⟩
  rcases hs with ⟨ha, hl⟩ | hs
  · exact .inl ⟨ha, by simpa using hl⟩
  · exact .inr hs

/-- A slice of bools, opened. -/
theorem open_bools {e : TypeId} (ht : P.underlying t = some (.slice e)) (he : P.underlying e = some .bool) (hz : P.cellsOf e = 1) (hk : P.bytesOf e = 1) (h : DataW.trod enc P w 0 (fun _ => true) true n t cs = some x) (hwt : ∀ q ∈ DataW.weights P t x.1, q ≤ reachBytes) :
    ∃ (v : Value) (l : List Bool), cs = [v] ∧ SlV v (bools l) w ∧ l.length ≤ 140737488351232 := by
  obtain ⟨v, rows, rfl, hb, hs, hr⟩ := open_slice ht hz (by decide) hk h hwt
  obtain ⟨l, rfl, -⟩ := pull (f := fun c : Bool => [Value.bool c]) (Q := fun _ => True) rows fun r hm => by
    obtain ⟨m, y, h1, _⟩ := hr r hm
    obtain ⟨k, rfl, rfl⟩ := DataW.trod_bool he h1
    exact ⟨k, rfl, trivial⟩
  have hfl : (l.map fun c : Bool => [Value.bool c]).flatten = bools l := by
    clear hb hs hr
    induction l with
    | nil => rfl
    | cons c l ih => rw [List.map_cons, List.flatten_cons, ih]; rfl
  rw [List.length_map, hfl] at hs
  refine ⟨v, l, rfl, ?_, by simp [reachBytes] at hb; omega⟩
  rcases hs with ⟨ha, hl⟩ | hs
  · exact .inl ⟨ha, by simpa [bools] using hl⟩
  · exact .inr (by simpa [bools] using hs)
end

/-! ### What stays -/
theorem cell_old {G : Gh} {R : List Assn} {W w : World} {a : Addr} {u : Value} (hs : Sat G (Old W :: R) w) (h : W.cell? a = some u) : w.cell? a = some u := by
  cases hb : W.heap[a.block]? with
  | none => simp [World.cell?, hb] at h
  | some o =>
    have h1 := hs.old_head hb
    simp only [World.cell?, hb] at h
    simp only [World.cell?, h1]
    exact h
theorem Rd.old {W : World} {a : Addr} {cs : List Value} (h : Rd W a cs) : Knows [Old W] (fun w => Rd w a cs) := fun g w hs j u hu => cell_old hs (h j u hu)
theorem SlB.old {W : World} {v : Value} {l : Bys} (h : SlB v l W) : Knows [Old W] (SlB v l) := fun g w hs => by
  rcases h with h | ⟨b, o, cap, h1, h2, h3⟩
  · exact .inl h
  · exact .inr ⟨b, o, cap, h1, h2, h3.old.at hs⟩
theorem SlV.old {W : World} {v : Value} {l : List Value} (h : SlV v l W) : Knows [Old W] (SlV v l) := fun g w hs => by
  rcases h with h | ⟨b, o, cap, h1, h2, h3⟩
  · exact .inl h
  · exact .inr ⟨b, o, cap, h1, h2, h3.old.at hs⟩
theorem SlO.old {W : World} {v : Value} {l : List OpV} (h : SlO v l W) : Knows [Old W] (SlO v l) := fun g w hs => by
  rcases h with h | ⟨b, o, cap, h1, h2, h3⟩
  · exact .inl h
  · exact .inr ⟨b, o, cap, h1, h2, h3.old.at hs⟩

section
variable {H : Type} {enc : TypeId × Value → H} {W W' : World} {n : Nat} {cs : List Value} {x : DataW H × List MemPlace}

theorem co3 : Try.prog.cellsOf 3 = 1 := by kernel_rfl
theorem co23 : Try.prog.cellsOf 23 = 1 := by kernel_rfl
theorem co5 : Try.prog.cellsOf 5 = 1 := by kernel_rfl
theorem bo5 : Try.prog.bytesOf 5 = 1 := by kernel_rfl
theorem co4 : Try.prog.cellsOf 4 = 1 := by kernel_rfl
theorem bo4 : Try.prog.bytesOf 4 = 1 := by kernel_rfl
theorem co41 : Try.prog.cellsOf 41 = 1 := by kernel_rfl
theorem co43 : Try.prog.cellsOf 43 = 4 := by kernel_rfl
theorem bo43 : Try.prog.bytesOf 43 = 64 := by kernel_rfl
theorem kids : Kids Try.prog (· < Try.prog.types.size) := kids_rows (by kernel_rfl) (by kernel_rfl)
theorem full : ∀ t e, t < Try.prog.types.size → Try.prog.underlying t = some (.slice e) → 0 < Try.prog.cellsOf e := slices_full_of _ (by kernel_rfl)

theorem plain_slice {P : Program} {t e : TypeId} {v : Value} {r : Reach} {b0 : Nat} (ht : P.underlying t = some (.slice e)) (h : Value.okWide P W r b0 t v) : ∃ a len cap, v = .slice a len cap ∧ ∀ x, a = some x → x.spot = none := by
  obtain ⟨a, len, cap, rfl⟩ := okWide_slice ht h
  refine ⟨a, len, cap, rfl, fun x hx => ?_⟩
  subst hx
  simp only [Value.okWide, ht, Cell.okWide, Cell.ok] at h
  exact h.2.2.2.1

/-- A call, opened. -/
theorem open_op (h : DataW.trod enc Try.prog W 0 (fun _ => true) true n 43 cs = some x) (hwt : ∀ q ∈ DataW.weights Try.prog 43 x.1, q ≤ reachBytes) : ∃ o : OpV, cs = o.cells ∧ o.Ok [Old W] := by
  obtain ⟨xs, m, rfl, rfl, hl, hxl, hf⟩ := DataW.trod_struct Try.underlying43 h
  have hu := Try.underlying43
  have hl4 : cs.length = 4 := hl.trans co43
  match cs, hl4 with
  | [a, b, c, d], _ =>
    match xs, (show xs.length = 4 from hxl) with
    | [x0, x1, x2, x3], _ =>
      have h0 : DataW.trod enc Try.prog W 0 (fun _ => true) true m 3 (([a, b, c, d].drop 0).take (Try.prog.cellsOf 3)) = some x0 := hf 0 _ rfl
      have h1 : DataW.trod enc Try.prog W 0 (fun _ => true) true m 3 (([a, b, c, d].drop 1).take (Try.prog.cellsOf 3)) = some x1 := hf 1 _ rfl
      have h2 : DataW.trod enc Try.prog W 0 (fun _ => true) true m 23 (([a, b, c, d].drop 2).take (Try.prog.cellsOf 23)) = some x2 := hf 2 _ rfl
      have h3 : DataW.trod enc Try.prog W 0 (fun _ => true) true m 41 (([a, b, c, d].drop 3).take (Try.prog.cellsOf 41)) = some x3 := hf 3 _ rfl
      rw [co3] at h0 h1
      rw [co23] at h2
      rw [co41] at h3
      simp only [List.drop_zero, List.drop_succ_cons, List.take_succ_cons, List.take_zero] at h0 h1 h2 h3
      obtain ⟨k, hk, -, -⟩ := DataW.trod_int Try.underlying3 h0
      obtain ⟨i, hi, -, hwi⟩ := DataW.trod_int Try.underlying3 h1
      simp only [DataW.weights, hu, List.map_cons, List.map_nil, DataW.weightsEach, List.append_nil] at hwt
      obtain ⟨v, l, hv, hs, hb⟩ := open_bytes U_sl_uint8 U_uint8 co5 bo5 h2 fun q hq => hwt q (by simp [hq])
      obtain ⟨v', l', hv', hs', hb'⟩ := open_bools Try.underlying41 Try.underlying4 co4 bo4 h3 fun q hq => hwt q (by simp [hq])
      simp only [List.cons.injEq, and_true] at hk hi hv hv'
      subst hk; subst hi; subst hv; subst hv'
      exact ⟨⟨k, i, c, d, l, l'⟩, rfl, hs.old, hs'.old, by simp only; omega, by simp only; omega, bounds_i64 hwi⟩

/-- A row of calls, opened. -/
theorem open_script {v : Value} (hv : ∃ a len cap, v = .slice a len cap ∧ ∀ x, a = some x → x.spot = none) (h : DataW.trod enc Try.prog W 0 (fun _ => true) true n 38 v.cells.toList = some x) (hwt : ∀ q ∈ DataW.weights Try.prog 38 x.1, q ≤ reachBytes) : ∃ os, Script [Old W] v os := by
  obtain ⟨a, len, cap, rfl, ha⟩ := hv
  obtain ⟨v, rows, hcs, hb, hs, hr⟩ := open_slice U_sl_coppicelaw06_Op co43 (by decide) bo43 h hwt
  obtain rfl : Value.slice a len cap = v := by simpa [Value.cells] using hcs
  obtain ⟨os, rfl, hos⟩ := pull (f := OpV.cells) (Q := fun o => o.Ok [Old W]) rows fun r hm => by
    obtain ⟨m, y, h1, h2⟩ := hr r hm
    exact open_op h1 h2
  refine ⟨os, SlO.old ?_, by rw [List.length_map] at hb; simp [reachBytes] at hb; omega, hos⟩
  rcases hs with ⟨⟨a', h1⟩, h2⟩ | ⟨b, o, cap', h1, h2, h3⟩
  · exact .inl ⟨⟨a', h1, by cases h1; exact ha⟩, by simpa using h2⟩
  · rw [List.length_map] at h1 h2
    exact .inr ⟨b, o, cap', h1, h2, by rwa [← List.flatMap_def] at h3⟩

theorem open_arg_bytes {v : Value} (hv : ∃ a len cap, v = .slice a len cap ∧ ∀ x, a = some x → x.spot = none) (h : DataW.trod enc Try.prog W 0 (fun _ => true) true n 23 v.cells.toList = some x) (hwt : ∀ q ∈ DataW.weights Try.prog 23 x.1, q ≤ reachBytes) :
    ∃ l, Knows [Old W] (SlB v l) ∧ l.length ≤ 140737488351232 := by
  obtain ⟨a, len, cap, rfl, ha⟩ := hv
  obtain ⟨v, l, hcs, hs, hb⟩ := open_bytes U_sl_uint8 U_uint8 co5 bo5 h hwt
  obtain rfl : Value.slice a len cap = v := by simpa [Value.cells] using hcs
  exact ⟨l, hs.old, hb⟩
theorem open_arg_bools {v : Value} (hv : ∃ a len cap, v = .slice a len cap ∧ ∀ x, a = some x → x.spot = none) (h : DataW.trod enc Try.prog W 0 (fun _ => true) true n 41 v.cells.toList = some x) (hwt : ∀ q ∈ DataW.weights Try.prog 41 x.1, q ≤ reachBytes) :
    ∃ l, Knows [Old W] (SlV v (bools l)) ∧ l.length ≤ 140737488351232 := by
  obtain ⟨a, len, cap, rfl, ha⟩ := hv
  obtain ⟨v, l, hcs, hs, hb⟩ := open_bools Try.underlying41 Try.underlying4 co4 bo4 h hwt
  obtain rfl : Value.slice a len cap = v := by simpa [Value.cells] using hcs
  exact ⟨l, hs.old, hb⟩

/-- The start of a disk, opened. -/
theorem open_start {v : Value} {r : Reach} {b0 : Nat} (hv : Value.okWide Try.prog W r b0 37 v) (h : DataW.trod enc Try.prog W 0 (fun _ => true) true n 37 v.cells.toList = some x) (hwt : ∀ q ∈ DataW.weights Try.prog 37 x.1, q ≤ reachBytes) :
    ∃ k sv l, v = .agg #[.int .i64 k, sv] ∧ Knows [Old W] (SlB sv l) ∧ l.length ≤ 140737488351232 := by
  have hu := Try.underlying37
  obtain ⟨ca, rfl, _⟩ := okWide_struct hu hv
  obtain ⟨xs, m, rfl, rfl, hl, hxl, hf⟩ := DataW.trod_struct hu h
  have hl2 : ca.toList.length = 2 := hl.trans (by kernel_rfl)
  match hca : ca.toList, hl2 with
  | [a, b], _ =>
    have hcells : (Value.agg ca).cells.toList = [a, b] := hca
    match xs, (show xs.length = 2 from hxl) with
    | [x0, x1], _ =>
      have h0 : DataW.trod enc Try.prog W 0 (fun _ => true) true m 3 (((Value.agg ca).cells.toList.drop 0).take (Try.prog.cellsOf 3)) = some x0 := hf 0 _ rfl
      have h1 : DataW.trod enc Try.prog W 0 (fun _ => true) true m 23 (((Value.agg ca).cells.toList.drop 1).take (Try.prog.cellsOf 23)) = some x1 := hf 1 _ rfl
      rw [hcells, co3] at h0
      rw [hcells, co23] at h1
      simp only [List.drop_zero, List.drop_succ_cons, List.take_succ_cons, List.take_zero] at h0 h1
      obtain ⟨k, hk, -, -⟩ := DataW.trod_int Try.underlying3 h0
      simp only [DataW.weights, hu, List.map_cons, List.map_nil, DataW.weightsEach, List.append_nil] at hwt
      obtain ⟨v, l, hv, hs, hb⟩ := open_bytes U_sl_uint8 U_uint8 co5 bo5 h1 fun q hq => hwt q (by simp [hq])
      simp only [List.cons.injEq, and_true] at hk hv
      subst hk; subst hv
      refine ⟨k, b, l, ?_, hs.old, hb⟩
      congr 1
      apply Array.ext'
      exact hca

/-- Two rows of bools, opened. -/
theorem open_two {v : Value} {r : Reach} {b0 : Nat} (hv : Value.okWide Try.prog W r b0 59 v) (h : DataW.trod enc Try.prog W 0 (fun _ => true) true n 59 v.cells.toList = some x) (hwt : ∀ q ∈ DataW.weights Try.prog 59 x.1, q ≤ reachBytes) :
    ∃ s s' l l', v = .agg #[s, s'] ∧ Knows [Old W] (SlV s (bools l)) ∧ l.length ≤ 140737488351232 ∧ Knows [Old W] (SlV s' (bools l')) ∧ l'.length ≤ 140737488351232 := by
  have hu := Try.underlying59
  obtain ⟨ca, rfl, _⟩ := okWide_struct hu hv
  obtain ⟨xs, m, rfl, rfl, hl, hxl, hf⟩ := DataW.trod_struct hu h
  have hl2 : ca.toList.length = 2 := hl.trans (by kernel_rfl)
  match hca : ca.toList, hl2 with
  | [a, b], _ =>
    have hcells : (Value.agg ca).cells.toList = [a, b] := hca
    match xs, (show xs.length = 2 from hxl) with
    | [x0, x1], _ =>
      have h0 : DataW.trod enc Try.prog W 0 (fun _ => true) true m 41 (((Value.agg ca).cells.toList.drop 0).take (Try.prog.cellsOf 41)) = some x0 := hf 0 _ rfl
      have h1 : DataW.trod enc Try.prog W 0 (fun _ => true) true m 41 (((Value.agg ca).cells.toList.drop 1).take (Try.prog.cellsOf 41)) = some x1 := hf 1 _ rfl
      rw [hcells, co41] at h0
      rw [hcells, co41] at h1
      simp only [List.drop_zero, List.drop_succ_cons, List.take_succ_cons, List.take_zero] at h0 h1
      simp only [DataW.weights, hu, List.map_cons, List.map_nil, DataW.weightsEach, List.append_nil] at hwt
      obtain ⟨v, l, hv, hs, hb⟩ := open_bools Try.underlying41 Try.underlying4 co4 bo4 h0 fun q hq => hwt q (by simp [hq])
      obtain ⟨v', l', hv', hs', hb'⟩ := open_bools Try.underlying41 Try.underlying4 co4 bo4 h1 fun q hq => hwt q (by simp [hq])
      simp only [List.cons.injEq, and_true] at hv hv'
      subst hv; subst hv'
      refine ⟨a, b, l, l', ?_, hs.old, hb, hs'.old, hb'⟩
      congr 1
      apply Array.ext'
      exact hca

/-- What was read is read again, behind a call that leaves what was there. -/
theorem same_old {R : List Assn} {G : Gh} (hs : Sat G (Old W :: R) W') {p : MemPlace} (hp : p.block < W.heap.size) : W.sameAt W' p := by
  have hb : W'.heap[p.block]? = W.heap[p.block]? := by
    have h1 := Array.getElem?_eq_getElem hp
    rw [hs.old_head h1, h1]
  cases p with
  | cell b off => simp only [MemPlace.block] at hb; simp only [World.sameAt, World.cell?, hb]
  | map b => exact hb
theorem trodAll_carry {sp : Nat → Bool} : ∀ {ts : List TypeId} {vs : List Value} {ds : List (DataW H)} {ps : List MemPlace}, DataW.TrodAll enc Try.prog W 0 sp true ts vs ds ps → (∀ p ∈ ps, W.sameAt W' p) → DataW.TrodAll enc Try.prog W' 0 sp true ts vs ds ps
  | [], [], [], _, h, _ => h
  | _ :: _, _ :: _, _ :: _, _, ⟨p, q, ⟨n, hn⟩, h2, e⟩, hs =>
    ⟨p, q, ⟨n, DataW.trod_carry n _ _ _ hn fun x hx => hs x (by rw [e]; exact List.mem_append_left _ hx)⟩, trodAll_carry h2 fun x hx => hs x (by rw [e]; exact List.mem_append_right _ hx), e⟩

theorem post_true {f : Func} {s : ChangeSpec} {args : Array Value} {ds gs : List (DataW H)} {before : List MemPlace} (hW : DataW.Whole enc Try.prog f.params.toList s.vars false W args.toList ds gs before) (hv : s.vars = [])
    (hs : Sat (ghOf W) [Old W] W') (hr : f.resultTypes = #[4]) (hfn : s.fn H (ds ++ gs) = ⟨[.lit (.bool true)], ds, []⟩) (hp : ∀ t ∈ f.params.toList, t < Try.prog.types.size) :
    s.post enc Try.prog f false true false false W args (.bool true) W' := by
  have hW' := hW
  obtain ⟨p, q, hA, hV, rfl, _, _⟩ := hW
  have hV' : DataW.TrodVars enc Try.prog W (fun _ => true) [] gs q := by rw [hv] at hV; exact hV
  obtain ⟨rfl, rfl⟩ := trodVars_none hV'
  have hlt := DataW.TrodAll.lt hA
  refine ⟨ds, [], p ++ [], [], p, [], hW', ?_, ?_, ?_, ?_, fun h => by cases h⟩
  · rw [hfn, hr]
    exact trodAll_mk1 (shut_bool Try.underlying4 true)
  · rw [hfn]
    exact trodAll_carry (DataW.TrodAll.respare kids full hp hA fun x hx => by simpa using hlt x hx) fun x hx => same_old hs (hlt x hx)
  · rw [hfn, hv]; rfl
  · have hg := hs.1
    refine ⟨congrArg Gh.os hg, congrArg Gh.output hg, fun i hi => ?_⟩
    have h1 := Array.getElem?_eq_getElem hi
    have h2 := hs.old_head h1
    rw [h1, h2]
    split <;> simp_all
end
end Go.Proofs.Ytekilljcoplacaa.X
