/- Apart: lists that share no memory, spare room included. -/
import Derived.Test.YtekilljcoplacaaXRef6b
namespace Go.Proofs.Ytekilljcoplacaa.X
set_option linter.unusedVariables false
set_option linter.unusedSimpArgs false
set_option maxRecDepth 20000

/-- A slice, and what came of it by append: of one block, or of two. -/
def grow (T : TypeId) (v g : Value) (m : Nat) (xs zs : List Value) : Assn := fun h =>
  xs.length = m ∧ zs.take m = xs ∧
  ((∃ b cap cur, v = .slice (some ⟨b, 0, none⟩) m cap ∧ g = .slice (some ⟨b, 0, none⟩) zs.length cap ∧ zs.length ≤ cap ∧ cap ≤ maxLen ∧ (zs ++ cur).length = cap ∧ all [blk b (zs ++ cur) T] h) ∨
    all [row T 1 v m xs, row T 1 g zs.length zs] h)

section
variable {P : Program} {n : Nat} {ops : Array Oper} {dr : Bool} {done r : List Nat} {K : Env → World → Prop} {e : Env} {w : World} {i d : Nat} {t : TypeId} {p : String} {af : Array Edge} {gd : Option (Nat × Bool)}
variable {G : Gh} {L R : List Assn} {s T : TypeId} {x y : Operand} {v g u : Value} {m : Nat} {xs zs : List Value}

theorem assn_in {A : Assn} {M R : List Assn} {w : World} (h : Sat G (M ++ R) w) (f : ∀ h, all M h → A h) : Sat G (A :: R) w := (Sat.both_in h).cons_mono f
theorem assn_out {A : Assn} {R : List Assn} {w : World} (h : Sat G (A :: R) w) : ∃ hh, A hh ∧ ∀ M, all M hh → Sat G (M ++ R) w := by
  obtain ⟨hg, x, hx, h1, h2, hd, hu, hA, hR⟩ := h
  exact ⟨h1, hA, fun M hM => Sat.both_out ⟨hg, x, hx, h1, h2, hd, hu, hM, hR⟩⟩

theorem grow_open (hw : Sat G (grow T v g m xs zs :: R) w) : xs.length = m ∧ zs.take m = xs ∧
    ((∃ b cap cur, v = .slice (some ⟨b, 0, none⟩) m cap ∧ g = .slice (some ⟨b, 0, none⟩) zs.length cap ∧ zs.length ≤ cap ∧ cap ≤ maxLen ∧ (zs ++ cur).length = cap ∧ Sat G (blk b (zs ++ cur) T :: R) w) ∨ Sat G (row T 1 v m xs :: row T 1 g zs.length zs :: R) w) := by
  obtain ⟨hh, ⟨h1, h2, h3⟩, hM⟩ := assn_out hw
  refine ⟨h1, h2, ?_⟩
  rcases h3 with ⟨b, cap, cur, ha, hb, hc, hd, he, hf⟩ | h3
  · exact .inl ⟨b, cap, cur, ha, hb, hc, hd, he, hM _ hf⟩
  · exact .inr (hM _ h3)

theorem grow_start (hw : Sat G (row T 1 v m xs :: R) w) : Sat G (grow T v v m xs xs :: R) w := by
  obtain ⟨hl, hc⟩ := row_open hw
  rw [Nat.mul_one] at hl
  have ht : xs.take m = xs := List.take_of_length_le (by omega)
  rcases hc with ⟨rfl, hm, hx, hR⟩ | ⟨b, cap, cur, rfl, h1, h2, h3, h4⟩
  · subst hm; subst hx
    refine assn_in (M := [row T 1 _ 0 [], row T 1 _ 0 []]) (row_nil (row_nil hR T 1) T 1) fun h ha => ⟨rfl, rfl, .inr ha⟩
  · refine assn_in (M := [blk b (xs ++ cur) T]) h4 fun h ha => ⟨hl, ht, .inl ⟨b, cap, cur, rfl, by rw [hl], by omega, h2, by omega, ha⟩⟩

/-- What both are. -/
theorem grow_knows : Knows [grow T v g m xs zs] (fun w => SlV v xs w ∧ SlV g zs w) := fun G w hw => by
  obtain ⟨h1, h2, ⟨b, cap, cur, rfl, rfl, hc, hd, he, hf⟩ | h3⟩ := grow_open hw
  · have hr := Rd.blk0 hf .here
    have hz : Rd w ⟨b, 0, none⟩ zs := by have := hr.take zs.length; simpa using this
    refine ⟨.inr ⟨b, 0, cap, by rw [h1], ?_, ?_⟩, .inr ⟨b, 0, cap, rfl, hc, hz⟩⟩
    · rw [← h2, List.length_take]; omega
    · rw [← h2]; exact hz.take m
  · refine ⟨?_, ?_⟩
    · have h := h3.head; subst h1; exact SlV.row.at h
    · exact SlV.row.at h3.tail.head

/-- 'append' of one element, and what it was put behind is there still. -/
theorem run_appG {c : TypeId} {bytes : Nat} {zv : Value} {inf : TypeInfo} {ty : TypeId} {ax : Addr} {cx : Nat} (hs : P.underlying s = some (.slice c)) (hi : P.info? c = some inf) (hzz : inf.zero = some zv) (hsz : inf.size = 1) (hbb : inf.bytes = bytes) (hzs : zv.cells.size = 1)
    (hw : Sat G (grow c v g m xs zs :: R) w) (hr : Rd w ax [u]) (h1 : Ones [u]) (h63 : zs.length + 1 ≤ maxLen) (hby : (zs.length + 1) * bytes ≤ 140737488355328) :
    ∃ v' w', (Builtin.append_ #[s, s] ty #[g, .slice (some ax) 1 cx]).run P w = .ok v' w' ∧ Sat G (grow c v v' m xs (zs ++ [u]) :: R) w' := by
  obtain ⟨hx, htk, ⟨b, cap, cur, rfl, rfl, hc, hd, he, hf⟩ | h3⟩ := grow_open hw
  · have htk' : (zs ++ [u]).take m = xs := by rw [List.take_append_of_le_length (by rw [← hx, ← htk, List.length_take]; omega)]; exact htk
    have hmz : m ≤ zs.length := by rw [← hx, ← htk, List.length_take]; omega
    by_cases hroom : zs.length + 1 ≤ cap
    · have hrr := run_append_room (P := P) w s ty c inf hs hi b zs.length cap (zs ++ cur).toArray (hf.pt .here) ax 1 cx [u] (by rw [hsz]; rfl) hr h1 hroom (by rw [hsz, List.size_toArray, he]; simp; omega)
      have hB' := hf.setBlk .here ((zs ++ [u]) ++ cur.drop 1)
      have e1 : (List.take (zs.length * inf.size) (zs ++ cur).toArray.toList ++ [u] ++ List.drop (zs.length * inf.size + [u].length) (zs ++ cur).toArray.toList).toArray = ((zs ++ [u]) ++ cur.drop 1).toArray := by
        rw [hsz, Nat.mul_one]
        simp [List.drop_append, List.drop_eq_nil_of_le]
      rw [e1] at hrr
      refine ⟨_, _, hrr, assn_in (M := [blk b ((zs ++ [u]) ++ cur.drop 1) c]) hB' fun h ha => ⟨hx, htk', .inl ⟨b, cap, cur.drop 1, rfl, by simp, by simp; omega, hd, ?_, ha⟩⟩⟩
      simp only [List.length_append, List.length_drop, List.length_cons, List.length_nil] at he ⊢; omega
    · have holds : Rd w ⟨b, 0, none⟩ zs := by
        have := (Rd.of_blk (o := 0) hf .here).take zs.length
        simpa using this
      have hrr := run_append_grow (P := P) w s ty c inf zv hs hi hzz ⟨b, 0, none⟩ zs.length cap zs (by rw [hsz]; omega) holds ax 1 cx [u] (by rw [hsz]; rfl) hr (by omega) (by simp only [maxLen] at h63; omega) (by rw [hbb]; exact growslice_fits (by omega) hby)
      have hge := grownCap_ge w (zs.length + 1) cap c
      have hcm : grownCap w (zs.length + 1) cap c ≤ maxLen := grownCap_le_maxLen w (zs.length + 1) cap c h63
      have h2 := (hf.drawn (w.drawn + 1)).push (.cells (zs.toArray ++ [u].toArray ++ Builtin.zeroCells zv.cells (grownCap w (zs.length + 1) cap c - (zs.length + 1))) c (0, 0))
      have e : zs.toArray ++ [u].toArray ++ Builtin.zeroCells zv.cells (grownCap w (zs.length + 1) cap c - (zs.length + 1)) = ((zs ++ [u]) ++ (Builtin.zeroCells zv.cells (grownCap w (zs.length + 1) cap c - (zs.length + 1))).toList).toArray := by
        apply Array.ext'; simp
      rw [e] at h2
      have hzl : ∀ k, (Builtin.zeroCells zv.cells k).toList.length = k := fun k => by rw [Array.length_toList, size_zeroCells, hzs, Nat.mul_one]
      have h4 := row_mk (z := 1) (m := zs.length + 1) (cap := grownCap w (zs.length + 1) cap c) h2 (by simp) hge hcm (by
        rw [List.length_append, show (zs ++ [u]).length = zs.length + 1 by simp, hzl]; omega)
      have hsplit : zs ++ cur = xs ++ (zs.drop m ++ cur) := by rw [← List.append_assoc, ← htk, List.take_append_drop]
      have h5 : Sat G (blk b (xs ++ (zs.drop m ++ cur)) c :: row c 1 _ _ _ :: R) _ := hsplit ▸ (h4.pick (.there .here))
      have h6 := row_mk (z := 1) (m := m) (cap := cap) h5 (by omega) (by omega) hd (by rw [← hsplit]; omega)
      refine ⟨_, _, hrr, ?_⟩
      rw [← e] at h6
      refine assn_in (M := [row c 1 _ m xs, row c 1 _ (zs.length + 1) (zs ++ [u])]) h6 fun h ha => ⟨hx, htk', .inr ?_⟩
      rw [List.length_append]; exact ha
  · have htk' : (zs ++ [u]).take m = xs := by rw [List.take_append_of_le_length (by rw [← hx, ← htk, List.length_take]; omega)]; exact htk
    obtain ⟨v', w', h4, h5⟩ := run_app (z := 1) (m := zs.length) (k := 1) (news := [u]) (cx := cx) (ty := ty) hs hi hzz hsz hbb hzs (h3.pick (.there .here)) hr rfl h1 h63 hby
    refine ⟨v', w', h4, assn_in (M := [row c 1 v m xs, row c 1 v' (zs.length + 1) (zs ++ [u])]) (h5.pick (.there .here)) fun h ha => ⟨hx, htk', .inr ?_⟩⟩
    rw [List.length_append]; exact ha

theorem x_appG {c : TypeId} {bytes : Nat} {ax : Addr} {cx : Nat} (ho : ops[i]? = some ⟨some d, .call ⟨.builtin .append, #[x, y], #[s, s]⟩, t, p, af, gd⟩) (hd : Nat.blt d n = true) (hg : Gd ops e gd) (hs : P.underlying s = some (.slice c)) (hzc : (P.info? c).map (·.size) = some 1)
    (hbc : (P.info? c).map (·.bytes) = some bytes) (hz0 : (zeroOf P c).map (·.size) = some 1) (hx : ev e x = some g) (hy : ev e y = some (.slice (some ax) 1 cx)) (hw : Sat G L w) (hp : Pick (grow c v g m xs zs) L R) (hr : Rd w ax [u]) (h1 : Ones [u])
    (h63 : zs.length + 1 ≤ maxLen) (hby : (zs.length + 1) * bytes ≤ 140737488355328) (hpd : pend P ops dr done i = [])
    (h : ∀ w' v', Sat G (grow c v v' m xs (zs ++ [u]) :: R) w' → XL P n ops dr (i :: done) r K ((d, v') :: e) w') : XL P n ops dr done (i :: r) K e w := by
  cases hi : P.info? c with
  | none => simp [hi] at hzc
  | some inf =>
    have hsz : inf.size = 1 := by simpa [hi] using hzc
    have hbb : inf.bytes = bytes := by simpa [hi] using hbc
    cases hzz : inf.zero with
    | none => simp [zeroOf, hi, hzz] at hz0
    | some zv =>
      have hzs : zv.cells.size = 1 := by simpa [zeroOf, hi, hzz] using hz0
      obtain ⟨v', w', hrun, hS⟩ := run_appG (ty := t) (cx := cx) hs hi hzz hsz hbb hzs (hw.pick hp) hr h1 h63 hby
      refine xl_eff ho (by simpa [dstOk] using hd) hg (ρ := rh e) (by intro z hZ; simp [Op.operands, Call.operands] at hZ; exact oh2 hx hy hZ) rfl (v := v') (w' := w') ?_ (noPend hpd) (h _ _ hS)
      simp only [execOp, resolve, invoke, builtin, Sem.run_bind, Sem.run_pure, Result.andThen_ok, List.map_toArray, List.map_cons, List.map_nil, rh_of hx, rh_of hy, hrun]
end

/-- the marks of a list -/
def marks (mk : Nat → Nat → Value) (i m : Nat) : List Value := (List.range m).map (mk i)
theorem marks_length (mk : Nat → Nat → Value) (i m : Nat) : (marks mk i m).length = m := by simp [marks]
theorem marks_get {mk : Nat → Nat → Value} {i m k : Nat} (h : k < m) : (marks mk i m)[k]? = some (mk i k) := by simp [marks, h]
theorem marks_succ (mk : Nat → Nat → Value) (i m : Nat) : marks mk i (m + 1) = marks mk i m ++ [mk i m] := by simp [marks, List.range_succ]
theorem marks_take {mk : Nat → Nat → Value} {i m n : Nat} (h : m ≤ n) : (marks mk i n).take m = marks mk i m := by
  simp only [marks, ← List.map_take, List.take_range, Nat.min_eq_left h]

/-- rows of what was there -/
def rw0 (T : TypeId) : List (Value × List Value) → List Assn
  | [] => []
  | (v, c) :: r => row T 1 v c.length c :: rw0 T r
/-- rows of marks, from the number i on -/
def rws (T : TypeId) (mk : Nat → Nat → Value) : Nat → List (Value × List Value) → List Assn
  | _, [] => []
  | i, (v, c) :: r => row T 1 v c.length (marks mk i c.length) :: rws T mk (i + 1) r
/-- .. with what came of them -/
def grs (T : TypeId) (mk : Nat → Nat → Value) : Nat → List (Value × List Value) → List Value → List Assn
  | i, (v, c) :: r, g :: gs => grow T v g c.length (marks mk i c.length) (marks mk i (c.length + 20)) :: grs T mk (i + 1) r gs
  | _, _, _ => []
theorem rws_snoc (T : TypeId) (mk : Nat → Nat → Value) (v : Value) (c : List Value) : ∀ (i : Nat) (X : List (Value × List Value)), rws T mk i (X ++ [(v, c)]) = rws T mk i X ++ [row T 1 v c.length (marks mk (i + X.length) c.length)]
  | i, [] => rfl
  | i, (u, d) :: X => by simp only [List.cons_append, rws, rws_snoc T mk v c (i + 1) X, List.length_cons]; rw [show i + 1 + X.length = i + (X.length + 1) by omega]
theorem grs_snoc (T : TypeId) (mk : Nat → Nat → Value) (v : Value) (c : List Value) (g : Value) : ∀ (i : Nat) (X : List (Value × List Value)) (gs : List Value), gs.length = X.length →
    grs T mk i (X ++ [(v, c)]) (gs ++ [g]) = grs T mk i X gs ++ [grow T v g c.length (marks mk (i + X.length) c.length) (marks mk (i + X.length) (c.length + 20))]
  | i, [], [], _ => rfl
  | i, (u, d) :: X, f :: gs, h => by simp only [List.cons_append, grs, grs_snoc T mk v c g (i + 1) X gs (by simpa using h), List.length_cons]; rw [show i + 1 + X.length = i + (X.length + 1) by omega]
  | _, [], _ :: _, h => by simp at h
  | _, _ :: _, [], h => by simp at h
theorem grs_knows {T : TypeId} {mk : Nat → Nat → Value} {v g : Value} {c : List Value} : ∀ {i : Nat} {X : List (Value × List Value)} {gs : List Value} {k : Nat}, X[k]? = some (v, c) → gs[k]? = some g →
    Knows (grs T mk i X gs) (fun w => SlV v (marks mk (i + k) c.length) w ∧ SlV g (marks mk (i + k) (c.length + 20)) w)
  | i, (u, d) :: X, f :: gs, 0, h1, h2 => by
    simp at h1 h2
    obtain ⟨rfl, rfl⟩ := h1; subst h2
    exact grow_knows.head _
  | i, (u, d) :: X, f :: gs, k + 1, h1, h2 => by
    have := (grs_knows (T := T) (mk := mk) (i := i + 1) (X := X) (gs := gs) (k := k) (by simpa using h1) (by simpa using h2)).cons (grow T u f d.length (marks mk i d.length) (marks mk i (d.length + 20)))
    rwa [show i + 1 + k = i + (k + 1) by omega] at this
  | _, [], _, k, h1, _ => by simp at h1
  | _, _ :: _, [], k, _, h2 => by simp at h2

section
variable {G : Gh} {L R M : List Assn} {A : Assn} {w : World}

theorem Sat.both_uncons (h : Sat G (both (A :: M) :: R) w) : Sat G (A :: both M :: R) w :=
  (Sat.both_out h).mono (L := A :: (M ++ R)) fun h ha => all_cons_mono (fun x hx => (all_append M R x).2 hx) ha
theorem Sat.both_snoc (h : Sat G (both M :: A :: R) w) : Sat G (both (M ++ [A]) :: R) w := Sat.both_in (by rw [List.append_assoc]; exact h.both_out)

/-- the mark of a place in a list of bytes -/
def mkB (i k : Nat) : Value := .int .u8 (IntKind.u8.wrap ((i : Int) * 31 + (k : Int) * 7 + 1))
/-- .. of numbers -/
def mkI (i k : Nat) : Value := .int .i64 ((i : Int) * 100003 + (k : Int))

theorem slv_row {T n : Nat} {v : Value} {cs : List Value} (h : cs.length = n) : Knows [row T 1 v n cs] (SlV v cs) := by subst h; exact SlV.row

theorem ct_ref00_Apart {v : Value} {X : List (Value × List Value)} (hw : Sat G (row 23 1 v X.length (X.map Prod.fst) :: both (rw0 5 X) :: L) w) (hn : X.length ≤ 1000) (hX : ∀ x ∈ X, x.2.length ≤ 1000000000) :
    Calls Try.prog 43 #[v] w (Ret fun r w' => r = .bool true ∧ Sat G L w') := by
  obtain ⟨a, cap, rfl⟩ := row_form hw
  have hsv := slv_row (T := 23) (v := .slice a X.length cap) (cs := X.map Prod.fst) (n := X.length) (by simp)
  have hget : ∀ {i : Nat} {x : Value × List Value}, X[i]? = some x → (X.map Prod.fst)[(i : Int).toNat]? = some x.1 := fun {i x} h => by
    rw [Int.toNat_natCast, List.getElem?_map, h]; rfl
  have hsplit : ∀ {i : Nat}, i < X.length → ∃ u c, X[i]? = some (u, c) ∧ c.length ≤ 1000000000 ∧ X.drop i = (u, c) :: X.drop (i + 1) ∧ X.take (i + 1) = X.take i ++ [(u, c)] ∧ (X.take i).length = i := fun {i} hi => by
    obtain ⟨⟨u, c⟩, hx⟩ : ∃ x, X[i]? = some x := ⟨_, List.getElem?_eq_getElem hi⟩
    refine ⟨u, c, hx, hX _ (List.mem_of_getElem? hx), ?_, by rw [List.take_add_one, hx]; rfl, by rw [List.length_take]; omega⟩
    rw [List.drop_eq_getElem_cons hi]; congr 1
    rw [List.getElem?_eq_getElem hi] at hx; exact Option.some.inj hx
  refine calls_of_x (args := [_]) func_ref00_Apart rfl nt_ref00_Apart rfl ?_
  refine x_seq ?_
  refine x_region rfl ?_
  refine x_as rfl rfl trivial rfl ?_  -- ref.go:348 assign False
  refine xl_nil ?_
  refine x_seq ?_
  refine x_seq ?_
  refine x_region rfl ?_
  refine x_as rfl rfl trivial rfl ?_  -- ref.go:349 assign 0
  refine xl_nil ?_
  refine x_block ?_
  refine x_loop (fun m e w => ∃ (i : Nat), i ≤ X.length ∧ m = X.length - i ∧ e = [(0, .slice a X.length cap), (3, .int .i64 i)] ∧ Sat G (row 23 1 (.slice a X.length cap) X.length (X.map Prod.fst) :: both (rws 5 mkB 0 (X.take i)) :: both (rw0 5 (X.drop i)) :: L) w)
    (m := X.length) (e₀ := [(0, .slice a X.length cap), (3, .int .i64 (0 : Nat))]) (by repeat (first | exact Sub.nil _ | refine Sub.cons rfl ?_))
    ⟨0, Nat.zero_le _, rfl, rfl, (Sat.both_in (M := []) hw).pick (.there .here)⟩ ?_
  rintro m e w ⟨i, hi, rfl, rfl, hw⟩
  refine x_seq ?_
  refine x_seq ?_
  refine x_region rfl ?_
  refine x_mv rfl rfl trivial rfl ?_  -- ref.go:349 move t3
  refine x_mv rfl rfl trivial rfl ?_  -- ref.go:349 move t0
  refine x_len rfl rfl trivial rfl U_sl_sl_uint8 rfl ?_  -- ref.go:349 len(t13)
  refine x_lt rfl rfl trivial rfl rfl ?_  -- ref.go:349 lss[3] t12 t14
  refine xl_nil ?_
  refine x_if rfl (fun h1 => ?_) (fun h1 => ?_)
  · -- yes
    have hi' : i < X.length := by omega
    obtain ⟨u, c, hx, hxc, hdr, htk, htl⟩ := hsplit hi'
    obtain ⟨b, o, rfl⟩ := ((hw.knows ((hsv.head _).pick (by repeat (first | with_reducible exact Pick.here | apply Pick.there)))).at hw).nn (by rw [List.length_map]; omega)
    have hw := (hw.pick (A := both (rw0 5 _)) (by repeat (first | with_reducible exact Pick.here | apply Pick.there)))
    rw [hdr] at hw
    have hw := hw.both_uncons
    obtain ⟨au, cu, rfl⟩ := row_form hw
    refine x_skip ?_
    refine x_seq ?_
    refine x_block ?_
    refine x_seq ?_
    refine x_region rfl ?_
    refine x_as rfl rfl trivial rfl ?_  -- ref.go:350 assign 0
    refine xl_nil ?_
    refine x_block ?_
    have hw := hw.bring (As := [row _ 1 (.slice au _ _) _ _, row _ 1 (.slice (some ⟨b, o, none⟩) _ _) _ _, both (rws _ _ _ _), both _]) (by repeat (first | exact Bring.nil | (apply Bring.cons; repeat (first | with_reducible exact Pick.here | apply Pick.there))))
    refine x_loop (fun m e w => ∃ (k : Nat), k ≤ c.length ∧ m = c.length - k ∧ e = [(0, .slice (some ⟨b, o, none⟩) X.length cap), (3, .int .i64 i), (4, .int .i64 k)] ∧ Sat G (row 5 1 (.slice au c.length cu) c.length (marks mkB i k ++ c.drop k) :: row 23 1 (.slice (some ⟨b, o, none⟩) X.length cap) X.length (X.map Prod.fst) :: both (rws 5 mkB 0 (X.take i)) :: both (rw0 5 (X.drop (i + 1))) :: L) w)
      (m := c.length) (e₀ := [(0, .slice (some ⟨b, o, none⟩) X.length cap), (3, .int .i64 i), (4, .int .i64 (0 : Nat))]) (by repeat (first | exact Sub.nil _ | refine Sub.cons rfl ?_))
      ⟨0, Nat.zero_le _, rfl, rfl, hw⟩ ?_
    rintro m e w ⟨k, hk, rfl, rfl, hw⟩
    refine x_seq ?_
    refine x_seq ?_
    refine x_region rfl ?_
    refine x_mv rfl rfl trivial rfl ?_  -- ref.go:350 move t4
    refine x_mv rfl rfl trivial rfl ?_  -- ref.go:350 move t0
    refine x_mv rfl rfl trivial rfl ?_  -- ref.go:350 move t3
    refine x_idx1 rfl rfl trivial U_sl_sl_uint8 sz_sl_uint8 rfl rfl ⟨by omega, by omega⟩ ?_  -- ref.go:350 indexAddr[67] t19 [t20] 
    refine x_ld rfl rfl trivial rfl (Loads.one one_sl_uint8 (((hw.knows ((hsv.head _).pick (by repeat (first | with_reducible exact Pick.here | apply Pick.there)))).at hw).at (hget hx))) ?_  -- ref.go:350 load[23] t21
    refine x_len rfl rfl trivial rfl U_sl_uint8 rfl ?_  -- ref.go:350 len(t22)
    refine x_lt rfl rfl trivial rfl rfl ?_  -- ref.go:350 lss[3] t18 t23
    refine xl_nil ?_
    refine x_if rfl (fun h2 => ?_) (fun h2 => ?_)
    · -- yes
      have hk' : k < c.length := by omega
      obtain ⟨-, bu, cur, rfl, hcc, hcm, hcl, hw⟩ := row_some (hw.pick (A := row 5 1 _ _ _) (by repeat (first | with_reducible exact Pick.here | apply Pick.there))) (by omega)
      refine x_skip ?_
      refine x_seq ?_
      refine x_block ?_
      refine x_region rfl ?_
      refine x_mv rfl rfl trivial rfl ?_  -- ref.go:351 move t0
      refine x_mv rfl rfl trivial rfl ?_  -- ref.go:351 move t3
      refine x_idx1 rfl rfl trivial U_sl_sl_uint8 sz_sl_uint8 rfl rfl ⟨by omega, by omega⟩ ?_  -- ref.go:351 indexAddr[67] t27 [t28] 
      refine x_ld rfl rfl trivial rfl (Loads.one one_sl_uint8 (((hw.knows ((hsv.head _).pick (by repeat (first | with_reducible exact Pick.here | apply Pick.there)))).at hw).at (hget hx))) ?_  -- ref.go:351 load[23] t29
      refine x_mv rfl rfl trivial rfl ?_  -- ref.go:351 move t4
      refine x_mv rfl rfl trivial rfl ?_  -- ref.go:351 move t3
      refine x_muli rfl rfl trivial rfl rfl (by omega) ?_  -- ref.go:351 mul[3] t32 31
      refine x_mv rfl rfl trivial rfl ?_  -- ref.go:351 move t4
      refine x_muli rfl rfl trivial rfl rfl (by omega) ?_  -- ref.go:351 mul[3] t34 7
      refine x_addi rfl rfl trivial rfl rfl (by omega) ?_  -- ref.go:351 add[3] t33 t35
      refine x_addi rfl rfl trivial rfl rfl (by omega) ?_  -- ref.go:351 add[3] t36 1
      refine x_conv rfl rfl trivial rfl U_int U_uint8 rfl ?_  -- ref.go:351 convert 3 5 37
      refine x_idx1 rfl rfl trivial U_sl_uint8 sz_uint8 rfl rfl ⟨by omega, by omega⟩ ?_  -- ref.go:351 indexAddr[23] t30 [t31] 
      -- ref.go:351 store[5] t39 := t38
      refine x_st1 (l' := (marks mkB i (k + 1) ++ c.drop (k + 1)) ++ cur) rfl trivial rfl rfl one_uint8 rfl hw (by repeat (first | with_reducible exact Pick.here | apply Pick.there)) (by simp only [List.length_append, marks_length, List.length_drop, Nat.blt_eq]; omega) (by
        have hix : 0 + (k : Int).toNat = k := by omega
        rw [hix, List.set_append_left _ _ (by simp only [List.length_append, marks_length, List.length_drop]; omega), List.set_append_right _ _ (by rw [marks_length]; omega), marks_length, Nat.sub_self, List.drop_eq_getElem_cons hk', List.set_cons_zero, marks_succ]
        simp [mkB]) rfl (fun w hw => ?_)
      refine xl_nil ?_
      refine x_region rfl ?_
      refine x_mv rfl rfl trivial rfl ?_  -- ref.go:350 move t4
      refine x_addi rfl rfl trivial rfl rfl (by omega) ?_  -- ref.go:350 add[3] t25 1
      refine x_as rfl rfl trivial rfl ?_  -- ref.go:350 assign t26
      refine xl_nil ?_
      have hw := row_mk (z := 1) (m := c.length) hw (by simp only [List.length_append, marks_length, List.length_drop]; omega) hcc hcm (by simp only [List.length_append, marks_length, List.length_drop] at hcl ⊢; omega)
      exact ⟨c.length - (k + 1), by omega, [(0, _), (3, _), (4, .int .i64 (k + 1 : Nat))], (by repeat (first | exact Sub.nil _ | refine Sub.cons rfl ?_)), k + 1, by omega, rfl, rfl, hw⟩
    · -- no
      refine x_exit rfl ?_  -- exit 2
      refine x_region rfl ?_
      refine x_mv rfl rfl trivial rfl ?_  -- ref.go:349 move t3
      refine x_addi rfl rfl trivial rfl rfl (by omega) ?_  -- ref.go:349 add[3] t16 1
      refine x_as rfl rfl trivial rfl ?_  -- ref.go:349 assign t17
      refine xl_nil ?_
      have hkk : k = c.length := by omega
      have hw := hw.bring (As := [both (rws _ _ _ _), row 5 1 _ _ _]) (by repeat (first | exact Bring.nil | (apply Bring.cons; repeat (first | with_reducible exact Pick.here | apply Pick.there))))
      rw [hkk, List.drop_length, List.append_nil] at hw
      have hw := hw.both_snoc
      have hsn := rws_snoc 5 mkB (.slice au c.length cu) c 0 (X.take i)
      rw [htl, Nat.zero_add, ← htk] at hsn
      rw [← hsn] at hw
      exact ⟨X.length - (i + 1), by omega, [(0, _), (3, .int .i64 (i + 1 : Nat))], (by repeat (first | exact Sub.nil _ | refine Sub.cons rfl ?_)), i + 1, by omega, rfl, rfl, hw.pick (A := row 23 1 _ _ _) (by repeat (first | with_reducible exact Pick.here | apply Pick.there))⟩
  · -- no
    have hii : i = X.length := by omega
    subst hii
    rw [List.take_length] at hw
    have hw := ((hw.pick (A := both (rw0 _ _)) (by repeat (first | with_reducible exact Pick.here | apply Pick.there))).tail.pick (A := both (rws _ _ _ _)) (by repeat (first | with_reducible exact Pick.here | apply Pick.there)))
    refine x_exit rfl ?_  -- exit 0
    refine x_seq ?_
    refine x_region rfl ?_
    refine x_as rfl rfl trivial rfl ?_  -- ref.go:354 assign {'nilslice': 1}
    refine xl_nil ?_
    refine x_seq ?_
    refine x_seq ?_
    refine x_region rfl ?_
    refine x_as rfl rfl trivial rfl ?_  -- ref.go:355 assign 0
    refine xl_nil ?_
    refine x_block ?_
    have hw := Sat.both_in (M := grs 5 mkB 0 [] []) hw
    have hw := row_nil hw 23 1
    refine x_loop (fun m e w => ∃ (i : Nat) (gs : List Value) (gv : Value), i ≤ X.length ∧ gs.length = i ∧ m = X.length - i ∧ e = [(0, .slice a X.length cap), (5, gv), (6, .int .i64 i)] ∧ Sat G (row 23 1 gv i gs :: both (grs 5 mkB 0 (X.take i) gs) :: both (rws 5 mkB i (X.drop i)) :: row 23 1 (.slice a X.length cap) X.length (X.map Prod.fst) :: L) w)
      (m := X.length) (e₀ := [(0, .slice a X.length cap), (5, .slice none 0 0), (6, .int .i64 (0 : Nat))]) (by repeat (first | exact Sub.nil _ | refine Sub.cons rfl ?_))
      ⟨0, [], _, Nat.zero_le _, rfl, rfl, rfl, hw⟩ ?_
    rintro m e w ⟨i, gs, gv, hi, hgs, rfl, rfl, hw⟩
    refine x_seq ?_
    refine x_seq ?_
    refine x_region rfl ?_
    refine x_mv rfl rfl trivial rfl ?_  -- ref.go:355 move t6
    refine x_mv rfl rfl trivial rfl ?_  -- ref.go:355 move t0
    refine x_len rfl rfl trivial rfl U_sl_sl_uint8 rfl ?_  -- ref.go:355 len(t41)
    refine x_lt rfl rfl trivial rfl rfl ?_  -- ref.go:355 lss[3] t40 t42
    refine xl_nil ?_
    refine x_if rfl (fun h3 => ?_) (fun h3 => ?_)
    · -- yes
      have hi' : i < X.length := by omega
      obtain ⟨u, c, hx, hxc, hdr, htk, htl⟩ := hsplit hi'
      obtain ⟨b, o, rfl⟩ := ((hw.knows ((hsv.head _).pick (by repeat (first | with_reducible exact Pick.here | apply Pick.there)))).at hw).nn (by rw [List.length_map]; omega)
      have hw := (hw.pick (A := both (rws 5 _ _ _)) (by repeat (first | with_reducible exact Pick.here | apply Pick.there)))
      rw [hdr] at hw
      have hw := hw.both_uncons
      obtain ⟨au, cu, rfl⟩ := row_form hw
      have hw := grow_start hw
      refine x_skip ?_
      refine x_seq ?_
      refine x_block ?_
      refine x_seq ?_
      refine x_region rfl ?_
      refine x_mv rfl rfl trivial rfl ?_  -- ref.go:356 move t0
      refine x_mv rfl rfl trivial rfl ?_  -- ref.go:356 move t6
      refine x_idx1 rfl rfl trivial U_sl_sl_uint8 sz_sl_uint8 rfl rfl ⟨by omega, by omega⟩ ?_  -- ref.go:356 indexAddr[67] t46 [t47] 
      refine x_ld rfl rfl trivial rfl (Loads.one one_sl_uint8 (((hw.knows ((hsv.head _).pick (by repeat (first | with_reducible exact Pick.here | apply Pick.there)))).at hw).at (hget hx))) ?_  -- ref.go:356 load[23] t48
      refine x_as rfl rfl trivial rfl ?_  -- ref.go:356 assign t49
      refine xl_nil ?_
      refine x_seq ?_
      refine x_seq ?_
      refine x_region rfl ?_
      refine x_as rfl rfl trivial rfl ?_  -- ref.go:357 assign 0
      refine xl_nil ?_
      refine x_block ?_
      have hw := hw.bring (As := [grow _ _ _ _ _ _, row _ 1 gv _ _, both (grs _ _ _ _ _), both _]) (by repeat (first | exact Bring.nil | (apply Bring.cons; repeat (first | with_reducible exact Pick.here | apply Pick.there))))
      refine x_loop (fun m e w => ∃ (j : Nat) (g : Value), j ≤ 20 ∧ m = 20 - j ∧ e = [(0, .slice (some ⟨b, o, none⟩) X.length cap), (5, gv), (6, .int .i64 i), (7, g), (8, .int .i64 j)] ∧ Sat G (grow 5 (.slice au c.length cu) g c.length (marks mkB i c.length) (marks mkB i (c.length + j)) :: row 23 1 gv i gs :: both (grs 5 mkB 0 (X.take i) gs) :: both (rws 5 mkB (i + 1) (X.drop (i + 1))) :: row 23 1 (.slice (some ⟨b, o, none⟩) X.length cap) X.length (X.map Prod.fst) :: L) w)
        (m := 20) (e₀ := [(0, .slice (some ⟨b, o, none⟩) X.length cap), (5, gv), (6, .int .i64 i), (7, .slice au c.length cu), (8, .int .i64 (0 : Nat))]) (by repeat (first | exact Sub.nil _ | refine Sub.cons rfl ?_))
        ⟨0, _, Nat.zero_le _, rfl, rfl, hw⟩ ?_
      rintro m e w ⟨j, g, hj, rfl, rfl, hw⟩
      refine x_seq ?_
      refine x_seq ?_
      refine x_region rfl ?_
      refine x_mv rfl rfl trivial rfl ?_  -- ref.go:357 move t8
      refine x_lt rfl rfl trivial rfl rfl ?_  -- ref.go:357 lss[3] t50 20
      refine xl_nil ?_
      refine x_if rfl (fun h4 => ?_) (fun h4 => ?_)
      · -- yes
        refine x_skip ?_
        refine x_seq ?_
        refine x_block ?_
        refine x_region rfl ?_
        refine x_mv rfl rfl trivial rfl ?_  -- ref.go:358 move t7
        refine x_mv rfl rfl trivial rfl ?_  -- ref.go:358 move t6
        refine x_muli rfl rfl trivial rfl rfl (by omega) ?_  -- ref.go:358 mul[3] t55 31
        refine x_mv rfl rfl trivial rfl ?_  -- ref.go:358 move t0
        refine x_mv rfl rfl trivial rfl ?_  -- ref.go:358 move t6
        refine x_idx1 rfl rfl trivial U_sl_sl_uint8 sz_sl_uint8 rfl rfl ⟨by omega, by omega⟩ ?_  -- ref.go:358 indexAddr[67] t57 [t58] 
        refine x_ld rfl rfl trivial rfl (Loads.one one_sl_uint8 (((hw.knows ((hsv.head _).pick (by repeat (first | with_reducible exact Pick.here | apply Pick.there)))).at hw).at (hget hx))) ?_  -- ref.go:358 load[23] t59
        refine x_len rfl rfl trivial rfl U_sl_uint8 rfl ?_  -- ref.go:358 len(t60)
        refine x_mv rfl rfl trivial rfl ?_  -- ref.go:358 move t8
        refine x_addi rfl rfl trivial rfl rfl (by omega) ?_  -- ref.go:358 add[3] t61 t62
        refine x_muli rfl rfl trivial rfl rfl (by omega) ?_  -- ref.go:358 mul[3] t63 7
        refine x_addi rfl rfl trivial rfl rfl (by omega) ?_  -- ref.go:358 add[3] t56 t64
        refine x_addi rfl rfl trivial rfl rfl (by omega) ?_  -- ref.go:358 add[3] t65 1
        refine x_conv rfl rfl trivial rfl U_int U_uint8 rfl ?_  -- ref.go:358 convert 3 5 66
        -- ref.go:358 buildSlice 23 1 [[0, 67]]
        refine x_bs1 (cs := [mkB i (c.length + j)]) rfl rfl trivial U_sl_uint8 sz_uint8 zs_uint8 (by decide) rfl (by
          simp [mkB, Value.cells]) rfl hw rfl (fun w b68 hw => ?_)
        -- ref.go:358 append(t54, t68)
        refine x_appG (u := mkB i (c.length + j)) rfl rfl trivial U_sl_uint8 sz_uint8 by_uint8 zs_uint8 rfl rfl hw (by repeat (first | with_reducible exact Pick.here | apply Pick.there)) (Rd.blk0 hw (by repeat (first | with_reducible exact Pick.here | apply Pick.there))) (by intro u hu; simp at hu; subst hu; rfl) (by rw [marks_length]; simp only [maxLen]; omega) (by rw [marks_length]; omega) rfl (fun w v69 hw => ?_)
        refine x_as rfl rfl trivial rfl ?_  -- ref.go:358 assign t69
        refine xl_nil ?_
        refine x_region rfl ?_
        refine x_mv rfl rfl trivial rfl ?_  -- ref.go:357 move t8
        refine x_addi rfl rfl trivial rfl rfl (by omega) ?_  -- ref.go:357 add[3] t52 1
        refine x_as rfl rfl trivial rfl ?_  -- ref.go:357 assign t53
        refine xl_nil ?_
        rw [← marks_succ] at hw
        have hw := (hw.pick (A := blk b68 _ _) (by repeat (first | with_reducible exact Pick.here | apply Pick.there))).tail
        exact ⟨20 - (j + 1), by omega, [(0, _), (5, _), (6, _), (7, _), (8, .int .i64 (j + 1 : Nat))], (by repeat (first | exact Sub.nil _ | refine Sub.cons rfl ?_)), j + 1, _, by omega, rfl, rfl, hw⟩
      · -- no
        have hjj : j = 20 := by omega
        subst hjj
        obtain ⟨ag, cg, rfl⟩ := (((grow_knows.head _).at hw).2).form
        refine x_exit rfl ?_  -- exit 6
        refine x_region rfl ?_
        refine x_mv rfl rfl trivial rfl ?_  -- ref.go:360 move t5
        refine x_mv rfl rfl trivial rfl ?_  -- ref.go:360 move t7
        -- ref.go:360 buildSlice 67 1 [[0, 71]]
        refine x_bs1 (cs := [.slice ag (marks mkB i (c.length + 20)).length cg]) rfl rfl trivial U_sl_sl_uint8 sz_sl_uint8 zs_sl_uint8 (by decide) rfl rfl rfl hw rfl (fun w b72 hw => ?_)
        -- ref.go:360 append(t70, t72)
        refine x_app (m := i) (k := 1) (news := [.slice ag (marks mkB i (c.length + 20)).length cg]) rfl rfl trivial U_sl_sl_uint8 sz_sl_uint8 by_sl_uint8 zs_sl_uint8 rfl rfl hw (Pick.there (.there .here)) (Rd.blk0 hw (by repeat (first | with_reducible exact Pick.here | apply Pick.there))) rfl (by intro u hu; simp at hu; subst hu; rfl) (by simp only [maxLen]; omega) (by omega) rfl (fun w v73 hw => ?_)
        refine x_as rfl rfl trivial rfl ?_  -- ref.go:360 assign t73
        refine xl_nil ?_
        refine x_region rfl ?_
        refine x_mv rfl rfl trivial rfl ?_  -- ref.go:355 move t6
        refine x_addi rfl rfl trivial rfl rfl (by omega) ?_  -- ref.go:355 add[3] t44 1
        refine x_as rfl rfl trivial rfl ?_  -- ref.go:355 assign t45
        refine xl_nil ?_
        have hw := (hw.pick (A := blk b72 _ _) (by repeat (first | with_reducible exact Pick.here | apply Pick.there))).tail
        have hw := (hw.bring (As := [both (grs _ _ _ _ _), grow _ _ _ _ _ _]) (by repeat (first | exact Bring.nil | (apply Bring.cons; repeat (first | with_reducible exact Pick.here | apply Pick.there))))).both_snoc
        have hsn := grs_snoc 5 mkB (.slice au c.length cu) c (.slice ag (marks mkB i (c.length + 20)).length cg) 0 (X.take i) gs (by rw [htl, hgs])
        rw [htl, Nat.zero_add, ← htk] at hsn
        rw [← hsn] at hw
        exact ⟨X.length - (i + 1), by omega, [(0, _), (5, _), (6, .int .i64 (i + 1 : Nat))], (by repeat (first | exact Sub.nil _ | refine Sub.cons rfl ?_)), i + 1, gs ++ [.slice ag (marks mkB i (c.length + 20)).length cg], v73, by omega, by simp [hgs], rfl, rfl, hw.bring (As := [row _ 1 v73 _ _, both (grs _ _ _ _ _), both _]) (by repeat (first | exact Bring.nil | (apply Bring.cons; repeat (first | with_reducible exact Pick.here | apply Pick.there))))⟩
    · -- no
      have hii : i = X.length := by omega
      subst hii
      rw [List.take_length, List.drop_length] at hw
      obtain ⟨ag, cg, rfl⟩ := row_form hw
      have hsg := slv_row (T := 23) (v := .slice ag X.length cg) (cs := gs) (n := X.length) hgs
      have hw := (hw.pick (A := both (rws _ _ _ _)) (by repeat (first | with_reducible exact Pick.here | apply Pick.there))).tail
      refine x_exit rfl ?_  -- exit 4
      refine x_seq ?_
      refine x_seq ?_
      refine x_region rfl ?_
      refine x_as rfl rfl trivial rfl ?_  -- ref.go:362 assign 0
      refine xl_nil ?_
      refine x_block ?_
      refine x_loop (fun m e w => ∃ (i : Nat), i ≤ X.length ∧ m = X.length - i ∧ e = [(0, .slice a X.length cap), (5, .slice ag X.length cg), (9, .int .i64 i)] ∧ Sat G (row 23 1 (.slice ag X.length cg) X.length gs :: both (grs 5 mkB 0 X gs) :: row 23 1 (.slice a X.length cap) X.length (X.map Prod.fst) :: L) w)
        (m := X.length) (e₀ := [(0, .slice a X.length cap), (5, .slice ag X.length cg), (9, .int .i64 (0 : Nat))]) (by repeat (first | exact Sub.nil _ | refine Sub.cons rfl ?_))
        ⟨0, Nat.zero_le _, rfl, rfl, hw⟩ ?_
      rintro m e w ⟨i, hi, rfl, rfl, hw⟩
      refine x_seq ?_
      refine x_seq ?_
      refine x_region rfl ?_
      refine x_mv rfl rfl trivial rfl ?_  -- ref.go:362 move t9
      refine x_mv rfl rfl trivial rfl ?_  -- ref.go:362 move t0
      refine x_len rfl rfl trivial rfl U_sl_sl_uint8 rfl ?_  -- ref.go:362 len(t75)
      refine x_lt rfl rfl trivial rfl rfl ?_  -- ref.go:362 lss[3] t74 t76
      refine xl_nil ?_
      refine x_if rfl (fun h5 => ?_) (fun h5 => ?_)
      · -- yes
        have hi' : i < X.length := by omega
        obtain ⟨u, c, hx, hxc, hdr, htk, htl⟩ := hsplit hi'
        obtain ⟨g, hg⟩ : ∃ g, gs[i]? = some g := ⟨_, List.getElem?_eq_getElem (by omega)⟩
        have hgg : gs[(i : Int).toNat]? = some g := by rw [Int.toNat_natCast]; exact hg
        have hkn := both_knows (grs_knows (T := 5) (mk := mkB) (i := 0) hx hg)
        rw [Nat.zero_add] at hkn
        obtain ⟨b, o, rfl⟩ := ((hw.knows ((hsv.head _).pick (A := row 23 1 (.slice a X.length cap) _ _) (by repeat (first | with_reducible exact Pick.here | apply Pick.there)))).at hw).nn (by rw [List.length_map]; omega)
        obtain ⟨bg, og, rfl⟩ := ((hw.knows ((hsg.head _).pick (A := row 23 1 (.slice ag X.length cg) _ _) (by repeat (first | with_reducible exact Pick.here | apply Pick.there)))).at hw).nn (by omega)
        obtain ⟨au, cu, hu⟩ := ((hw.knows ((hkn.head _).pick (by repeat (first | with_reducible exact Pick.here | apply Pick.there)))).at hw).1.form
        obtain ⟨ah, ch, hh⟩ := ((hw.knows ((hkn.head _).pick (by repeat (first | with_reducible exact Pick.here | apply Pick.there)))).at hw).2.form
        rw [marks_length] at hu hh
        subst hu; subst hh
        obtain ⟨bh, oh, rfl⟩ := ((hw.knows ((hkn.head _).pick (by repeat (first | with_reducible exact Pick.here | apply Pick.there)))).at hw).2.nn (by rw [marks_length]; omega)
        refine x_skip ?_
        refine x_seq ?_
        refine x_block ?_
        refine x_seq ?_
        refine x_region rfl ?_
        refine x_as rfl rfl trivial rfl ?_  -- ref.go:363 assign 0
        refine xl_nil ?_
        refine x_block ?_
        refine x_loop (fun m e w => ∃ (k : Nat), k ≤ c.length + 20 ∧ m = c.length + 20 - k ∧ e = [(0, .slice (some ⟨b, o, none⟩) X.length cap), (5, .slice (some ⟨bg, og, none⟩) X.length cg), (9, .int .i64 i), (10, .int .i64 k)] ∧ Sat G (row 23 1 (.slice (some ⟨bg, og, none⟩) X.length cg) X.length gs :: both (grs 5 mkB 0 X gs) :: row 23 1 (.slice (some ⟨b, o, none⟩) X.length cap) X.length (X.map Prod.fst) :: L) w)
          (m := c.length + 20) (e₀ := [(0, .slice (some ⟨b, o, none⟩) X.length cap), (5, .slice (some ⟨bg, og, none⟩) X.length cg), (9, .int .i64 i), (10, .int .i64 (0 : Nat))]) (by repeat (first | exact Sub.nil _ | refine Sub.cons rfl ?_))
          ⟨0, Nat.zero_le _, rfl, rfl, hw⟩ ?_
        rintro m e w ⟨k, hk, rfl, rfl, hw⟩
        refine x_seq ?_
        refine x_seq ?_
        refine x_region rfl ?_
        refine x_mv rfl rfl trivial rfl ?_  -- ref.go:363 move t10
        refine x_mv rfl rfl trivial rfl ?_  -- ref.go:363 move t5
        refine x_mv rfl rfl trivial rfl ?_  -- ref.go:363 move t9
        refine x_idx1 rfl rfl trivial U_sl_sl_uint8 sz_sl_uint8 rfl rfl ⟨by omega, by omega⟩ ?_  -- ref.go:363 indexAddr[67] t81 [t82] 
        refine x_ld rfl rfl trivial rfl (Loads.one one_sl_uint8 (((hw.knows ((hsg.head _).pick (by repeat (first | with_reducible exact Pick.here | apply Pick.there)))).at hw).at hgg)) ?_  -- ref.go:363 load[23] t83
        refine x_len rfl rfl trivial rfl U_sl_uint8 rfl ?_  -- ref.go:363 len(t84)
        refine x_lt rfl rfl trivial rfl rfl ?_  -- ref.go:363 lss[3] t80 t85
        refine xl_nil ?_
        refine x_if rfl (fun h6 => ?_) (fun h6 => ?_)
        · -- yes
          have hk' : k < c.length + 20 := by omega
          refine x_skip ?_
          refine x_seq ?_
          refine x_block ?_
          refine x_seq ?_
          refine x_region rfl ?_
          refine x_mv rfl rfl trivial rfl ?_  -- ref.go:364 move t9
          refine x_muli rfl rfl trivial rfl rfl (by omega) ?_  -- ref.go:364 mul[3] t89 31
          refine x_mv rfl rfl trivial rfl ?_  -- ref.go:364 move t10
          refine x_muli rfl rfl trivial rfl rfl (by omega) ?_  -- ref.go:364 mul[3] t91 7
          refine x_addi rfl rfl trivial rfl rfl (by omega) ?_  -- ref.go:364 add[3] t90 t92
          refine x_addi rfl rfl trivial rfl rfl (by omega) ?_  -- ref.go:364 add[3] t93 1
          refine x_conv rfl rfl trivial rfl U_int U_uint8 rfl ?_  -- ref.go:364 convert 3 5 94
          refine x_as rfl rfl trivial rfl ?_  -- ref.go:364 assign t95
          refine xl_nil ?_
          refine x_seq ?_
          refine x_region rfl ?_
          refine x_mv rfl rfl trivial rfl ?_  -- ref.go:365 move t5
          refine x_mv rfl rfl trivial rfl ?_  -- ref.go:365 move t9
          refine x_idx1 rfl rfl trivial U_sl_sl_uint8 sz_sl_uint8 rfl rfl ⟨by omega, by omega⟩ ?_  -- ref.go:365 indexAddr[67] t96 [t97] 
          refine x_ld rfl rfl trivial rfl (Loads.one one_sl_uint8 (((hw.knows ((hsg.head _).pick (by repeat (first | with_reducible exact Pick.here | apply Pick.there)))).at hw).at hgg)) ?_  -- ref.go:365 load[23] t98
          refine x_mv rfl rfl trivial rfl ?_  -- ref.go:365 move t10
          refine x_idx1 rfl rfl trivial U_sl_uint8 sz_uint8 rfl rfl ⟨by omega, by omega⟩ ?_  -- ref.go:365 indexAddr[23] t99 [t100] 
          refine x_ld rfl rfl trivial rfl (Loads.one one_uint8 (((hw.knows ((hkn.head _).pick (by repeat (first | with_reducible exact Pick.here | apply Pick.there)))).at hw).2.at (by rw [Int.toNat_natCast]; exact marks_get hk'))) ?_  -- ref.go:365 load[5] t101
          refine x_mv rfl rfl trivial rfl ?_  -- ref.go:365 move t11
          refine x_ne rfl rfl trivial rfl rfl rfl ?_  -- ref.go:365 neq[5] t102 t103
          refine x_mv rfl rfl trivial rfl ?_  -- ref.go:365 move t104
          refine xl_split (d := 105) rfl (fun h7 => ?_) (fun h7 => ?_)
          · -- yes
            exact absurd rfl h7
          · -- no
            refine x_mv rfl rfl ⟨_, rfl, rfl⟩ rfl ?_  -- ref.go:365 move t10
            refine x_mv rfl rfl ⟨_, rfl, rfl⟩ rfl ?_  -- ref.go:365 move t0
            refine x_mv rfl rfl ⟨_, rfl, rfl⟩ rfl ?_  -- ref.go:365 move t9
            refine x_idx1 rfl rfl ⟨_, rfl, rfl⟩ U_sl_sl_uint8 sz_sl_uint8 rfl rfl ⟨by omega, by omega⟩ ?_  -- ref.go:365 indexAddr[67] t107 [t108] 
            refine x_ld rfl rfl ⟨_, rfl, rfl⟩ rfl (Loads.one one_sl_uint8 (((hw.knows ((hsv.head _).pick (by repeat (first | with_reducible exact Pick.here | apply Pick.there)))).at hw).at (hget hx))) ?_  -- ref.go:365 load[23] t109
            refine x_len rfl rfl ⟨_, rfl, rfl⟩ rfl U_sl_uint8 rfl ?_  -- ref.go:365 len(t110)
            refine x_lt rfl rfl ⟨_, rfl, rfl⟩ rfl rfl ?_  -- ref.go:365 lss[3] t106 t111
            refine x_mv rfl rfl ⟨_, rfl, rfl⟩ rfl ?_  -- ref.go:365 move t112
            refine xl_split (d := 113) rfl (fun h8 => ?_) (fun h8 => ?_)
            · -- yes
              obtain ⟨bu, ou, rfl⟩ := ((hw.knows ((hkn.head _).pick (by repeat (first | with_reducible exact Pick.here | apply Pick.there)))).at hw).1.nn (by rw [marks_length]; omega)
              refine x_mv rfl rfl ⟨_, rfl, rfl⟩ rfl ?_  -- ref.go:365 move t0
              refine x_mv rfl rfl ⟨_, rfl, rfl⟩ rfl ?_  -- ref.go:365 move t9
              refine x_idx1 rfl rfl ⟨_, rfl, rfl⟩ U_sl_sl_uint8 sz_sl_uint8 rfl rfl ⟨by omega, by omega⟩ ?_  -- ref.go:365 indexAddr[67] t114 [t115] 
              refine x_ld rfl rfl ⟨_, rfl, rfl⟩ rfl (Loads.one one_sl_uint8 (((hw.knows ((hsv.head _).pick (by repeat (first | with_reducible exact Pick.here | apply Pick.there)))).at hw).at (hget hx))) ?_  -- ref.go:365 load[23] t116
              refine x_mv rfl rfl ⟨_, rfl, rfl⟩ rfl ?_  -- ref.go:365 move t10
              refine x_idx1 rfl rfl ⟨_, rfl, rfl⟩ U_sl_uint8 sz_uint8 rfl rfl ⟨by omega, by omega⟩ ?_  -- ref.go:365 indexAddr[23] t117 [t118] 
              refine x_ld rfl rfl ⟨_, rfl, rfl⟩ rfl (Loads.one one_uint8 (((hw.knows ((hkn.head _).pick (by repeat (first | with_reducible exact Pick.here | apply Pick.there)))).at hw).1.at (by rw [Int.toNat_natCast]; exact marks_get (by omega)))) ?_  -- ref.go:365 load[5] t119
              refine x_mv rfl rfl ⟨_, rfl, rfl⟩ rfl ?_  -- ref.go:365 move t11
              refine x_ne rfl rfl ⟨_, rfl, rfl⟩ rfl rfl rfl ?_  -- ref.go:365 neq[5] t120 t121
              refine x_pickT rfl rfl ⟨_, rfl, rfl⟩ rfl rfl rfl ?_  -- ref.go:365 pick t113 ? t122 : False
              refine x_pickF rfl rfl trivial rfl rfl rfl ?_  -- ref.go:365 pick t105 ? True : t123
              refine xl_nil ?_
              refine x_if rfl (fun h9 => ?_) (fun h9 => ?_)
              · -- yes
                exact absurd rfl h9
              · -- no
                refine x_skip ?_
                refine x_region rfl ?_
                refine x_mv rfl rfl trivial rfl ?_  -- ref.go:363 move t10
                refine x_addi rfl rfl trivial rfl rfl (by omega) ?_  -- ref.go:363 add[3] t87 1
                refine x_as rfl rfl trivial rfl ?_  -- ref.go:363 assign t88
                refine xl_nil ?_
                exact ⟨c.length + 20 - (k + 1), by omega, [(0, _), (5, _), (9, _), (10, .int .i64 (k + 1 : Nat))], (by repeat (first | exact Sub.nil _ | refine Sub.cons rfl ?_)), k + 1, by omega, rfl, rfl, hw⟩
            · -- no
              refine xl_no rfl rfl rfl rfl rfl rfl ?_  -- passed over: move t0
              refine xl_no rfl rfl rfl rfl rfl rfl ?_  -- passed over: move t9
              refine xl_no rfl rfl rfl rfl rfl rfl ?_  -- passed over: indexAddr[67] t114 [t115] 
              refine xl_no rfl rfl rfl rfl rfl rfl ?_  -- passed over: load[23] t116
              refine xl_no rfl rfl rfl rfl rfl rfl ?_  -- passed over: move t10
              refine xl_no rfl rfl rfl rfl rfl rfl ?_  -- passed over: indexAddr[23] t117 [t118] 
              refine xl_no rfl rfl rfl rfl rfl rfl ?_  -- passed over: load[5] t119
              refine xl_no rfl rfl rfl rfl rfl rfl ?_  -- passed over: move t11
              refine xl_no rfl rfl rfl rfl rfl rfl ?_  -- passed over: neq[5] t120 t121
              refine x_pickF rfl rfl ⟨_, rfl, rfl⟩ rfl rfl rfl ?_  -- ref.go:365 pick t113 ? t122 : False
              refine x_pickF rfl rfl trivial rfl rfl rfl ?_  -- ref.go:365 pick t105 ? True : t123
              refine xl_nil ?_
              refine x_cond_false rfl ?_
              refine x_skip ?_
              refine x_region rfl ?_
              refine x_mv rfl rfl trivial rfl ?_  -- ref.go:363 move t10
              refine x_addi rfl rfl trivial rfl rfl (by omega) ?_  -- ref.go:363 add[3] t87 1
              refine x_as rfl rfl trivial rfl ?_  -- ref.go:363 assign t88
              refine xl_nil ?_
              exact ⟨c.length + 20 - (k + 1), by omega, [(0, _), (5, _), (9, _), (10, .int .i64 (k + 1 : Nat))], (by repeat (first | exact Sub.nil _ | refine Sub.cons rfl ?_)), k + 1, by omega, rfl, rfl, hw⟩
        · -- no
          refine x_exit rfl ?_  -- exit 10
          refine x_region rfl ?_
          refine x_mv rfl rfl trivial rfl ?_  -- ref.go:362 move t9
          refine x_addi rfl rfl trivial rfl rfl (by omega) ?_  -- ref.go:362 add[3] t78 1
          refine x_as rfl rfl trivial rfl ?_  -- ref.go:362 assign t79
          refine xl_nil ?_
          exact ⟨X.length - (i + 1), by omega, [(0, _), (5, _), (9, .int .i64 (i + 1 : Nat))], (by repeat (first | exact Sub.nil _ | refine Sub.cons rfl ?_)), i + 1, by omega, rfl, rfl, hw⟩
      · -- no
        refine x_exit rfl ?_  -- exit 8
        refine x_seq ?_
        refine x_region rfl ?_
        refine x_as rfl rfl trivial rfl ?_  -- ref.go:370 assign True
        refine xl_nil ?_
        refine x_ret ?_
        exact end1 rfl rfl ⟨rfl, hw.tail.tail.tail⟩

theorem ct_ref00_ApartInts {v : Value} {X : List (Value × List Value)} (hw : Sat G (row 52 1 v X.length (X.map Prod.fst) :: both (rw0 3 X) :: L) w) (hn : X.length ≤ 1000) (hX : ∀ x ∈ X, x.2.length ≤ 1000000000) :
    Calls Try.prog 44 #[v] w (Ret fun r w' => r = .bool true ∧ Sat G L w') := by
  obtain ⟨a, cap, rfl⟩ := row_form hw
  have hsv := slv_row (T := 52) (v := .slice a X.length cap) (cs := X.map Prod.fst) (n := X.length) (by simp)
  have hget : ∀ {i : Nat} {x : Value × List Value}, X[i]? = some x → (X.map Prod.fst)[(i : Int).toNat]? = some x.1 := fun {i x} h => by
    rw [Int.toNat_natCast, List.getElem?_map, h]; rfl
  have hsplit : ∀ {i : Nat}, i < X.length → ∃ u c, X[i]? = some (u, c) ∧ c.length ≤ 1000000000 ∧ X.drop i = (u, c) :: X.drop (i + 1) ∧ X.take (i + 1) = X.take i ++ [(u, c)] ∧ (X.take i).length = i := fun {i} hi => by
    obtain ⟨⟨u, c⟩, hx⟩ : ∃ x, X[i]? = some x := ⟨_, List.getElem?_eq_getElem hi⟩
    refine ⟨u, c, hx, hX _ (List.mem_of_getElem? hx), ?_, by rw [List.take_add_one, hx]; rfl, by rw [List.length_take]; omega⟩
    rw [List.drop_eq_getElem_cons hi]; congr 1
    rw [List.getElem?_eq_getElem hi] at hx; exact Option.some.inj hx
  refine calls_of_x (args := [_]) func_ref00_ApartInts rfl nt_ref00_ApartInts rfl ?_
  refine x_seq ?_
  refine x_region rfl ?_
  refine x_as rfl rfl trivial rfl ?_  -- ref.go:374 assign False
  refine xl_nil ?_
  refine x_seq ?_
  refine x_seq ?_
  refine x_region rfl ?_
  refine x_as rfl rfl trivial rfl ?_  -- ref.go:375 assign 0
  refine xl_nil ?_
  refine x_block ?_
  refine x_loop (fun m e w => ∃ (i : Nat), i ≤ X.length ∧ m = X.length - i ∧ e = [(0, .slice a X.length cap), (3, .int .i64 i)] ∧ Sat G (row 52 1 (.slice a X.length cap) X.length (X.map Prod.fst) :: both (rws 3 mkI 0 (X.take i)) :: both (rw0 3 (X.drop i)) :: L) w)
    (m := X.length) (e₀ := [(0, .slice a X.length cap), (3, .int .i64 (0 : Nat))]) (by repeat (first | exact Sub.nil _ | refine Sub.cons rfl ?_))
    ⟨0, Nat.zero_le _, rfl, rfl, (Sat.both_in (M := []) hw).pick (.there .here)⟩ ?_
  rintro m e w ⟨i, hi, rfl, rfl, hw⟩
  refine x_seq ?_
  refine x_seq ?_
  refine x_region rfl ?_
  refine x_mv rfl rfl trivial rfl ?_  -- ref.go:375 move t3
  refine x_mv rfl rfl trivial rfl ?_  -- ref.go:375 move t0
  refine x_len rfl rfl trivial rfl U_sl_sl_int rfl ?_  -- ref.go:375 len(t12)
  refine x_lt rfl rfl trivial rfl rfl ?_  -- ref.go:375 lss[3] t11 t13
  refine xl_nil ?_
  refine x_if rfl (fun h1 => ?_) (fun h1 => ?_)
  · -- yes
    have hi' : i < X.length := by omega
    obtain ⟨u, c, hx, hxc, hdr, htk, htl⟩ := hsplit hi'
    obtain ⟨b, o, rfl⟩ := ((hw.knows ((hsv.head _).pick (by repeat (first | with_reducible exact Pick.here | apply Pick.there)))).at hw).nn (by rw [List.length_map]; omega)
    have hw := (hw.pick (A := both (rw0 3 _)) (by repeat (first | with_reducible exact Pick.here | apply Pick.there)))
    rw [hdr] at hw
    have hw := hw.both_uncons
    obtain ⟨au, cu, rfl⟩ := row_form hw
    refine x_skip ?_
    refine x_seq ?_
    refine x_block ?_
    refine x_seq ?_
    refine x_region rfl ?_
    refine x_as rfl rfl trivial rfl ?_  -- ref.go:376 assign 0
    refine xl_nil ?_
    refine x_block ?_
    have hw := hw.bring (As := [row _ 1 (.slice au _ _) _ _, row _ 1 (.slice (some ⟨b, o, none⟩) _ _) _ _, both (rws _ _ _ _), both _]) (by repeat (first | exact Bring.nil | (apply Bring.cons; repeat (first | with_reducible exact Pick.here | apply Pick.there))))
    refine x_loop (fun m e w => ∃ (k : Nat), k ≤ c.length ∧ m = c.length - k ∧ e = [(0, .slice (some ⟨b, o, none⟩) X.length cap), (3, .int .i64 i), (4, .int .i64 k)] ∧ Sat G (row 3 1 (.slice au c.length cu) c.length (marks mkI i k ++ c.drop k) :: row 52 1 (.slice (some ⟨b, o, none⟩) X.length cap) X.length (X.map Prod.fst) :: both (rws 3 mkI 0 (X.take i)) :: both (rw0 3 (X.drop (i + 1))) :: L) w)
      (m := c.length) (e₀ := [(0, .slice (some ⟨b, o, none⟩) X.length cap), (3, .int .i64 i), (4, .int .i64 (0 : Nat))]) (by repeat (first | exact Sub.nil _ | refine Sub.cons rfl ?_))
      ⟨0, Nat.zero_le _, rfl, rfl, hw⟩ ?_
    rintro m e w ⟨k, hk, rfl, rfl, hw⟩
    refine x_seq ?_
    refine x_seq ?_
    refine x_region rfl ?_
    refine x_mv rfl rfl trivial rfl ?_  -- ref.go:376 move t4
    refine x_mv rfl rfl trivial rfl ?_  -- ref.go:376 move t0
    refine x_mv rfl rfl trivial rfl ?_  -- ref.go:376 move t3
    refine x_idx1 rfl rfl trivial U_sl_sl_int sz_sl_int rfl rfl ⟨by omega, by omega⟩ ?_  -- ref.go:376 indexAddr[68] t18 [t19] 
    refine x_ld rfl rfl trivial rfl (Loads.one one_sl_int (((hw.knows ((hsv.head _).pick (by repeat (first | with_reducible exact Pick.here | apply Pick.there)))).at hw).at (hget hx))) ?_  -- ref.go:376 load[52] t20
    refine x_len rfl rfl trivial rfl U_sl_int rfl ?_  -- ref.go:376 len(t21)
    refine x_lt rfl rfl trivial rfl rfl ?_  -- ref.go:376 lss[3] t17 t22
    refine xl_nil ?_
    refine x_if rfl (fun h2 => ?_) (fun h2 => ?_)
    · -- yes
      have hk' : k < c.length := by omega
      obtain ⟨-, bu, cur, rfl, hcc, hcm, hcl, hw⟩ := row_some (hw.pick (A := row 3 1 _ _ _) (by repeat (first | with_reducible exact Pick.here | apply Pick.there))) (by omega)
      refine x_skip ?_
      refine x_seq ?_
      refine x_block ?_
      refine x_region rfl ?_
      refine x_mv rfl rfl trivial rfl ?_  -- ref.go:377 move t0
      refine x_mv rfl rfl trivial rfl ?_  -- ref.go:377 move t3
      refine x_idx1 rfl rfl trivial U_sl_sl_int sz_sl_int rfl rfl ⟨by omega, by omega⟩ ?_  -- ref.go:377 indexAddr[68] t26 [t27] 
      refine x_ld rfl rfl trivial rfl (Loads.one one_sl_int (((hw.knows ((hsv.head _).pick (by repeat (first | with_reducible exact Pick.here | apply Pick.there)))).at hw).at (hget hx))) ?_  -- ref.go:377 load[52] t28
      refine x_mv rfl rfl trivial rfl ?_  -- ref.go:377 move t4
      refine x_mv rfl rfl trivial rfl ?_  -- ref.go:377 move t3
      refine x_muli rfl rfl trivial rfl rfl (by omega) ?_  -- ref.go:377 mul[3] t31 100003
      refine x_mv rfl rfl trivial rfl ?_  -- ref.go:377 move t4
      refine x_addi rfl rfl trivial rfl rfl (by omega) ?_  -- ref.go:377 add[3] t32 t33
      refine x_idx1 rfl rfl trivial U_sl_int sz_int rfl rfl ⟨by omega, by omega⟩ ?_  -- ref.go:377 indexAddr[52] t29 [t30] 
      -- ref.go:377 store[3] t35 := t34
      refine x_st1 (l' := (marks mkI i (k + 1) ++ c.drop (k + 1)) ++ cur) rfl trivial rfl rfl one_int rfl hw (by repeat (first | with_reducible exact Pick.here | apply Pick.there)) (by simp only [List.length_append, marks_length, List.length_drop, Nat.blt_eq]; omega) (by
        have hix : 0 + (k : Int).toNat = k := by omega
        rw [hix, List.set_append_left _ _ (by simp only [List.length_append, marks_length, List.length_drop]; omega), List.set_append_right _ _ (by rw [marks_length]; omega), marks_length, Nat.sub_self, List.drop_eq_getElem_cons hk', List.set_cons_zero, marks_succ]
        simp [mkI]) rfl (fun w hw => ?_)
      refine xl_nil ?_
      refine x_region rfl ?_
      refine x_mv rfl rfl trivial rfl ?_  -- ref.go:376 move t4
      refine x_addi rfl rfl trivial rfl rfl (by omega) ?_  -- ref.go:376 add[3] t24 1
      refine x_as rfl rfl trivial rfl ?_  -- ref.go:376 assign t25
      refine xl_nil ?_
      have hw := row_mk (z := 1) (m := c.length) hw (by simp only [List.length_append, marks_length, List.length_drop]; omega) hcc hcm (by simp only [List.length_append, marks_length, List.length_drop] at hcl ⊢; omega)
      exact ⟨c.length - (k + 1), by omega, [(0, _), (3, _), (4, .int .i64 (k + 1 : Nat))], (by repeat (first | exact Sub.nil _ | refine Sub.cons rfl ?_)), k + 1, by omega, rfl, rfl, hw⟩
    · -- no
      refine x_exit rfl ?_  -- exit 2
      refine x_region rfl ?_
      refine x_mv rfl rfl trivial rfl ?_  -- ref.go:375 move t3
      refine x_addi rfl rfl trivial rfl rfl (by omega) ?_  -- ref.go:375 add[3] t15 1
      refine x_as rfl rfl trivial rfl ?_  -- ref.go:375 assign t16
      refine xl_nil ?_
      have hkk : k = c.length := by omega
      have hw := hw.bring (As := [both (rws _ _ _ _), row 3 1 _ _ _]) (by repeat (first | exact Bring.nil | (apply Bring.cons; repeat (first | with_reducible exact Pick.here | apply Pick.there))))
      rw [hkk, List.drop_length, List.append_nil] at hw
      have hw := hw.both_snoc
      have hsn := rws_snoc 3 mkI (.slice au c.length cu) c 0 (X.take i)
      rw [htl, Nat.zero_add, ← htk] at hsn
      rw [← hsn] at hw
      exact ⟨X.length - (i + 1), by omega, [(0, _), (3, .int .i64 (i + 1 : Nat))], (by repeat (first | exact Sub.nil _ | refine Sub.cons rfl ?_)), i + 1, by omega, rfl, rfl, hw.pick (A := row 52 1 _ _ _) (by repeat (first | with_reducible exact Pick.here | apply Pick.there))⟩
  · -- no
    have hii : i = X.length := by omega
    subst hii
    rw [List.take_length] at hw
    have hw := ((hw.pick (A := both (rw0 _ _)) (by repeat (first | with_reducible exact Pick.here | apply Pick.there))).tail.pick (A := both (rws _ _ _ _)) (by repeat (first | with_reducible exact Pick.here | apply Pick.there)))
    refine x_exit rfl ?_  -- exit 0
    refine x_seq ?_
    refine x_region rfl ?_
    refine x_as rfl rfl trivial rfl ?_  -- ref.go:380 assign {'nilslice': 1}
    refine xl_nil ?_
    refine x_seq ?_
    refine x_seq ?_
    refine x_region rfl ?_
    refine x_as rfl rfl trivial rfl ?_  -- ref.go:381 assign 0
    refine xl_nil ?_
    refine x_block ?_
    have hw := Sat.both_in (M := grs 3 mkI 0 [] []) hw
    have hw := row_nil hw 52 1
    refine x_loop (fun m e w => ∃ (i : Nat) (gs : List Value) (gv : Value), i ≤ X.length ∧ gs.length = i ∧ m = X.length - i ∧ e = [(0, .slice a X.length cap), (5, gv), (6, .int .i64 i)] ∧ Sat G (row 52 1 gv i gs :: both (grs 3 mkI 0 (X.take i) gs) :: both (rws 3 mkI i (X.drop i)) :: row 52 1 (.slice a X.length cap) X.length (X.map Prod.fst) :: L) w)
      (m := X.length) (e₀ := [(0, .slice a X.length cap), (5, .slice none 0 0), (6, .int .i64 (0 : Nat))]) (by repeat (first | exact Sub.nil _ | refine Sub.cons rfl ?_))
      ⟨0, [], _, Nat.zero_le _, rfl, rfl, rfl, hw⟩ ?_
    rintro m e w ⟨i, gs, gv, hi, hgs, rfl, rfl, hw⟩
    refine x_seq ?_
    refine x_seq ?_
    refine x_region rfl ?_
    refine x_mv rfl rfl trivial rfl ?_  -- ref.go:381 move t6
    refine x_mv rfl rfl trivial rfl ?_  -- ref.go:381 move t0
    refine x_len rfl rfl trivial rfl U_sl_sl_int rfl ?_  -- ref.go:381 len(t37)
    refine x_lt rfl rfl trivial rfl rfl ?_  -- ref.go:381 lss[3] t36 t38
    refine xl_nil ?_
    refine x_if rfl (fun h3 => ?_) (fun h3 => ?_)
    · -- yes
      have hi' : i < X.length := by omega
      obtain ⟨u, c, hx, hxc, hdr, htk, htl⟩ := hsplit hi'
      obtain ⟨b, o, rfl⟩ := ((hw.knows ((hsv.head _).pick (by repeat (first | with_reducible exact Pick.here | apply Pick.there)))).at hw).nn (by rw [List.length_map]; omega)
      have hw := (hw.pick (A := both (rws 3 _ _ _)) (by repeat (first | with_reducible exact Pick.here | apply Pick.there)))
      rw [hdr] at hw
      have hw := hw.both_uncons
      obtain ⟨au, cu, rfl⟩ := row_form hw
      have hw := grow_start hw
      refine x_skip ?_
      refine x_seq ?_
      refine x_block ?_
      refine x_seq ?_
      refine x_region rfl ?_
      refine x_mv rfl rfl trivial rfl ?_  -- ref.go:382 move t0
      refine x_mv rfl rfl trivial rfl ?_  -- ref.go:382 move t6
      refine x_idx1 rfl rfl trivial U_sl_sl_int sz_sl_int rfl rfl ⟨by omega, by omega⟩ ?_  -- ref.go:382 indexAddr[68] t42 [t43] 
      refine x_ld rfl rfl trivial rfl (Loads.one one_sl_int (((hw.knows ((hsv.head _).pick (by repeat (first | with_reducible exact Pick.here | apply Pick.there)))).at hw).at (hget hx))) ?_  -- ref.go:382 load[52] t44
      refine x_as rfl rfl trivial rfl ?_  -- ref.go:382 assign t45
      refine xl_nil ?_
      refine x_seq ?_
      refine x_seq ?_
      refine x_region rfl ?_
      refine x_as rfl rfl trivial rfl ?_  -- ref.go:383 assign 0
      refine xl_nil ?_
      refine x_block ?_
      have hw := hw.bring (As := [grow _ _ _ _ _ _, row _ 1 gv _ _, both (grs _ _ _ _ _), both _]) (by repeat (first | exact Bring.nil | (apply Bring.cons; repeat (first | with_reducible exact Pick.here | apply Pick.there))))
      refine x_loop (fun m e w => ∃ (j : Nat) (g : Value), j ≤ 20 ∧ m = 20 - j ∧ e = [(0, .slice (some ⟨b, o, none⟩) X.length cap), (5, gv), (6, .int .i64 i), (7, g), (8, .int .i64 j)] ∧ Sat G (grow 3 (.slice au c.length cu) g c.length (marks mkI i c.length) (marks mkI i (c.length + j)) :: row 52 1 gv i gs :: both (grs 3 mkI 0 (X.take i) gs) :: both (rws 3 mkI (i + 1) (X.drop (i + 1))) :: row 52 1 (.slice (some ⟨b, o, none⟩) X.length cap) X.length (X.map Prod.fst) :: L) w)
        (m := 20) (e₀ := [(0, .slice (some ⟨b, o, none⟩) X.length cap), (5, gv), (6, .int .i64 i), (7, .slice au c.length cu), (8, .int .i64 (0 : Nat))]) (by repeat (first | exact Sub.nil _ | refine Sub.cons rfl ?_))
        ⟨0, _, Nat.zero_le _, rfl, rfl, hw⟩ ?_
      rintro m e w ⟨j, g, hj, rfl, rfl, hw⟩
      refine x_seq ?_
      refine x_seq ?_
      refine x_region rfl ?_
      refine x_mv rfl rfl trivial rfl ?_  -- ref.go:383 move t8
      refine x_lt rfl rfl trivial rfl rfl ?_  -- ref.go:383 lss[3] t46 20
      refine xl_nil ?_
      refine x_if rfl (fun h4 => ?_) (fun h4 => ?_)
      · -- yes
        refine x_skip ?_
        refine x_seq ?_
        refine x_block ?_
        refine x_region rfl ?_
        refine x_mv rfl rfl trivial rfl ?_  -- ref.go:384 move t7
        refine x_mv rfl rfl trivial rfl ?_  -- ref.go:384 move t6
        refine x_muli rfl rfl trivial rfl rfl (by omega) ?_  -- ref.go:384 mul[3] t51 100003
        refine x_mv rfl rfl trivial rfl ?_  -- ref.go:384 move t0
        refine x_mv rfl rfl trivial rfl ?_  -- ref.go:384 move t6
        refine x_idx1 rfl rfl trivial U_sl_sl_int sz_sl_int rfl rfl ⟨by omega, by omega⟩ ?_  -- ref.go:384 indexAddr[68] t53 [t54] 
        refine x_ld rfl rfl trivial rfl (Loads.one one_sl_int (((hw.knows ((hsv.head _).pick (by repeat (first | with_reducible exact Pick.here | apply Pick.there)))).at hw).at (hget hx))) ?_  -- ref.go:384 load[52] t55
        refine x_len rfl rfl trivial rfl U_sl_int rfl ?_  -- ref.go:384 len(t56)
        refine x_addi rfl rfl trivial rfl rfl (by omega) ?_  -- ref.go:384 add[3] t52 t57
        refine x_mv rfl rfl trivial rfl ?_  -- ref.go:384 move t8
        refine x_addi rfl rfl trivial rfl rfl (by omega) ?_  -- ref.go:384 add[3] t58 t59
        -- ref.go:384 buildSlice 52 1 [[0, 60]]
        refine x_bs1 (cs := [mkI i (c.length + j)]) rfl rfl trivial U_sl_int sz_int zs_int (by decide) rfl (by
          simp [mkI, Value.cells]; omega) rfl hw rfl (fun w b68 hw => ?_)
        -- ref.go:384 append(t50, t61)
        refine x_appG (u := mkI i (c.length + j)) rfl rfl trivial U_sl_int sz_int by_int zs_int rfl rfl hw (by repeat (first | with_reducible exact Pick.here | apply Pick.there)) (Rd.blk0 hw (by repeat (first | with_reducible exact Pick.here | apply Pick.there))) (by intro u hu; simp at hu; subst hu; rfl) (by rw [marks_length]; simp only [maxLen]; omega) (by rw [marks_length]; omega) rfl (fun w v69 hw => ?_)
        refine x_as rfl rfl trivial rfl ?_  -- ref.go:384 assign t62
        refine xl_nil ?_
        refine x_region rfl ?_
        refine x_mv rfl rfl trivial rfl ?_  -- ref.go:383 move t8
        refine x_addi rfl rfl trivial rfl rfl (by omega) ?_  -- ref.go:383 add[3] t48 1
        refine x_as rfl rfl trivial rfl ?_  -- ref.go:383 assign t49
        refine xl_nil ?_
        rw [← marks_succ] at hw
        have hw := (hw.pick (A := blk b68 _ _) (by repeat (first | with_reducible exact Pick.here | apply Pick.there))).tail
        exact ⟨20 - (j + 1), by omega, [(0, _), (5, _), (6, _), (7, _), (8, .int .i64 (j + 1 : Nat))], (by repeat (first | exact Sub.nil _ | refine Sub.cons rfl ?_)), j + 1, _, by omega, rfl, rfl, hw⟩
      · -- no
        have hjj : j = 20 := by omega
        subst hjj
        obtain ⟨ag, cg, rfl⟩ := (((grow_knows.head _).at hw).2).form
        refine x_exit rfl ?_  -- exit 6
        refine x_region rfl ?_
        refine x_mv rfl rfl trivial rfl ?_  -- ref.go:386 move t5
        refine x_mv rfl rfl trivial rfl ?_  -- ref.go:386 move t7
        -- ref.go:386 buildSlice 68 1 [[0, 64]]
        refine x_bs1 (cs := [.slice ag (marks mkI i (c.length + 20)).length cg]) rfl rfl trivial U_sl_sl_int sz_sl_int zs_sl_int (by decide) rfl rfl rfl hw rfl (fun w b72 hw => ?_)
        -- ref.go:386 append(t63, t65)
        refine x_app (m := i) (k := 1) (news := [.slice ag (marks mkI i (c.length + 20)).length cg]) rfl rfl trivial U_sl_sl_int sz_sl_int by_sl_int zs_sl_int rfl rfl hw (Pick.there (.there .here)) (Rd.blk0 hw (by repeat (first | with_reducible exact Pick.here | apply Pick.there))) rfl (by intro u hu; simp at hu; subst hu; rfl) (by simp only [maxLen]; omega) (by omega) rfl (fun w v73 hw => ?_)
        refine x_as rfl rfl trivial rfl ?_  -- ref.go:386 assign t66
        refine xl_nil ?_
        refine x_region rfl ?_
        refine x_mv rfl rfl trivial rfl ?_  -- ref.go:381 move t6
        refine x_addi rfl rfl trivial rfl rfl (by omega) ?_  -- ref.go:381 add[3] t40 1
        refine x_as rfl rfl trivial rfl ?_  -- ref.go:381 assign t41
        refine xl_nil ?_
        have hw := (hw.pick (A := blk b72 _ _) (by repeat (first | with_reducible exact Pick.here | apply Pick.there))).tail
        have hw := (hw.bring (As := [both (grs _ _ _ _ _), grow _ _ _ _ _ _]) (by repeat (first | exact Bring.nil | (apply Bring.cons; repeat (first | with_reducible exact Pick.here | apply Pick.there))))).both_snoc
        have hsn := grs_snoc 3 mkI (.slice au c.length cu) c (.slice ag (marks mkI i (c.length + 20)).length cg) 0 (X.take i) gs (by rw [htl, hgs])
        rw [htl, Nat.zero_add, ← htk] at hsn
        rw [← hsn] at hw
        exact ⟨X.length - (i + 1), by omega, [(0, _), (5, _), (6, .int .i64 (i + 1 : Nat))], (by repeat (first | exact Sub.nil _ | refine Sub.cons rfl ?_)), i + 1, gs ++ [.slice ag (marks mkI i (c.length + 20)).length cg], v73, by omega, by simp [hgs], rfl, rfl, hw.bring (As := [row _ 1 v73 _ _, both (grs _ _ _ _ _), both _]) (by repeat (first | exact Bring.nil | (apply Bring.cons; repeat (first | with_reducible exact Pick.here | apply Pick.there))))⟩
    · -- no
      have hii : i = X.length := by omega
      subst hii
      rw [List.take_length, List.drop_length] at hw
      obtain ⟨ag, cg, rfl⟩ := row_form hw
      have hsg := slv_row (T := 52) (v := .slice ag X.length cg) (cs := gs) (n := X.length) hgs
      have hw := (hw.pick (A := both (rws _ _ _ _)) (by repeat (first | with_reducible exact Pick.here | apply Pick.there))).tail
      refine x_exit rfl ?_  -- exit 4
      refine x_seq ?_
      refine x_seq ?_
      refine x_region rfl ?_
      refine x_as rfl rfl trivial rfl ?_  -- ref.go:388 assign 0
      refine xl_nil ?_
      refine x_block ?_
      refine x_loop (fun m e w => ∃ (i : Nat), i ≤ X.length ∧ m = X.length - i ∧ e = [(0, .slice a X.length cap), (5, .slice ag X.length cg), (9, .int .i64 i)] ∧ Sat G (row 52 1 (.slice ag X.length cg) X.length gs :: both (grs 3 mkI 0 X gs) :: row 52 1 (.slice a X.length cap) X.length (X.map Prod.fst) :: L) w)
        (m := X.length) (e₀ := [(0, .slice a X.length cap), (5, .slice ag X.length cg), (9, .int .i64 (0 : Nat))]) (by repeat (first | exact Sub.nil _ | refine Sub.cons rfl ?_))
        ⟨0, Nat.zero_le _, rfl, rfl, hw⟩ ?_
      rintro m e w ⟨i, hi, rfl, rfl, hw⟩
      refine x_seq ?_
      refine x_seq ?_
      refine x_region rfl ?_
      refine x_mv rfl rfl trivial rfl ?_  -- ref.go:388 move t9
      refine x_mv rfl rfl trivial rfl ?_  -- ref.go:388 move t0
      refine x_len rfl rfl trivial rfl U_sl_sl_int rfl ?_  -- ref.go:388 len(t68)
      refine x_lt rfl rfl trivial rfl rfl ?_  -- ref.go:388 lss[3] t67 t69
      refine xl_nil ?_
      refine x_if rfl (fun h5 => ?_) (fun h5 => ?_)
      · -- yes
        have hi' : i < X.length := by omega
        obtain ⟨u, c, hx, hxc, hdr, htk, htl⟩ := hsplit hi'
        obtain ⟨g, hg⟩ : ∃ g, gs[i]? = some g := ⟨_, List.getElem?_eq_getElem (by omega)⟩
        have hgg : gs[(i : Int).toNat]? = some g := by rw [Int.toNat_natCast]; exact hg
        have hkn := both_knows (grs_knows (T := 3) (mk := mkI) (i := 0) hx hg)
        rw [Nat.zero_add] at hkn
        obtain ⟨b, o, rfl⟩ := ((hw.knows ((hsv.head _).pick (A := row 52 1 (.slice a X.length cap) _ _) (by repeat (first | with_reducible exact Pick.here | apply Pick.there)))).at hw).nn (by rw [List.length_map]; omega)
        obtain ⟨bg, og, rfl⟩ := ((hw.knows ((hsg.head _).pick (A := row 52 1 (.slice ag X.length cg) _ _) (by repeat (first | with_reducible exact Pick.here | apply Pick.there)))).at hw).nn (by omega)
        obtain ⟨au, cu, hu⟩ := ((hw.knows ((hkn.head _).pick (by repeat (first | with_reducible exact Pick.here | apply Pick.there)))).at hw).1.form
        obtain ⟨ah, ch, hh⟩ := ((hw.knows ((hkn.head _).pick (by repeat (first | with_reducible exact Pick.here | apply Pick.there)))).at hw).2.form
        rw [marks_length] at hu hh
        subst hu; subst hh
        obtain ⟨bh, oh, rfl⟩ := ((hw.knows ((hkn.head _).pick (by repeat (first | with_reducible exact Pick.here | apply Pick.there)))).at hw).2.nn (by rw [marks_length]; omega)
        refine x_skip ?_
        refine x_seq ?_
        refine x_block ?_
        refine x_seq ?_
        refine x_region rfl ?_
        refine x_as rfl rfl trivial rfl ?_  -- ref.go:389 assign 0
        refine xl_nil ?_
        refine x_block ?_
        refine x_loop (fun m e w => ∃ (k : Nat), k ≤ c.length + 20 ∧ m = c.length + 20 - k ∧ e = [(0, .slice (some ⟨b, o, none⟩) X.length cap), (5, .slice (some ⟨bg, og, none⟩) X.length cg), (9, .int .i64 i), (10, .int .i64 k)] ∧ Sat G (row 52 1 (.slice (some ⟨bg, og, none⟩) X.length cg) X.length gs :: both (grs 3 mkI 0 X gs) :: row 52 1 (.slice (some ⟨b, o, none⟩) X.length cap) X.length (X.map Prod.fst) :: L) w)
          (m := c.length + 20) (e₀ := [(0, .slice (some ⟨b, o, none⟩) X.length cap), (5, .slice (some ⟨bg, og, none⟩) X.length cg), (9, .int .i64 i), (10, .int .i64 (0 : Nat))]) (by repeat (first | exact Sub.nil _ | refine Sub.cons rfl ?_))
          ⟨0, Nat.zero_le _, rfl, rfl, hw⟩ ?_
        rintro m e w ⟨k, hk, rfl, rfl, hw⟩
        refine x_seq ?_
        refine x_seq ?_
        refine x_region rfl ?_
        refine x_mv rfl rfl trivial rfl ?_  -- ref.go:389 move t10
        refine x_mv rfl rfl trivial rfl ?_  -- ref.go:389 move t5
        refine x_mv rfl rfl trivial rfl ?_  -- ref.go:389 move t9
        refine x_idx1 rfl rfl trivial U_sl_sl_int sz_sl_int rfl rfl ⟨by omega, by omega⟩ ?_  -- ref.go:389 indexAddr[68] t74 [t75] 
        refine x_ld rfl rfl trivial rfl (Loads.one one_sl_int (((hw.knows ((hsg.head _).pick (by repeat (first | with_reducible exact Pick.here | apply Pick.there)))).at hw).at hgg)) ?_  -- ref.go:389 load[52] t76
        refine x_len rfl rfl trivial rfl U_sl_int rfl ?_  -- ref.go:389 len(t77)
        refine x_lt rfl rfl trivial rfl rfl ?_  -- ref.go:389 lss[3] t73 t78
        refine xl_nil ?_
        refine x_if rfl (fun h6 => ?_) (fun h6 => ?_)
        · -- yes
          have hk' : k < c.length + 20 := by omega
          refine x_skip ?_
          refine x_seq ?_
          refine x_block ?_
          refine x_seq ?_
          refine x_region rfl ?_
          refine x_mv rfl rfl trivial rfl ?_  -- ref.go:390 move t5
          refine x_mv rfl rfl trivial rfl ?_  -- ref.go:390 move t9
          refine x_idx1 rfl rfl trivial U_sl_sl_int sz_sl_int rfl rfl ⟨by omega, by omega⟩ ?_  -- ref.go:390 indexAddr[68] t82 [t83] 
          refine x_ld rfl rfl trivial rfl (Loads.one one_sl_int (((hw.knows ((hsg.head _).pick (by repeat (first | with_reducible exact Pick.here | apply Pick.there)))).at hw).at hgg)) ?_  -- ref.go:390 load[52] t84
          refine x_mv rfl rfl trivial rfl ?_  -- ref.go:390 move t10
          refine x_idx1 rfl rfl trivial U_sl_int sz_int rfl rfl ⟨by omega, by omega⟩ ?_  -- ref.go:390 indexAddr[52] t85 [t86] 
          refine x_ld rfl rfl trivial rfl (Loads.one one_int (((hw.knows ((hkn.head _).pick (by repeat (first | with_reducible exact Pick.here | apply Pick.there)))).at hw).2.at (by rw [Int.toNat_natCast]; exact marks_get hk'))) ?_  -- ref.go:390 load[3] t87
          refine x_mv rfl rfl trivial rfl ?_  -- ref.go:390 move t9
          refine x_muli rfl rfl trivial rfl rfl (by omega) ?_  -- ref.go:390 mul[3] t89 100003
          refine x_mv rfl rfl trivial rfl ?_  -- ref.go:390 move t10
          refine x_addi rfl rfl trivial rfl rfl (by omega) ?_  -- ref.go:390 add[3] t90 t91
          refine x_ne rfl rfl trivial rfl rfl rfl ?_  -- ref.go:390 neq[3] t88 t92
          refine x_mv rfl rfl trivial rfl ?_  -- ref.go:390 move t93
          refine xl_split (d := 94) rfl (fun h7 => ?_) (fun h7 => ?_)
          · -- yes
            exact absurd rfl h7
          · -- no
            refine x_mv rfl rfl ⟨_, rfl, rfl⟩ rfl ?_  -- ref.go:390 move t10
            refine x_mv rfl rfl ⟨_, rfl, rfl⟩ rfl ?_  -- ref.go:390 move t0
            refine x_mv rfl rfl ⟨_, rfl, rfl⟩ rfl ?_  -- ref.go:390 move t9
            refine x_idx1 rfl rfl ⟨_, rfl, rfl⟩ U_sl_sl_int sz_sl_int rfl rfl ⟨by omega, by omega⟩ ?_  -- ref.go:390 indexAddr[68] t96 [t97] 
            refine x_ld rfl rfl ⟨_, rfl, rfl⟩ rfl (Loads.one one_sl_int (((hw.knows ((hsv.head _).pick (by repeat (first | with_reducible exact Pick.here | apply Pick.there)))).at hw).at (hget hx))) ?_  -- ref.go:390 load[52] t98
            refine x_len rfl rfl ⟨_, rfl, rfl⟩ rfl U_sl_int rfl ?_  -- ref.go:390 len(t99)
            refine x_lt rfl rfl ⟨_, rfl, rfl⟩ rfl rfl ?_  -- ref.go:390 lss[3] t95 t100
            refine x_mv rfl rfl ⟨_, rfl, rfl⟩ rfl ?_  -- ref.go:390 move t101
            refine xl_split (d := 102) rfl (fun h8 => ?_) (fun h8 => ?_)
            · -- yes
              obtain ⟨bu, ou, rfl⟩ := ((hw.knows ((hkn.head _).pick (by repeat (first | with_reducible exact Pick.here | apply Pick.there)))).at hw).1.nn (by rw [marks_length]; omega)
              refine x_mv rfl rfl ⟨_, rfl, rfl⟩ rfl ?_  -- ref.go:390 move t0
              refine x_mv rfl rfl ⟨_, rfl, rfl⟩ rfl ?_  -- ref.go:390 move t9
              refine x_idx1 rfl rfl ⟨_, rfl, rfl⟩ U_sl_sl_int sz_sl_int rfl rfl ⟨by omega, by omega⟩ ?_  -- ref.go:390 indexAddr[68] t103 [t104] 
              refine x_ld rfl rfl ⟨_, rfl, rfl⟩ rfl (Loads.one one_sl_int (((hw.knows ((hsv.head _).pick (by repeat (first | with_reducible exact Pick.here | apply Pick.there)))).at hw).at (hget hx))) ?_  -- ref.go:390 load[52] t105
              refine x_mv rfl rfl ⟨_, rfl, rfl⟩ rfl ?_  -- ref.go:390 move t10
              refine x_idx1 rfl rfl ⟨_, rfl, rfl⟩ U_sl_int sz_int rfl rfl ⟨by omega, by omega⟩ ?_  -- ref.go:390 indexAddr[52] t106 [t107] 
              refine x_ld rfl rfl ⟨_, rfl, rfl⟩ rfl (Loads.one one_int (((hw.knows ((hkn.head _).pick (by repeat (first | with_reducible exact Pick.here | apply Pick.there)))).at hw).1.at (by rw [Int.toNat_natCast]; exact marks_get (by omega)))) ?_  -- ref.go:390 load[3] t108
              refine x_mv rfl rfl ⟨_, rfl, rfl⟩ rfl ?_  -- ref.go:390 move t9
              refine x_muli rfl rfl ⟨_, rfl, rfl⟩ rfl rfl (by omega) ?_  -- ref.go:390 mul[3] t110 100003
              refine x_mv rfl rfl ⟨_, rfl, rfl⟩ rfl ?_  -- ref.go:390 move t10
              refine x_addi rfl rfl ⟨_, rfl, rfl⟩ rfl rfl (by omega) ?_  -- ref.go:390 add[3] t111 t112
              refine x_ne rfl rfl ⟨_, rfl, rfl⟩ rfl rfl rfl ?_  -- ref.go:390 neq[3] t109 t113
              refine x_pickT rfl rfl ⟨_, rfl, rfl⟩ rfl rfl rfl ?_  -- ref.go:390 pick t102 ? t114 : False
              refine x_pickF rfl rfl trivial rfl rfl rfl ?_  -- ref.go:390 pick t94 ? True : t115
              refine xl_nil ?_
              refine x_if rfl (fun h9 => ?_) (fun h9 => ?_)
              · -- yes
                exact absurd rfl h9
              · -- no
                refine x_skip ?_
                refine x_region rfl ?_
                refine x_mv rfl rfl trivial rfl ?_  -- ref.go:389 move t10
                refine x_addi rfl rfl trivial rfl rfl (by omega) ?_  -- ref.go:389 add[3] t80 1
                refine x_as rfl rfl trivial rfl ?_  -- ref.go:389 assign t81
                refine xl_nil ?_
                exact ⟨c.length + 20 - (k + 1), by omega, [(0, _), (5, _), (9, _), (10, .int .i64 (k + 1 : Nat))], (by repeat (first | exact Sub.nil _ | refine Sub.cons rfl ?_)), k + 1, by omega, rfl, rfl, hw⟩
            · -- no
              refine xl_no rfl rfl rfl rfl rfl rfl ?_  -- passed over: move t0
              refine xl_no rfl rfl rfl rfl rfl rfl ?_  -- passed over: move t9
              refine xl_no rfl rfl rfl rfl rfl rfl ?_  -- passed over: indexAddr[68] t103 [t104] 
              refine xl_no rfl rfl rfl rfl rfl rfl ?_  -- passed over: load[52] t105
              refine xl_no rfl rfl rfl rfl rfl rfl ?_  -- passed over: move t10
              refine xl_no rfl rfl rfl rfl rfl rfl ?_  -- passed over: indexAddr[52] t106 [t107] 
              refine xl_no rfl rfl rfl rfl rfl rfl ?_  -- passed over: load[3] t108
              refine xl_no rfl rfl rfl rfl rfl rfl ?_  -- passed over: move t9
              refine xl_no rfl rfl rfl rfl rfl rfl ?_  -- passed over: mul[3] t110 100003
              refine xl_no rfl rfl rfl rfl rfl rfl ?_  -- passed over: move t10
              refine xl_no rfl rfl rfl rfl rfl rfl ?_  -- passed over: add[3] t111 t112
              refine xl_no rfl rfl rfl rfl rfl rfl ?_  -- passed over: neq[3] t109 t113
              refine x_pickF rfl rfl ⟨_, rfl, rfl⟩ rfl rfl rfl ?_  -- ref.go:390 pick t102 ? t114 : False
              refine x_pickF rfl rfl trivial rfl rfl rfl ?_  -- ref.go:390 pick t94 ? True : t115
              refine xl_nil ?_
              refine x_cond_false rfl ?_
              refine x_skip ?_
              refine x_region rfl ?_
              refine x_mv rfl rfl trivial rfl ?_  -- ref.go:389 move t10
              refine x_addi rfl rfl trivial rfl rfl (by omega) ?_  -- ref.go:389 add[3] t80 1
              refine x_as rfl rfl trivial rfl ?_  -- ref.go:389 assign t81
              refine xl_nil ?_
              exact ⟨c.length + 20 - (k + 1), by omega, [(0, _), (5, _), (9, _), (10, .int .i64 (k + 1 : Nat))], (by repeat (first | exact Sub.nil _ | refine Sub.cons rfl ?_)), k + 1, by omega, rfl, rfl, hw⟩
        · -- no
          refine x_exit rfl ?_  -- exit 10
          refine x_region rfl ?_
          refine x_mv rfl rfl trivial rfl ?_  -- ref.go:388 move t9
          refine x_addi rfl rfl trivial rfl rfl (by omega) ?_  -- ref.go:388 add[3] t71 1
          refine x_as rfl rfl trivial rfl ?_  -- ref.go:388 assign t72
          refine xl_nil ?_
          exact ⟨X.length - (i + 1), by omega, [(0, _), (5, _), (9, .int .i64 (i + 1 : Nat))], (by repeat (first | exact Sub.nil _ | refine Sub.cons rfl ?_)), i + 1, by omega, rfl, rfl, hw⟩
      · -- no
        refine x_exit rfl ?_  -- exit 8
        refine x_seq ?_
        refine x_region rfl ?_
        refine x_as rfl rfl trivial rfl ?_  -- ref.go:395 assign True
        refine xl_nil ?_
        refine x_ret ?_
        exact end1 rfl rfl ⟨rfl, hw.tail.tail.tail⟩

end
end Go.Proofs.Ytekilljcoplacaa.X
