/- New slices and composites, calls with owned memory: over the small logic of XXe. No program is named here. -/
import Derived.Test.YtkjhhifhgcihpaaDoorXv
namespace Go.Xe
open Go Go.RowKit

section
variable {P : Program} {dst : Option Tmp} {ty : TypeId} {pos : String} {after : Array Edge} {guard : Option (Nat × Bool)} {E : Env} {I : Im} {L : Own}

theorem range_map_const (n : Nat) (z : Value) : ((Array.range n).map fun i => (#[z] : Array Value)[i % 1]!) = (List.replicate n z).toArray := by
  apply Array.ext'
  simp only [Array.toList_map, Array.toList_range, List.toList_toArray]
  apply List.ext_getElem
  · simp
  · intro i h1 h2
    simp [Nat.mod_one]

theorem Runs.makeSlice {t e : TypeId} {x y : Operand} {n : Nat} {z : Value} {by_ : Nat} (hu : P.underlying t = some (.slice e)) (he : Elem P e 1 z by_) (h1 : z.oneCell' = true)
    (hx : ev E x = some (.int .i64 n)) (hy : ev E y = some (.int .i64 n)) (hb : n * by_ ≤ 281474976710656) (hn : n ≤ 9223372036854775807) :
    Runs P { dst, op := .makeSlice t x y, type := ty, pos, after, guard } E I L
      (fun u I' L' => ∃ b, u = .slice (some ⟨b, 0, none⟩) n n ∧ I' = I ∧ L' = some (b, .cells (List.replicate n z).toArray e (0, 0)) :: L) := by
  intro K m ds a w hH hS
  obtain ⟨i, hi, hs, hz, hby⟩ := he.info
  have hzc : z.cells = #[z] := by cases z <;> simp_all [Value.oneCell', Value.cells]
  have hw : IntKind.i64.wrap (n : Int) = n := wrap_in (by omega)
  have hb' : ¬ (281474976710656 < (i.bytes : Int) * (n : Int)) := by
    rw [hby]; have h := Int.ofNat_le.2 hb
    rw [Int.natCast_mul, Int.mul_comm] at h; omega
  have hneg : ¬ ((n : Int) < 0) := by omega
  refine ⟨_, _, I, _, .inl ?_, hS.alloc (.cells (List.replicate n z).toArray e), _, rfl, rfl, rfl⟩
  have hr := range_map_const n z
  by_cases h0 : n = 0
  · subst h0
    have hwz : IntKind.i64.wrap 0 = 0 := by decide
    have hr0 : Array.range 0 = #[] := rfl
    simp [execOp, hH.ev hx, hH.ev hy, Instr.makeSlice, run_under hu, asInt, asIntOf, typeInfo, hi, hwz, sizeOf, hs, newRow, hr0]
  · simp at hr
    simp [execOp, hH.ev hx, hH.ev hy, Instr.makeSlice, run_under hu, asInt, asIntOf, typeInfo, hi, hw, hb', hneg, sizeOf, hs, h0, run_zeroValue he.zero, hzc, newRow, hr]

/-- what a composite's parts come to -/
def partsEv (E : Env) : List (Nat × Operand) → List (Nat × Value) → Prop
  | [], [] => True
  | (i, x) :: ps, (j, v) :: vs => i = j ∧ ev E x = some v ∧ partsEv E ps vs
  | _, _ => False
theorem partsEv.map {a : Act} {n : Nat} {ds : List Deferred} {E : Env} (hH : Holds a n ds E) : ∀ {ps : List (Nat × Operand)} {vs : List (Nat × Value)}, partsEv E ps vs → ps.map (fun (i, x) => (i, a.eval x)) = vs
  | [], [], _ => rfl
  | (i, x) :: ps, (j, v) :: vs, h => by obtain ⟨rfl, h2, h3⟩ := h; simp [hH.ev h2, partsEv.map hH h3]
  | [], _ :: _, h => h.elim
  | _ :: _, [], h => h.elim

theorem Runs.buildSlice {t e : TypeId} {len s by_ : Nat} {z : Value} {ps : List (Nat × Operand)} {vs : List (Nat × Value)} (cells : Array Value) (hu : P.underlying t = some (.slice e)) (he : Elem P e s z by_) (hl : len * s ≤ 16777216)
    (hp : partsEv E ps vs) (hf : Instr.fill (fun i => some (i * s, s)) ((Array.range (len * s)).map fun i => (if len * s = 0 then #[] else z.cells)[i % (if len * s = 0 then #[] else z.cells).size]!) vs = some cells) :
    Runs P { dst, op := .buildSlice t len ps.toArray, type := ty, pos, after, guard } E I L
      (fun u I' L' => ∃ b, u = .slice (some ⟨b, 0, none⟩) len len ∧ I' = I ∧ L' = some (b, .cells cells e (0, 0)) :: L) := by
  intro K m ds a w hH hS
  refine ⟨_, _, I, _, .inl ?_, hS.alloc (.cells cells e), _, rfl, rfl, rfl⟩
  have hm : (ps.toArray.map fun (i, x) => (i, a.eval x)).toList = vs := by rw [List.map_toArray, partsEv.map hH hp]
  have hl' : ¬ (16777216 < len * s) := by omega
  by_cases h0 : len * s = 0
  · simp only [h0, if_true] at hf
    simp only [execOp, Instr.buildSlice, Sem.run_bind, run_under hu, Result.andThen_ok, run_sizeOf he.size, hm]
    have hr0 : Array.range 0 = #[] := rfl
    simp [hr0] at hf
    simp [h0, hr0, hf, newRow]
  · simp only [h0, if_false] at hf
    simp only [execOp, Instr.buildSlice, Sem.run_bind, run_under hu, Result.andThen_ok, run_sizeOf he.size, hm]
    simp [h0, hl', run_zeroValue he.zero, hf, newRow]

theorem set_run : ∀ (cs : List Value) (j : Nat) (A : List Value) (off : Nat), off + j + cs.length ≤ A.length →
    (cs.zipIdx j).foldl (fun (acc : Array Value) (p : Value × Nat) => acc.setIfInBounds (off + p.2) p.1) A.toArray = (A.take (off + j) ++ cs ++ A.drop (off + j + cs.length)).toArray
  | [], j, A, off, _ => by simp
  | c :: cs, j, A, off, h => by
    simp only [List.length_cons] at h
    simp only [List.zipIdx_cons, List.foldl_cons, List.setIfInBounds_toArray]
    rw [set_run cs (j + 1) (A.set (off + j) c) off (by simp; omega)]
    congr 1
    apply List.ext_getElem?
    intro i
    simp only [List.getElem?_append, List.getElem?_take, List.getElem?_drop, List.getElem?_set, List.length_take, List.length_set, List.length_append, List.length_cons]
    by_cases h1 : i < off + j
    · have e1 : i < min (off + (j + 1)) A.length := by omega
      have e2 : i < min (off + (j + 1)) A.length + cs.length := by omega
      have e3 : i < min (off + j) A.length := by omega
      have e4 : i < min (off + j) A.length + (cs.length + 1) := by omega
      have e5 : i < off + (j + 1) := by omega
      have e6 : ¬ off + j = i := by omega
      simp [e1, e2, e3, e4, e5, e6, h1]
    · by_cases h2 : i = off + j
      · subst h2
        have e1 : off + j < min (off + (j + 1)) A.length := by omega
        have e2 : off + j < min (off + (j + 1)) A.length + cs.length := by omega
        have e3 : min (off + j) A.length = off + j := by omega
        have e5 : off + j < off + (j + 1) := by omega
        have e6 : off + j < A.length := by omega
        simp [e1, e2, e3, e5, e6]
      · have e0 : min (off + (j + 1)) A.length = off + (j + 1) := by omega
        have e3 : min (off + j) A.length = off + j := by omega
        have e1 : ¬ i < off + (j + 1) := by omega
        have e6 : ¬ off + j = i := by omega
        simp only [e0, e3, e1, h1, if_false]
        have e7 : i - (off + j) = (i - (off + (j + 1))) + 1 := by omega
        rw [e7, List.getElem?_cons_succ]
        by_cases h3 : i < off + (j + 1) + cs.length
        · have h4 : i < off + j + (cs.length + 1) := by omega
          simp [h3, h4]
        · have h4 : ¬ i < off + j + (cs.length + 1) := by omega
          simp only [h3, h4, if_false]
          have e8 : off + (j + 1) + cs.length + (i - (off + (j + 1) + cs.length)) = i := by omega
          have e9 : off + j + (cs.length + 1) + (i - (off + j + (cs.length + 1))) = i := by omega
          rw [e8, e9, if_neg e6]

theorem fill_seq {s : Nat} : ∀ (vs : List Value) (k : Nat) (pre rest : List Value), (∀ v ∈ vs, v.cells.size = s) → pre.length = k * s → rest.length = vs.length * s →
    Instr.fill (fun i => some (i * s, s)) (pre ++ rest).toArray ((vs.zipIdx k).map fun p => (p.2, p.1)) = some (pre ++ vs.flatMap (fun v => v.cells.toList)).toArray
  | [], k, pre, rest, _, _, hr => by
    have : rest = [] := List.length_eq_zero_iff.1 (by simpa using hr)
    simp [Instr.fill, this]
  | v :: vs, k, pre, rest, hv, hp, hr => by
    have h1 := hv v (List.mem_cons_self ..)
    simp only [List.length_cons, Nat.add_mul, Nat.one_mul] at hr
    have hcl : v.cells.toList.length = s := by simpa using h1
    have hs := set_run v.cells.toList 0 (pre ++ rest) (k * s) (by simp only [List.length_append, hcl]; omega)
    have hz : v.cells.zipIdx.foldl (fun (acc : Array Value) (p : Value × Nat) => acc.setIfInBounds (k * s + p.2) p.1) (pre ++ rest).toArray = (v.cells.toList.zipIdx 0).foldl (fun (acc : Array Value) (p : Value × Nat) => acc.setIfInBounds (k * s + p.2) p.1) (pre ++ rest).toArray := by
      rw [← Array.foldl_toList]; simp
    have hneg : ¬ (v.cells.size ≠ s || decide (k * s + v.cells.size > (pre ++ rest).toArray.size)) = true := by
      simp [h1]; omega
    simp only [List.zipIdx_cons, List.map_cons, Instr.fill]
    rw [if_neg (by simpa using hneg), hz, hs]
    have e1 : (pre ++ rest).take (k * s + 0) = pre := by rw [Nat.add_zero, ← hp]; simp
    have e2 : (pre ++ rest).drop (k * s + 0 + v.cells.toList.length) = rest.drop s := by
      rw [hcl, Nat.add_zero, List.drop_append]; simp [hp]
    rw [e1, e2]
    have := fill_seq vs (k + 1) (pre ++ v.cells.toList) (rest.drop s) (fun u hu => hv u (List.mem_cons_of_mem _ hu)) (by rw [List.length_append, hcl, hp, Nat.add_mul]; omega) (by rw [List.length_drop]; omega)
    rw [this]
    simp

/-- a slice's composite, all its parts given -/
theorem Runs.buildL {t e : TypeId} {s by_ : Nat} {z : Value} {ps : List (Nat × Operand)} (vs : List Value) (cs : List Value) (hu : P.underlying t = some (.slice e)) (he : Elem P e s z by_) (hl : vs.length * s ≤ 16777216)
    (hp : partsEv E ps ((vs.zipIdx 0).map fun p => (p.2, p.1))) (hv : vs.all (fun v => v.cells.size == s) = true) (hcs : vs.flatMap (fun v => v.cells.toList) = cs) :
    Runs P { dst, op := .buildSlice t vs.length ps.toArray, type := ty, pos, after, guard } E I L
      (fun u I' L' => ∃ b, u = .slice (some ⟨b, 0, none⟩) vs.length vs.length ∧ I' = I ∧ L' = some (b, .cells cs.toArray e (0, 0)) :: L) := by
  refine Runs.buildSlice cs.toArray hu he hl hp ?_
  generalize hA : ((Array.range (vs.length * s)).map fun i => (if vs.length * s = 0 then #[] else z.cells)[i % (if vs.length * s = 0 then #[] else z.cells).size]!) = A
  have hsz : A.toList.length = vs.length * s := by rw [← hA]; simp
  have := fill_seq (s := s) vs 0 [] A.toList (fun v hm => by have := List.all_eq_true.1 hv v hm; simpa using this) (by simp) hsz
  simpa [hcs] using this

theorem Reads.build_struct {t : TypeId} {fs : Array Field} {z : Value} {ps : List (Nat × Operand)} {vs : List (Nat × Value)} (places : Array (Nat × Nat)) (cells : Array Value) (hu : P.underlying t = some (.struct fs)) (hz : zeroOf P t = some z)
    (hpl : fs.toList.map (fun f => (szOf P f.type).map fun s => (f.offset, s)) = places.toList.map some) (hp : partsEv E ps vs) (hf : Instr.fill (places[·]?) z.cells vs = some cells) :
    Reads P { dst, op := .build t ps.toArray, type := ty, pos, after, guard } E I L (.agg cells) := by
  intro K m ds a w hH hS
  have hm : (ps.toArray.map fun (i, x) => (i, a.eval x)).toList = vs := by rw [List.map_toArray, partsEv.map hH hp]
  have hpm : ∀ (l : List Field) (pl : List (Nat × Nat)), l.map (fun f => (szOf P f.type).map fun s => (f.offset, s)) = pl.map some →
      (l.mapM fun f => do pure (f.offset, ← sizeOf f.type) : Sem (List (Nat × Nat))).run P w = .ok pl w := by
    intro l
    induction l with
    | nil => intro pl h; cases pl with
      | nil => rfl
      | cons => simp at h
    | cons f l ih =>
      intro pl h
      cases pl with
      | nil => simp at h
      | cons p pl =>
        simp only [List.map_cons, List.cons.injEq] at h
        obtain ⟨h1, h2⟩ := h
        cases hs : szOf P f.type with
        | none => simp [hs] at h1
        | some s =>
          simp [hs] at h1
          have ih' := ih pl h2
          simp at ih'
          simp [List.mapM_cons, run_sizeOf hs, ih', h1]
  have hpa : (fs.mapM fun f => do pure (f.offset, ← sizeOf f.type) : Sem (Array (Nat × Nat))).run P w = .ok places w := by
    rw [← Array.toArray_toList (xs := fs), List.mapM_toArray, Sem.run_map, hpm _ _ hpl]
    simp
  simp only [execOp, Instr.build, Sem.run_bind, run_zeroValue hz, run_under hu, Result.andThen_ok, hm]
  rw [hpa]
  simp [hf]
end

/-! cells of a growing slice, in place -/
section
variable {P : Program} {dst : Option Tmp} {ty : TypeId} {pos : String} {after : Array Edge} {guard : Option (Nat × Bool)} {E : Env} {I : Im} {L : Own}
theorem vec_cell {V : Vec} {cs : List Value} {k : Nat} (h : V.Is 1 cs) (hk : k < cs.length) : ∃ b c, V.blk = some (b, c) ∧ k < c.size ∧ c[k]? = some cs[k] := by
  cases hb : V.blk with
  | none =>
    have h1 := h.none hb; have h2 := h.le; have h3 := h.len; omega
  | some p =>
    obtain ⟨b, c⟩ := p
    obtain ⟨h1, h2⟩ := h.some b c hb
    have h3 := h.len
    have h4 := h.le
    refine ⟨b, c, rfl, by omega, ?_⟩
    have : (c.toList.take (V.len * 1))[k]? = some cs[k] := by rw [h2]; simp [hk]
    rw [List.getElem?_take] at this
    split at this
    · simpa using this
    · cases this
theorem vec_isSome {V : Vec} {cs : List Value} (h : V.Is 1 cs) (hk : 0 < cs.length) : V.addr.isSome = true := by
  obtain ⟨b, c, hb, _⟩ := vec_cell h hk; simp [Vec.addr, hb]
theorem Reads.load_vec {t e : TypeId} {x : Operand} {V : Vec} {cs : List Value} {k : Nat} (hkd : kindOf P t = some false) (hx : ev E x = some (.pointer (slot V.addr k))) (hV : V.Is 1 cs) (hm : V.ent e ∈ L) (hk : k < cs.length) :
    Reads P { dst, op := .load t x, type := ty, pos, after, guard } E I L cs[k] := by
  obtain ⟨b, c, hb, hc1, hc2⟩ := vec_cell hV hk
  have ha : V.addr = some ⟨b, 0, none⟩ := by simp [Vec.addr, hb]
  rw [ha, slot_some, Nat.zero_add] at hx
  exact Reads.load_own hkd hx ⟨c, e, (0, 0), by simpa [Vec.ent, hb] using hm, hc2⟩
theorem Runs.store_vec {t e : TypeId} {x y : Operand} {V : Vec} {cs : List Value} {k : Nat} {v : Value} (i : Nat) (hs : szOf P t = some 1) (hx : ev E x = some (.pointer (slot V.addr k))) (hy : ev E y = some v) (h1 : v.oneCell' = true)
    (hV : V.Is 1 cs) (hi : L[i]? = some (V.ent e)) (hk : k < cs.length) :
    Runs P { dst, op := .store t x y, type := ty, pos, after, guard } E I L (fun u I' L' => ∃ V' : Vec, V'.Is 1 (cs.set k v) ∧ V'.val = V.val ∧ I' = I ∧ L' = L.set i (V'.ent e)) := by
  obtain ⟨b, c, hb, hc1, hc2⟩ := vec_cell hV hk
  have ha : V.addr = some ⟨b, 0, none⟩ := by simp [Vec.addr, hb]
  rw [ha, slot_some, Nat.zero_add] at hx
  have hi' : L[i]? = some (some (b, .cells c e (0, 0))) := by rw [hi]; simp [Vec.ent, hb]
  intro K n ds a w hH hS
  obtain ⟨u, w', I', L', hr, hS', hu, hI, hL⟩ := Runs.store (P := P) (dst := dst) (ty := ty) (pos := pos) (after := after) (guard := guard) (E := E) (I := I) i hs hx hy h1 hi' hc1 K n ds a w hH hS
  refine ⟨u, w', I', L', hr, hS', ⟨some (b, c.setIfInBounds k v), V.len, V.cap⟩, ?_, ?_, hI, ?_⟩
  · obtain ⟨h3, h4⟩ := hV.some b c hb
    refine ⟨by simpa using hV.len, hV.le, fun h => by simp at h, fun b' c' h => ?_⟩
    simp only [Option.some.injEq, Prod.mk.injEq] at h
    obtain ⟨-, rfl⟩ := h
    refine ⟨by simpa using h3, ?_⟩
    rw [Array.toList_setIfInBounds, List.take_set, h4]
  · simp [Vec.val, Vec.addr, hb]
  · rw [hL]; rfl

theorem Runs.copy {t tx e : TypeId} {x y : Operand} {b dn dc : Nat} {c : Array Value} {u : Value} {m by_ : Nat} {z : Value} {news : List Value} (i : Nat) (hu : P.underlying t = some (.slice e)) (he : Elem P e 1 z by_)
    (hx : ev E x = some (.slice (some ⟨b, 0, none⟩) dn dc)) (hy : ev E y = some u) (hi : L[i]? = some (some (b, .cells c e (0, 0)))) (hn : News P I L 1 tx u m news) (hm : m = dn) (hc : dn ≤ c.size) :
    Runs P { dst, op := .call { callee := .builtin .copy, args := #[x, y], argTypes := #[t, tx] }, type := ty, pos, after, guard } E I L
      (fun r I' L' => r = .int .i64 dn ∧ I' = I ∧ L' = L.set i (some (b, .cells (news ++ c.toList.drop dn).toArray e (0, 0)))) := by
  intro K n ds a w hH hS
  subst hm
  have hsrc := hn.src hS
  have hl := hsrc.newsLen
  have hheap := hS.own b _ (List.mem_of_getElem? hi)
  have hst := run_storeCells_at P b 0 e news 0 c w hheap (by simp; omega) hsrc.one
  refine ⟨.int .i64 m, _, I, _, .inl ?_, hS.setRow hi, rfl, rfl, rfl⟩
  have hrun : (execOp a.eval { dst, op := .call { callee := .builtin .copy, args := #[x, y], argTypes := #[t, tx] }, type := ty, pos, after, guard }).run P w
      = ((Builtin.copy_ #[t, tx] ty #[.slice (some ⟨b, 0, none⟩) m dc, u]).run P w).andThen fun v w' => .ok (.value v) w' := by
    simp [execOp, hH.ev hx, hH.ev hy, resolve, invoke, builtin]
  rw [hrun]
  have hmin : Nat.min m m = m := Nat.min_self m
  have h1 : news.length = m := by omega
  simp [Builtin.copy_, run_under hu, hsrc.len w, hmin, run_sizeOf he.size, hsrc.cells, hst, goInt, h1]
end

/-! a table: an owned block of growing slices -/
def tabL (eo ei : TypeId) (b : Nat) (T : List Vec) : Own := some (b, .cells (T.map Vec.val).toArray eo (0, 0)) :: T.map (·.ent ei)
theorem tabL_get {eo ei : TypeId} {b : Nat} {T : List Vec} {X : Own} {i : Nat} (h : i < T.length) : (tabL eo ei b T ++ X)[i + 1]? = some (T[i].ent ei) := by
  simp [tabL, List.getElem?_append_left, h]
theorem tabL_set {eo ei : TypeId} {b : Nat} {T : List Vec} {X : Own} {i : Nat} {V : Vec} (h : i < T.length) :
    ((tabL eo ei b T ++ X).set (i + 1) (V.ent ei)).set 0 (some (b, .cells ((T.map Vec.val).toArray.setIfInBounds i V.val) eo (0, 0))) = tabL eo ei b (T.set i V) ++ X := by
  simp [tabL, List.set_append, h, List.map_set]
theorem tabL_same {eo ei : TypeId} {b : Nat} {T : List Vec} {X : Own} {i : Nat} {V : Vec} (h : i < T.length) (hv : V.val = T[i].val) : (tabL eo ei b T ++ X).set (i + 1) (V.ent ei) = tabL eo ei b (T.set i V) ++ X := by
  have : (T.set i V).map Vec.val = T.map Vec.val := by
    rw [List.map_set, hv, ← List.getElem_map Vec.val (h := by simpa using h)]
    exact List.set_getElem_self _
  simp only [tabL, this]
  simp [List.set_append, h, List.map_set]
theorem tabL_mem {eo ei : TypeId} {b : Nat} {T : List Vec} {X : Own} {i : Nat} (h : i < T.length) : T[i].ent ei ∈ tabL eo ei b T ++ X := List.mem_of_getElem? (tabL_get h)

theorem mem_some {L : Own} {p : Nat × Obj} : some p ∈ L ↔ p ∈ L.filterMap id := by simp
theorem Sat.same {K w : World} {I : Im} {L L' : Own} (h : Sat K w I L) (he : L.filterMap id = L'.filterMap id) : Sat K w I L' := by
  have hm : ∀ p, some p ∈ L' ↔ some p ∈ L := fun p => by rw [mem_some, mem_some, he]
  have hk : keys L' = keys L := by
    have : ∀ M : Own, keys M = (M.filterMap id).map (·.1) := fun M => by
      unfold keys; rw [List.map_filterMap]; rfl
    rw [this, this, he]
  exact ⟨h.os, h.tape, h.output, h.im, fun b o hb => h.own b o ((hm _).1 hb), by rw [hk]; exact h.nodup, fun b o hb => h.apart b o ((hm _).1 hb)⟩
theorem tabL_start {eo ei : TypeId} {b n : Nat} {X : Own} : (some (b, Obj.cells (List.replicate n (Value.slice none 0 0)).toArray eo (0, 0)) :: X).filterMap id = (tabL eo ei b (List.replicate n Vec.nil) ++ X).filterMap id := by
  have h1 : (List.replicate n Vec.nil).map Vec.val = List.replicate n (Value.slice none 0 0) := by simp [Vec.nil, Vec.val, Vec.addr]
  have h2 : (List.replicate n Vec.nil).map (fun V => V.ent ei) = List.replicate n none := by simp [Vec.nil, Vec.ent]
  simp only [tabL, h1, h2]
  simp

/-- a table given away, row by row -/
def tabGive (eo ei : TypeId) (b : Nat) (T : List Vec) (I : Im) : Im := (T.foldl (fun J V => V.give ei J) I).add b (.cells (T.map Vec.val).toArray eo (0, 0))
theorem Sat.give_rows {K w : World} {ei : TypeId} {X : Own} : ∀ {T : List Vec} {I : Im}, Sat K w I (T.map (·.ent ei) ++ X) → Sat K w (T.foldl (fun J V => V.give ei J) I) X ∧ I.le (T.foldl (fun J V => V.give ei J) I)
  | [], I, h => ⟨h, Im.le_refl I⟩
  | V :: T, I, h => by
    obtain ⟨h1, h2⟩ := Sat.give_vec (V := V) (e := ei) (L := T.map (·.ent ei) ++ X) h
    obtain ⟨h3, h4⟩ := Sat.give_rows (T := T) h1
    exact ⟨h3, Im.le_trans (Vec.le_give h2) h4⟩
theorem Sat.give_rows_at {K w : World} {ei : TypeId} {X : Own} : ∀ {T : List Vec} {I : Im}, Sat K w I (T.map (·.ent ei) ++ X) → ∀ V ∈ T, ∃ J, (V.give ei J).le (T.foldl (fun J V => V.give ei J) I) ∧ I.le J ∧ ∀ b c, V.blk = some (b, c) → J b = none
  | [], I, h, V, hV => by cases hV
  | U :: T, I, h, V, hV => by
    obtain ⟨h1, h2⟩ := Sat.give_vec (V := U) (e := ei) (L := T.map (·.ent ei) ++ X) h
    rcases List.mem_cons.1 hV with rfl | hV
    · exact ⟨I, (Sat.give_rows (T := T) h1).2, Im.le_refl I, h2⟩
    · obtain ⟨J, h3, h4, h5⟩ := Sat.give_rows_at (T := T) h1 V hV
      exact ⟨J, h3, Im.le_trans (Vec.le_give h2) h4, h5⟩
theorem Sat.give_tab {K w : World} {eo ei : TypeId} {b : Nat} {T : List Vec} {X : Own} {I : Im} {α : Type} [Enc α] {rows : List (List α)} (hz : Enc.sz α = 1) (h : Sat K w I (tabL eo ei b T ++ X)) (hl : T.length = rows.length)
    (hr : ∀ (j : Nat) (h1 : j < T.length) (h2 : j < rows.length), ∃ cs, T[j].Is 1 cs ∧ Flat I cs rows[j]) :
    ∃ I', I.le I' ∧ Sat K w I' X ∧ Sl I' (.slice (some ⟨b, 0, none⟩) rows.length rows.length) rows := by
  let o : Obj := .cells (T.map Vec.val).toArray eo (0, 0)
  have hp : Sat K w I (T.map (·.ent ei) ++ (some (b, o) :: X)) := h.perm (List.perm_middle.symm)
  obtain ⟨h1, h2⟩ := Sat.give_rows (T := T) hp
  have h3 := h1.give
  have hb := h1.apart b o (List.mem_cons_self ..)
  refine ⟨_, Im.le_trans h2 (Im.le_add hb), h3, some ⟨b, 0, none⟩, rows.length, rfl, Nat.le_refl _, fun j hj => ?_⟩
  obtain ⟨cs, hV, hf⟩ := hr j (by omega) hj
  obtain ⟨J, h4, h5, h6⟩ := Sat.give_rows_at (T := T) hp T[j] (List.getElem_mem _)
  have hs := (Vec.sl (e := ei) (I := J) (by omega) (by rw [hz]; exact hV) (hf.mono h5) h6).2
  refine ⟨[T[j].val], ⟨T[j].val, rfl, (hs.mono h4).mono (Im.le_add hb)⟩, fun i v hv => ?_⟩
  have hi : i = 0 := by have := (List.getElem?_eq_some_iff.1 hv).1; simpa using this
  subst hi
  simp at hv; subst hv
  refine ⟨b, 0, _, eo, (0, 0), rfl, Im.add_self .., ?_⟩
  have : Enc.sz (List α) = 1 := rfl
  simp [this, show j < T.length by omega]

section
variable {P : Program} {r : Option Nat} {K : World} {n : Nat} {ds : List Deferred} {ops : Array Oper} {Q : Exit → Act → World → Prop} {l : List Oper} {last : Option Nat} {σ : Sched}
  {E : Env} {I : Im} {L Lf Ls : Own} {d : Tmp} {op : Op} {ty : TypeId} {pos : String} {after : Array Edge} {g : Option (Nat × Bool)} {v : Value}
theorem XO.makeSlice {t e : TypeId} {x y : Operand} {m : Nat} {z : Value} {by_ : Nat} (hw : Wants ops ⟨some d, .makeSlice t x y, ty, pos, after, g⟩ E true) (hd : Nat.ble (d + 1) n = true) (hu : P.underlying t = some (.slice e)) (he : Elem P e 1 z by_) (h1 : z.oneCell' = true)
    (hx : ev E x = some (.int .i64 m)) (hy : ev E y = some (.int .i64 m)) (hb : m * by_ ≤ 281474976710656) (hn : m ≤ 9223372036854775807)
    (hk : ∀ b, XO P r K n ds ops Q l ((d, .slice (some ⟨b, 0, none⟩) m m) :: E) I (some (b, .cells (List.replicate m z).toArray e (0, 0)) :: L)) : XO P r K n ds ops Q (⟨some d, .makeSlice t x y, ty, pos, after, g⟩ :: l) E I L :=
  XO.e hw hd (Runs.step rfl (Runs.makeSlice hu he h1 hx hy hb hn)) (by rintro u I' L' ⟨b, rfl, rfl, rfl⟩; exact hk b)
theorem XO.buildSlice {t e : TypeId} {len s by_ : Nat} {z : Value} {ps : List (Nat × Operand)} {vs : List (Nat × Value)} (cells : Array Value) (hw : Wants ops ⟨some d, .buildSlice t len ps.toArray, ty, pos, after, g⟩ E true) (hd : Nat.ble (d + 1) n = true)
    (hu : P.underlying t = some (.slice e)) (he : Elem P e s z by_) (hl : len * s ≤ 16777216)
    (hp : partsEv E ps vs) (hf : Instr.fill (fun i => some (i * s, s)) ((Array.range (len * s)).map fun i => (if len * s = 0 then #[] else z.cells)[i % (if len * s = 0 then #[] else z.cells).size]!) vs = some cells)
    (hk : ∀ b, XO P r K n ds ops Q l ((d, .slice (some ⟨b, 0, none⟩) len len) :: E) I (some (b, .cells cells e (0, 0)) :: L)) : XO P r K n ds ops Q (⟨some d, .buildSlice t len ps.toArray, ty, pos, after, g⟩ :: l) E I L :=
  XO.e hw hd (Runs.step rfl (Runs.buildSlice cells hu he hl hp hf)) (by rintro u I' L' ⟨b, rfl, rfl, rfl⟩; exact hk b)
theorem XR.buildSlice {i : Nat} {t e : TypeId} {len s by_ : Nat} {z : Value} {ps : List (Nat × Operand)} {vs : List (Nat × Value)} (cells : Array Value) (ho : ops[i]? = some ⟨some d, .buildSlice t len ps.toArray, ty, pos, after, g⟩)
    (hw : Wants ops ⟨some d, .buildSlice t len ps.toArray, ty, pos, after, g⟩ E true) (hd : Nat.ble (d + 1) n = true)
    (hu : P.underlying t = some (.slice e)) (he : Elem P e s z by_) (hl : len * s ≤ 16777216)
    (hp : partsEv E ps vs) (hf : Instr.fill (fun i => some (i * s, s)) ((Array.range (len * s)).map fun i => (if len * s = 0 then #[] else z.cells)[i % (if len * s = 0 then #[] else z.cells).size]!) vs = some cells) (hsub : Ls.Sublist L)
    (hk : ∀ b, XR P r K n ds ops Q last σ ((d, .slice (some ⟨b, 0, none⟩) len len) :: E) I (some (b, .cells cells e (0, 0)) :: L) Ls) : XR P r K n ds ops Q last (.eff i σ) E I L Ls :=
  XR.e ho hw hd (Runs.step rfl (Runs.buildSlice cells hu he hl hp hf)) (by rintro u I' L' ⟨b, rfl, rfl, rfl⟩; exact ⟨Im.le_refl _, .inr (hsub.cons _), hk b⟩)
theorem XO.buildL {t e : TypeId} {len s by_ : Nat} {z : Value} {ps : List (Nat × Operand)} (vs : List Value) (cs : List Value) (hw : Wants ops ⟨some d, .buildSlice t len ps.toArray, ty, pos, after, g⟩ E true) (hd : Nat.ble (d + 1) n = true)
    (hu : P.underlying t = some (.slice e)) (he : Elem P e s z by_) (hlen : len = vs.length) (hl : vs.length * s ≤ 16777216)
    (hp : partsEv E ps ((vs.zipIdx 0).map fun p => (p.2, p.1))) (hv : vs.all (fun v => v.cells.size == s) = true) (hcs : vs.flatMap (fun v => v.cells.toList) = cs)
    (hk : ∀ b, XO P r K n ds ops Q l ((d, .slice (some ⟨b, 0, none⟩) len len) :: E) I (some (b, .cells cs.toArray e (0, 0)) :: L)) : XO P r K n ds ops Q (⟨some d, .buildSlice t len ps.toArray, ty, pos, after, g⟩ :: l) E I L := by
  subst hlen
  exact XO.e hw hd (Runs.step rfl (Runs.buildL vs cs hu he hl hp hv hcs)) (by rintro u I' L' ⟨b, rfl, rfl, rfl⟩; exact hk b)
theorem XR.buildL {i : Nat} {t e : TypeId} {len s by_ : Nat} {z : Value} {ps : List (Nat × Operand)} (vs : List Value) (cs : List Value) (ho : ops[i]? = some ⟨some d, .buildSlice t len ps.toArray, ty, pos, after, g⟩)
    (hw : Wants ops ⟨some d, .buildSlice t len ps.toArray, ty, pos, after, g⟩ E true) (hd : Nat.ble (d + 1) n = true)
    (hu : P.underlying t = some (.slice e)) (he : Elem P e s z by_) (hlen : len = vs.length) (hl : vs.length * s ≤ 16777216)
    (hp : partsEv E ps ((vs.zipIdx 0).map fun p => (p.2, p.1))) (hv : vs.all (fun v => v.cells.size == s) = true) (hcs : vs.flatMap (fun v => v.cells.toList) = cs) (hsub : Ls.Sublist L)
    (hk : ∀ b, XR P r K n ds ops Q last σ ((d, .slice (some ⟨b, 0, none⟩) len len) :: E) I (some (b, .cells cs.toArray e (0, 0)) :: L) Ls) : XR P r K n ds ops Q last (.eff i σ) E I L Ls := by
  subst hlen
  exact XR.e ho hw hd (Runs.step rfl (Runs.buildL vs cs hu he hl hp hv hcs)) (by rintro u I' L' ⟨b, rfl, rfl, rfl⟩; exact ⟨Im.le_refl _, .inr (hsub.cons _), hk b⟩)
theorem XR.append {i : Nat} {t tx e : TypeId} {x y : Operand} {V : Vec} {u : Value} {m s by_ : Nat} {z : Value} {cs news : List Value} (k : Nat) (ho : ops[i]? = some ⟨some d, .call { callee := .builtin .append, args := #[x, y], argTypes := #[t, tx] }, ty, pos, after, g⟩)
    (hw : Wants ops ⟨some d, .call { callee := .builtin .append, args := #[x, y], argTypes := #[t, tx] }, ty, pos, after, g⟩ E true)
    (hd : Nat.ble (d + 1) n = true) (hu : P.underlying t = some (.slice e)) (he : Elem P e s z by_)
    (hx : ev E x = some V.val) (hy : ev E y = some u) (hV : V.Is s cs) (hL : L[k]? = some (V.ent e)) (hn : News P I L s tx u m news) (hb : (V.len + m) * by_ ≤ 140737488355328) (h63 : V.len + m ≤ 9223372036854775807)
    (hk : ∀ V' : Vec, V'.Is s (cs ++ news) → V'.len = V.len + m → (last = some i ∨ Ls.Sublist (L.set k (V'.ent e))) ∧ XR P r K n ds ops Q last σ ((d, V'.val) :: E) I (L.set k (V'.ent e)) Ls) :
    XR P r K n ds ops Q last (.eff i σ) E I L Ls :=
  XR.e ho hw hd (Runs.step rfl (Runs.append k hu he hx hy hV hL hn hb h63)) (by rintro r I' L' ⟨V', rfl, rfl, rfl, h1, h2⟩; exact ⟨Im.le_refl _, hk V' h1 h2⟩)
/-- a call that is given owned memory -/
theorem XO.callo {fo : Operand} {f : FuncId} {fi ca : Array Value} {args : List Operand} {tys : Array TypeId} {vs : List Value} {L1 : Own} {Post : Value → Im → Own → Prop}
    (hw : Wants ops ⟨some d, .call { callee := .value fo, args := args.toArray, argTypes := tys }, ty, pos, after, g⟩ E true) (hd : Nat.ble (d + 1) n = true) (hfo : ev E fo = some (.func (.func f) fi ca)) (hf : Enters P f)
    (hargs : EvalsTo E args vs) (hc : FSo P f (fi.toList ++ vs ++ ca.toList) I L1 Post) (hL : L.Perm (L1 ++ Lf))
    (hk : ∀ v I' L', I.le I' → Post v I' L' → XO P r K n ds ops Q l ((d, v) :: E) I' (L' ++ Lf)) : XO P r K n ds ops Q (⟨some d, .call { callee := .value fo, args := args.toArray, argTypes := tys }, ty, pos, after, g⟩ :: l) E I L :=
  XO.perm hL (XO.e hw hd (Step.call hfo hf hargs hc) (by rintro v I' L' ⟨L2, hle, hp, rfl⟩; exact hk v I' L2 hle hp))
theorem XO.callo0 {fo : Operand} {f : FuncId} {fi ca : Array Value} {args : List Operand} {tys : Array TypeId} {vs : List Value} {L1 : Own} {Post : Value → Im → Own → Prop}
    (hw : Wants ops ⟨none, .call { callee := .value fo, args := args.toArray, argTypes := tys }, ty, pos, after, g⟩ E true) (hfo : ev E fo = some (.func (.func f) fi ca)) (hf : Enters P f)
    (hargs : EvalsTo E args vs) (hc : FSo P f (fi.toList ++ vs ++ ca.toList) I L1 Post) (hL : L.Perm (L1 ++ Lf))
    (hk : ∀ v I' L', I.le I' → Post v I' L' → XO P r K n ds ops Q l E I' (L' ++ Lf)) : XO P r K n ds ops Q (⟨none, .call { callee := .value fo, args := args.toArray, argTypes := tys }, ty, pos, after, g⟩ :: l) E I L :=
  XO.perm hL (XO.e0 hw (Step.call hfo hf hargs hc) (by rintro v I' L' ⟨L2, hle, hp, rfl⟩; exact hk v I' L2 hle hp))
theorem XR.callo {i : Nat} {fo : Operand} {f : FuncId} {fi ca : Array Value} {args : List Operand} {tys : Array TypeId} {vs : List Value} {L1 : Own} {Post : Value → Im → Own → Prop}
    (ho : ops[i]? = some ⟨some d, .call { callee := .value fo, args := args.toArray, argTypes := tys }, ty, pos, after, g⟩)
    (hw : Wants ops ⟨some d, .call { callee := .value fo, args := args.toArray, argTypes := tys }, ty, pos, after, g⟩ E true) (hd : Nat.ble (d + 1) n = true) (hfo : ev E fo = some (.func (.func f) fi ca)) (hf : Enters P f)
    (hargs : EvalsTo E args vs) (hc : FSo P f (fi.toList ++ vs ++ ca.toList) I L1 Post) (hL : L.Perm (L1 ++ Lf))
    (hk : ∀ v I' L', I.le I' → Post v I' L' → (last = some i ∨ Ls.Sublist (L' ++ Lf)) ∧ XR P r K n ds ops Q last σ ((d, v) :: E) I' (L' ++ Lf) Ls) : XR P r K n ds ops Q last (.eff i σ) E I L Ls :=
  XR.perm hL (XR.e ho hw hd (Step.call hfo hf hargs hc) (by rintro v I' L' ⟨L2, hle, hp, rfl⟩; exact ⟨hle, hk v I' L2 hle hp⟩))
theorem XO.same {L' : Own} (he : L.filterMap id = L'.filterMap id) (h : XO P r K n ds ops Q l E I L') : XO P r K n ds ops Q l E I L := fun a w hH hS => h a w hH (hS.same he)
theorem XC.same {L' : Own} {c : Code} (he : L.filterMap id = L'.filterMap id) (h : XC P r K n ds c Q E I L') : XC P r K n ds c Q E I L := fun a w hH hS => h a w hH (hS.same he)
theorem XO.store_vec {t e : TypeId} {x y : Operand} {V : Vec} {cs : List Value} {k : Nat} (i : Nat) (hw : Wants ops ⟨none, .store t x y, ty, pos, after, g⟩ E true) (hs : szOf P t = some 1) (hx : ev E x = some (.pointer (slot V.addr k))) (hy : ev E y = some v) (h1 : v.oneCell' = true)
    (hV : V.Is 1 cs) (hi : L[i]? = some (V.ent e)) (hkl : k < cs.length) (hk : ∀ V' : Vec, V'.Is 1 (cs.set k v) → V'.val = V.val → XO P r K n ds ops Q l E I (L.set i (V'.ent e))) : XO P r K n ds ops Q (⟨none, .store t x y, ty, pos, after, g⟩ :: l) E I L :=
  XO.e0 hw (Runs.step rfl (Runs.store_vec i hs hx hy h1 hV hi hkl)) (by rintro u I' L' ⟨V', h1, h2, rfl, rfl⟩; exact hk V' h1 h2)
theorem XR.store_vec {j : Nat} {t e : TypeId} {x y : Operand} {V : Vec} {cs : List Value} {k : Nat} (i : Nat) (ho : ops[j]? = some ⟨none, .store t x y, ty, pos, after, g⟩) (hw : Wants ops ⟨none, .store t x y, ty, pos, after, g⟩ E true) (hs : szOf P t = some 1)
    (hx : ev E x = some (.pointer (slot V.addr k))) (hy : ev E y = some v) (h1 : v.oneCell' = true)
    (hV : V.Is 1 cs) (hi : L[i]? = some (V.ent e)) (hkl : k < cs.length) (hlast : last = some j) (hk : ∀ V' : Vec, V'.Is 1 (cs.set k v) → V'.val = V.val → XR P r K n ds ops Q last σ E I (L.set i (V'.ent e)) Ls) : XR P r K n ds ops Q last (.eff j σ) E I L Ls :=
  XR.e0 ho hw (Runs.step rfl (Runs.store_vec i hs hx hy h1 hV hi hkl)) (by rintro u I' L' ⟨V', h1, h2, rfl, rfl⟩; exact ⟨Im.le_refl _, .inl hlast, hk V' h1 h2⟩)
theorem XO.copy {t tx e : TypeId} {x y : Operand} {b dn dc : Nat} {c : Array Value} {u : Value} {m by_ : Nat} {z : Value} {news : List Value} (i : Nat) (hw : Wants ops ⟨some d, .call { callee := .builtin .copy, args := #[x, y], argTypes := #[t, tx] }, ty, pos, after, g⟩ E true)
    (hd : Nat.ble (d + 1) n = true) (hu : P.underlying t = some (.slice e)) (he : Elem P e 1 z by_)
    (hx : ev E x = some (.slice (some ⟨b, 0, none⟩) dn dc)) (hy : ev E y = some u) (hi : L[i]? = some (some (b, .cells c e (0, 0)))) (hn : News P I L 1 tx u m news) (hm : m = dn) (hc : dn ≤ c.size)
    (hk : XO P r K n ds ops Q l ((d, .int .i64 dn) :: E) I (L.set i (some (b, .cells (news ++ c.toList.drop dn).toArray e (0, 0))))) : XO P r K n ds ops Q (⟨some d, .call { callee := .builtin .copy, args := #[x, y], argTypes := #[t, tx] }, ty, pos, after, g⟩ :: l) E I L :=
  XO.e hw hd (Runs.step rfl (Runs.copy i hu he hx hy hi hn hm hc)) (by rintro u I' L' ⟨rfl, rfl, rfl⟩; exact hk)
theorem FSo.of_pure {P : Program} {f : FuncId} {args : List Value} {I : Im} {v : Value} (h : FC P f args I (fun u I' => u = v ∧ I' = I)) (L : Own) : FSo P f args I L (fun u I' L' => u = v ∧ I' = I ∧ L' = L) :=
  fun K w Lf hS => (h K w (L ++ Lf) hS).mono fun _ _ ⟨u, I', L', he, hi, hs, hl, hu, hI⟩ => ⟨u, I', L, he, hi, by rw [hl] at hs; exact hs, hu, hI, rfl⟩
end
end Go.Xe
