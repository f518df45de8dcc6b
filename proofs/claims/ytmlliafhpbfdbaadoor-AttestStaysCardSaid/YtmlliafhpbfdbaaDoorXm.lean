/- More single operations: growing slices of wider elements, arrays in memory, structs built, division, results in cells. Over the small logic of XXe. No program is named here. -/
import Derived.Test.YtmlliafhpbfdbaaDoorXl
namespace Go.Xe
open Go Go.RowKit
section
variable {P : Program} {dst : Option Tmp} {ty : TypeId} {pos : String} {after : Array Edge} {guard : Option (Nat × Bool)} {E : Env} {I : Im} {L : Own}
theorem vec_cells {V : Vec} {s : Nat} {cs : List Value} {k : Nat} {v : Value} (h : V.Is s cs) (hk : cs[k]? = some v) : ∃ b c, V.blk = some (b, c) ∧ k < c.size ∧ c[k]? = some v := by
  have hlt : k < cs.length := (List.getElem?_eq_some_iff.1 hk).1
  cases hb : V.blk with
  | none =>
    have h1 := h.none hb; have h2 := h.le; have h3 := h.len
    have : V.len = 0 := by omega
    rw [this] at h3; simp at h3; subst h3; simp at hlt
  | some p =>
    obtain ⟨b, c⟩ := p
    obtain ⟨h1, h2⟩ := h.some b c hb
    rw [← h2, List.getElem?_take] at hk
    split at hk
    · have hc : c[k]? = some v := by simpa using hk
      exact ⟨b, c, rfl, (Array.getElem?_eq_some_iff.1 hc).1, hc⟩
    · cases hk
theorem vec_addr {V : Vec} {s : Nat} {cs : List Value} {k : Nat} {v : Value} (h : V.Is s cs) (hk : cs[k]? = some v) : ∃ b o, V.addr = some ⟨b, o, none⟩ := by
  obtain ⟨b, c, hb, _⟩ := vec_cells h hk; exact ⟨b, 0, by simp [Vec.addr, hb]⟩
theorem vec_isSomes {V : Vec} {s : Nat} {cs : List Value} {k : Nat} {v : Value} (h : V.Is s cs) (hk : cs[k]? = some v) : V.addr.isSome = true := by
  obtain ⟨b, o, hb⟩ := vec_addr h hk; rw [hb]; rfl
theorem Reads.load_vecs {t e : TypeId} {x : Operand} {V : Vec} {s : Nat} {cs : List Value} {k : Nat} {v : Value} (hkd : kindOf P t = some false) (hx : ev E x = some (.pointer (slot V.addr k))) (hV : V.Is s cs) (hm : V.ent e ∈ L) (hc : cs[k]? = some v) :
    Reads P { dst, op := .load t x, type := ty, pos, after, guard } E I L v := by
  obtain ⟨b, c, hb, hc1, hc2⟩ := vec_cells hV hc
  have ha : V.addr = some ⟨b, 0, none⟩ := by simp [Vec.addr, hb]
  rw [ha, slot_some, Nat.zero_add] at hx
  exact Reads.load_own hkd hx ⟨c, e, (0, 0), by simpa [Vec.ent, hb] using hm, hc2⟩
theorem Reads.load_agg_vecs {t e : TypeId} {x : Operand} {V : Vec} {s : Nat} {cs vs : List Value} {k : Nat} (hkd : kindOf P t = some true) (hs : szOf P t = some vs.length) (hx : ev E x = some (.pointer (slot V.addr k))) (hV : V.Is s cs) (hm : V.ent e ∈ L) (h0 : 0 < vs.length) (hc : ∀ j v, vs[j]? = some v → cs[k + j]? = some v) :
    Reads P { dst, op := .load t x, type := ty, pos, after, guard } E I L (.agg vs.toArray) := by
  obtain ⟨b, c, hb, hc1, hc2⟩ := vec_cells hV (hc 0 _ (List.getElem?_eq_getElem h0))
  have ha : V.addr = some ⟨b, 0, none⟩ := by simp [Vec.addr, hb]
  rw [ha, slot_some, Nat.zero_add] at hx
  refine Reads.load_agg_own hkd hs hx (fun j v hj => ?_)
  obtain ⟨b', c', hb', hc1', hc2'⟩ := vec_cells hV (hc j v hj)
  rw [hb] at hb'; cases hb'
  exact ⟨c, e, (0, 0), by simpa [Vec.ent, hb] using hm, hc2'⟩
theorem Runs.store_vecs {t e : TypeId} {x y : Operand} {V : Vec} {s : Nat} {cs : List Value} {k : Nat} {v v0 : Value} (i : Nat) (hs : szOf P t = some 1) (hx : ev E x = some (.pointer (slot V.addr k))) (hy : ev E y = some v) (h1 : v.oneCell' = true)
    (hV : V.Is s cs) (hi : L[i]? = some (V.ent e)) (hc : cs[k]? = some v0) :
    Runs P { dst, op := .store t x y, type := ty, pos, after, guard } E I L (fun _u I' L' => ∃ V' : Vec, V'.Is s (cs.set k v) ∧ V'.val = V.val ∧ I' = I ∧ L' = L.set i (V'.ent e)) := by
  obtain ⟨b, c, hb, hc1, hc2⟩ := vec_cells hV hc
  have ha : V.addr = some ⟨b, 0, none⟩ := by simp [Vec.addr, hb]
  rw [ha, slot_some, Nat.zero_add] at hx
  have hi' : L[i]? = some (some (b, .cells c e (0, 0))) := by rw [hi]; simp [Vec.ent, hb]
  intro K n ds a w hH hS
  obtain ⟨u, w', I', L', hr, hS', hu, hI, hL⟩ := Runs.store (P := P) (dst := dst) (ty := ty) (pos := pos) (after := after) (guard := guard) (E := E) (I := I) i hs hx hy h1 hi' hc1 K n ds a w hH hS
  refine ⟨u, w', I', L', hr, hS', ⟨some (b, c.setIfInBounds k v), V.len, V.cap⟩, ?_, ?_, hI, ?_⟩
  · obtain ⟨h3, h4⟩ := hV.some b c hb
    refine ⟨by simpa using hV.len, hV.le, fun h => by simp at h, fun b' c' h => ?_⟩
    simp only [Option.some.injEq, Prod.mk.injEq] at h
    obtain ⟨-, rfl⟩ := h
    refine ⟨by simpa using h3, ?_⟩
    rw [Array.toList_setIfInBounds, List.take_set, h4]
  · simp [Vec.val, Vec.addr, hb]
  · rw [hL]; rfl

/-! arrays in memory -/
theorem Reads.index_arr_own {t e : TypeId} {x ix : Operand} {b o n s q : Nat} {i : Int} {k : IntKind} (hu : P.underlying t = some (.array n e)) (hs : szOf P e = some s)
    (hx : ev E x = some (.pointer (some ⟨b, o, none⟩))) (hi : ev E ix = some (.int k i)) (hr : 0 ≤ i ∧ i < n) (hq : o + i.toNat * s = q) :
    Reads P { dst, op := .indexAddr t x ix, type := ty, pos, after, guard } E I L (.pointer (some ⟨b, q, none⟩)) :=
  fun _ _ _ a w hH _ => by
    subst hq
    simp [execOp, hH.ev hx, hH.ev hi, Instr.indexAt, asIntOf, run_under hu, Instr.sureAddr, hr, run_sizeOf hs, add_plain]
theorem Reads.index_arr_slot {t e : TypeId} {x ix : Operand} {p : Option Addr} {n s m q : Nat} {i : Int} {k : IntKind} (hu : P.underlying t = some (.array n e)) (hs : szOf P e = some s)
    (hx : ev E x = some (.pointer (slot p m))) (hi : ev E ix = some (.int k i)) (hr : 0 ≤ i ∧ i < n) (hp : ∃ b o, p = some ⟨b, o, none⟩) (hq : m + i.toNat * s = q) :
    Reads P { dst, op := .indexAddr t x ix, type := ty, pos, after, guard } E I L (.pointer (slot p q)) := by
  subst hq
  obtain ⟨b, o, rfl⟩ := hp
  rw [slot_some] at hx ⊢
  exact Reads.index_arr_own hu hs hx hi hr (by omega)

/-! structs and arrays built -/
def placesOf (P : Program) (fs : List Field) : Option (List (Nat × Nat)) := fs.mapM fun f => (szOf P f.type).map fun s => (f.offset, s)
theorem run_places (w : World) : ∀ {fs : List Field} {ps : List (Nat × Nat)}, placesOf P fs = some ps → (fs.mapM fun (f : Field) => do pure (f.offset, ← sizeOf f.type) : Sem _).run P w = .ok ps w
  | [], ps, h => by simp [placesOf] at h; subst h; rfl
  | f :: fs, ps, h => by
    simp only [placesOf, List.mapM_cons, Option.bind_eq_bind, Option.bind_eq_some_iff, Option.map_eq_some_iff, Option.pure_def, Option.some.injEq] at h
    obtain ⟨p, ⟨s, hs, rfl⟩, qs, hq, rfl⟩ := h
    have ih := run_places w (fs := fs) (ps := qs) hq
    simp only [List.mapM_cons, Sem.run_bind, run_sizeOf hs, Result.andThen_ok, Sem.run_pure, ih]
theorem Reads.build {t : TypeId} {z : Value} {fs : Array Field} {ps : List (Nat × Nat)} {pa : List (Nat × Operand)} {vs : List (Nat × Value)} (cells : Array Value) (hz : zeroOf P t = some z) (hu : P.underlying t = some (.struct fs)) (hpl : placesOf P fs.toList = some ps)
    (hp : partsEv E pa vs) (hf : Instr.fill (fun i => ps.toArray[i]?) z.cells vs = some cells) :
    Reads P { dst, op := .build t pa.toArray, type := ty, pos, after, guard } E I L (.agg cells) :=
  fun _ _ _ a w hH _ => by
    have hm : (pa.toArray.map fun (i, x) => (i, a.eval x)).toList = vs := by rw [List.map_toArray, partsEv.map hH hp]
    have hpl' : (fs.mapM fun (f : Field) => do pure (f.offset, ← sizeOf f.type) : Sem _).run P w = .ok ps.toArray w := by
      rw [Array.mapM_eq_mapM_toList]
      simp only [Sem.run_map]
      rw [run_places w hpl]; rfl
    simp only [execOp, Instr.build, Sem.run_bind, run_zeroValue hz, Result.andThen_ok, run_under hu, hpl', hm, hf, Sem.run_pure]

/-! division -/
theorem Reads.tdiv {xt yt : TypeId} {x y : Operand} {m n : Int} (hx : ev E x = some (.int .i64 m)) (hy : ev E y = some (.int .i64 n)) (hm : -9223372036854775808 ≤ m ∧ m ≤ 9223372036854775807) (hn : 2 ≤ n) :
    Reads P { dst, op := .binOp .quo xt x y yt, type := ty, pos, after, guard } E I L (.int .i64 (m.tdiv n)) :=
  fun _ _ _ a w hH _ => by
    have h0 : (m.tdiv n).natAbs ≤ m.natAbs := by rw [Int.natAbs_tdiv]; exact Nat.div_le_self _ _
    have h9 : ¬ m.tdiv n = 9223372036854775808 := by
      intro h
      have h1 : (m.tdiv n).natAbs = m.natAbs / n.natAbs := Int.natAbs_tdiv m n
      have h2 : m.natAbs / n.natAbs ≤ m.natAbs / 2 := Nat.div_le_div_left (by omega) (by omega)
      omega
    have h2 : IntKind.i64.wrap (m.tdiv n) = m.tdiv n := wrap_in (by omega)
    have h3 : ¬ n = 0 := by omega
    simp [execOp, hH.ev hx, hH.ev hy, binOp, eqGuard, Op.intDiv, h2, h3]
end
section
variable {P : Program} {r : Option Nat} {K : World} {n : Nat} {ds : List Deferred} {ops : Array Oper} {Q : Exit → Act → World → Prop} {l : List Oper} {last : Option Nat} {σ : Sched}
  {E : Env} {I : Im} {L Lf Ls : Own} {d : Tmp} {op : Op} {ty : TypeId} {pos : String} {after : Array Edge} {g : Option (Nat × Bool)} {v : Value}
theorem XO.store_vecs {t e : TypeId} {x y : Operand} {V : Vec} {s : Nat} {cs : List Value} {k : Nat} {v0 : Value} (i : Nat) (hw : Wants ops ⟨none, .store t x y, ty, pos, after, g⟩ E true) (hs : szOf P t = some 1) (hx : ev E x = some (.pointer (slot V.addr k))) (hy : ev E y = some v) (h1 : v.oneCell' = true)
    (hV : V.Is s cs) (hi : L[i]? = some (V.ent e)) (hc : cs[k]? = some v0) (hk : ∀ V' : Vec, V'.Is s (cs.set k v) → V'.val = V.val → XO P r K n ds ops Q l E I (L.set i (V'.ent e))) : XO P r K n ds ops Q (⟨none, .store t x y, ty, pos, after, g⟩ :: l) E I L :=
  XO.e0 hw (Runs.step rfl (Runs.store_vecs i hs hx hy h1 hV hi hc)) (by rintro u I' L' ⟨V', h1, h2, rfl, rfl⟩; exact hk V' h1 h2)
theorem XR.store_vecs {j : Nat} {t e : TypeId} {x y : Operand} {V : Vec} {s : Nat} {cs : List Value} {k : Nat} {v0 : Value} (i : Nat) (ho : ops[j]? = some ⟨none, .store t x y, ty, pos, after, g⟩) (hw : Wants ops ⟨none, .store t x y, ty, pos, after, g⟩ E true) (hs : szOf P t = some 1)
    (hx : ev E x = some (.pointer (slot V.addr k))) (hy : ev E y = some v) (h1 : v.oneCell' = true)
    (hV : V.Is s cs) (hi : L[i]? = some (V.ent e)) (hc : cs[k]? = some v0) (hlast : last = some j) (hk : ∀ V' : Vec, V'.Is s (cs.set k v) → V'.val = V.val → XR P r K n ds ops Q last σ E I (L.set i (V'.ent e)) Ls) : XR P r K n ds ops Q last (.eff j σ) E I L Ls :=
  XR.e0 ho hw (Runs.step rfl (Runs.store_vecs i hs hx hy h1 hV hi hc)) (by rintro u I' L' ⟨V', h1, h2, rfl, rfl⟩; exact ⟨Im.le_refl _, .inl hlast, hk V' h1 h2⟩)
theorem XR.store_agg {t : TypeId} {x y : Operand} {b o : Nat} {vs : List Value} {c : Array Value} {e : TypeId} (j : Nat) {i : Nat} (ho' : ops[i]? = some ⟨none, .store t x y, ty, pos, after, g⟩) (hw : Wants ops ⟨none, .store t x y, ty, pos, after, g⟩ E true) (hs : szOf P t = some vs.length) (hx : ev E x = some (.pointer (some ⟨b, o, none⟩)))
    (hy : ev E y = some (.agg vs.toArray)) (h1 : ∀ v ∈ vs, v.oneCell' = true) (hi : L[j]? = some (some (b, .cells c e (0, 0)))) (ho : o + vs.length ≤ c.size)
    (hsub : last = some i ∨ Ls.Sublist (L.set j (some (b, .cells (c.toList.take o ++ vs ++ c.toList.drop (o + vs.length)).toArray e (0, 0)))))
    (hk : XR P r K n ds ops Q last σ E I (L.set j (some (b, .cells (c.toList.take o ++ vs ++ c.toList.drop (o + vs.length)).toArray e (0, 0)))) Ls) : XR P r K n ds ops Q last (.eff i σ) E I L Ls :=
  XR.e0 ho' hw (Runs.step rfl (Runs.store_agg j hs hx hy h1 hi ho)) (by rintro u I' L' ⟨rfl, rfl, rfl⟩; exact ⟨Im.le_refl _, hsub, hk⟩)
theorem XR.alloc {i : Nat} {t : TypeId} {z : Value} {cs : Array Value} (ho : ops[i]? = some ⟨some d, .alloc t, ty, pos, after, g⟩) (hw : Wants ops ⟨some d, .alloc t, ty, pos, after, g⟩ E true) (hd : Nat.ble (d + 1) n = true) (hz : zeroOf P t = some z) (hc : z.cells = cs) (hsub : Ls.Sublist L)
    (hk : ∀ b, XR P r K n ds ops Q last σ ((d, .pointer (some ⟨b, 0, none⟩)) :: E) I (some (b, .cells cs t (0, 0)) :: L) Ls) : XR P r K n ds ops Q last (.eff i σ) E I L Ls :=
  XR.e ho hw hd (Runs.step rfl (Runs.alloc hz)) (by subst hc; rintro u I' L' ⟨b, rfl, rfl, rfl⟩; exact ⟨Im.le_refl _, .inr (hsub.cons _), hk b⟩)
end
section
variable {P : Program} {K : World} {n : Nat} {E : Env} {I I₀ : Im} {L Lf : Own} {fn : Func} {Post : Value → Im → Own → Prop}
/-- one result, a struct or an array, in a cell -/
theorem XQ.done1ca {t : Tmp} {tt : TypeId} {b m : Nat} {c : Array Value} (L0 : Own) (k : Nat) (hr : fn.results = #[.cell t tt]) (ht : kindOf P tt = some true) (hs : szOf P tt = some m) (hv : find E t = some (.pointer (some ⟨b, 0, none⟩))) (hc : WholeAt L b c) (hm : c.size = m)
    (hL : L.drop k = L0 ++ Lf) (hI : I₀.le I) (hP : Post (.agg c) I L0) : XQ K n [] (bodyPost P fn (RetPost K I₀ Lf Post)) .ret E I L := fun a w hH hS =>
  ⟨hH.defers, .agg c, by
    obtain ⟨e, fr, hmem⟩ := hc
    have hl := run_loadCells_list (P := P) w ⟨b, 0, none⟩ c.toList (fun j v hj => by rw [add_plain]; exact hS.ownAt ⟨c, e, fr, hmem, by simpa using hj⟩)
    have hsz : c.toList.length = m := by simpa using hm
    rw [hsz] at hl
    simp [results, hr, hH.slot t _ hv, asAddr, loadVar, run_isAgg ht, run_sizeOf hs, hl], _, I, L0, rfl, hI, by rw [← hL]; exact hS.drop (List.drop_sublist k L), hP⟩
theorem XQ.done1c {t : Tmp} {tt : TypeId} {b : Nat} {v : Value} (L0 : Own) (k : Nat) (hr : fn.results = #[.cell t tt]) (ht : kindOf P tt = some false) (hv : find E t = some (.pointer (some ⟨b, 0, none⟩))) (hc : OwnAt L b 0 v)
    (hL : L.drop k = L0 ++ Lf) (hI : I₀.le I) (hP : Post v I L0) : XQ K n [] (bodyPost P fn (RetPost K I₀ Lf Post)) .ret E I L := fun a w hH hS =>
  ⟨hH.defers, v, by
    have h1 := run_loadCell (P := P) ht hS hc
    simp [results, hr, hH.slot t _ hv, asAddr, h1], _, I, L0, rfl, hI, by rw [← hL]; exact hS.drop (List.drop_sublist k L), hP⟩
end
end Go.Xe
namespace Go.Xe
open Go Go.RowKit
section
variable {P : Program} {dst : Option Tmp} {ty : TypeId} {pos : String} {after : Array Edge} {guard : Option (Nat × Bool)} {E : Env} {I : Im} {L : Own}
theorem add_zero (a : Addr) : a.add 0 = a := by simp [Addr.add]
theorem Reads.max {t u : TypeId} {x y : Operand} {k : IntKind} {m n : Int} (hx : ev E x = some (.int k m)) (hy : ev E y = some (.int k n)) :
    Reads P { dst, op := .call { callee := .builtin .max, args := #[x, y], argTypes := #[t, u] }, type := ty, pos, after, guard } E I L (.int k (Max.max m n)) :=
  fun _ _ _ a w hH _ => by
    have : (if m < n then n else m) = Max.max m n := by simp only [Int.max_def]; split <;> split <;> omega
    simp [execOp, hH.ev hx, hH.ev hy, resolve, invoke, builtin, Builtin.max_, Builtin.max2, this]
/-- a slice from the front on -/
theorem Reads.slice_to {t e : TypeId} {x hi : Operand} {a : Option Addr} {n cap s : Nat} {h : Int} {k : IntKind} (hu : P.underlying t = some (.slice e)) (hs : szOf P e = some s) (hx : ev E x = some (.slice a n cap)) (hh : ev E hi = some (.int k h)) (hr : 0 ≤ h ∧ h ≤ cap) :
    Reads P { dst, op := .slice t x none (some hi) none, type := ty, pos, after, guard } E I L (.slice a h.toNat cap) :=
  fun _ _ _ w0 w hH _ => by
    have e1 : (if cap = 0 then a else a.map (·.add (0 * s))) = a := by
      split
      · rfl
      · cases a <;> simp [add_zero]
    simp [execOp, hH.ev hx, hH.ev hh, Instr.sliceAt, Instr.slice, Instr.sliceBounds, Instr.sliceBound, asIntOf, run_under hu, hr, run_sizeOf hs]
    intro _; cases a <;> simp [add_zero]
end
section
variable {P : Program} {r : Option Nat} {K : World} {n : Nat} {ds : List Deferred} {ops : Array Oper} {Q : Exit → Act → World → Prop} {l : List Oper} {last : Option Nat} {σ : Sched}
  {E : Env} {I : Im} {L Lf Ls : Own} {d : Tmp} {op : Op} {ty : TypeId} {pos : String} {after : Array Edge} {g : Option (Nat × Bool)} {v : Value}
/-- a slice built, and never written again -/
theorem XO.lit {α : Type} [Enc α] {t e : TypeId} {len s by_ : Nat} {z : Value} {ps : List (Nat × Operand)} (xs : List α) (vs : List Value) (cs : List Value) (hw : Wants ops ⟨some d, .buildSlice t len ps.toArray, ty, pos, after, g⟩ E true) (hd : Nat.ble (d + 1) n = true)
    (hu : P.underlying t = some (.slice e)) (he : Elem P e s z by_) (hlen : len = vs.length) (hl : vs.length * s ≤ 16777216)
    (hp : partsEv E ps ((vs.zipIdx 0).map fun p => (p.2, p.1))) (hv : vs.all (fun v => v.cells.size == s) = true) (hcs : vs.flatMap (fun v => v.cells.toList) = cs) (hz : 0 < Enc.sz α) (hs : Enc.sz α = s) (hf : Flat I cs xs)
    (hk : ∀ b I', I.le I' → Sl I' (.slice (some ⟨b, 0, none⟩) len len) xs → XO P r K n ds ops Q l ((d, .slice (some ⟨b, 0, none⟩) len len) :: E) I' L) : XO P r K n ds ops Q (⟨some d, .buildSlice t len ps.toArray, ty, pos, after, g⟩ :: l) E I L :=
  XO.buildL vs cs hw hd hu he hlen hl hp hv hcs (fun b => XO.give (fun hb => by
    have h1 := hf.len
    have h2 : cs.length = vs.length * s := by
      rw [← hcs]
      clear hcs hp hlen hl hf h1 hk
      induction vs with
      | nil => simp
      | cons v vs ih =>
        simp only [List.all_cons, Bool.and_eq_true, beq_iff_eq] at hv
        simp only [List.flatMap_cons, List.length_append, Array.length_toList, List.length_cons, hv.1, ih hv.2, Nat.add_mul]; omega
    have h3 : xs.length = len := by
      rw [hlen]; rw [hs] at h1 hz; rw [h2] at h1
      exact (Nat.eq_of_mul_eq_mul_right hz h1).symm
    exact hk b _ (Im.le_add hb) ⟨some ⟨b, 0, none⟩, len, by rw [h3], by omega, Arr.of_add hb (List.take_of_length_le (Nat.le_refl _)) hf⟩))
end
end Go.Xe
namespace Go.Xe
open Go Go.RowKit
section
variable {P : Program} {r : Option Nat} {K : World} {n : Nat} {ds : List Deferred} {ops : Array Oper} {Q : Exit → Act → World → Prop} {l : List Oper} {E : Env} {I : Im} {L : Own} {c : Code} {e : Exit}
/-- a growing slice that grows no more -/
theorem XO.vec_done {α : Type} [Enc α] {V : Vec} {t : TypeId} {cs : List Value} {xs : List α} (hz : 0 < Enc.sz α) (hV : V.Is (Enc.sz α) cs) (hf : Flat I cs xs) (hk : ∀ I', I.le I' → Sl I' V.val xs → XO P r K n ds ops Q l E I' L) : XO P r K n ds ops Q l E I (V.ent t :: L) :=
  XO.give_vec (fun hb => hk _ (Vec.le_give hb) (Vec.sl hz hV hf hb).2)
theorem XC.vec_done {α : Type} [Enc α] {V : Vec} {t : TypeId} {cs : List Value} {xs : List α} (hz : 0 < Enc.sz α) (hV : V.Is (Enc.sz α) cs) (hf : Flat I cs xs) (hk : ∀ I', I.le I' → Sl I' V.val xs → XC P r K n ds c Q E I' L) : XC P r K n ds c Q E I (V.ent t :: L) :=
  XC.give_vec (fun hb => hk _ (Vec.le_give hb) (Vec.sl hz hV hf hb).2)
end
theorem cmp_ne_self (a : Int) : cmpInt .neq a a = false := by simp [cmpInt]
theorem cmp_eq_self (a : Int) : cmpInt .eql a a = true := by simp [cmpInt]
end Go.Xe
namespace Go.Xe
open Go Go.RowKit
section
variable {P : Program} {dst : Option Tmp} {ty : TypeId} {pos : String} {after : Array Edge} {guard : Option (Nat × Bool)} {E : Env} {I : Im} {L : Own}
theorem run_equal_bool {t : TypeId} {a b : Bool} (w : World) (hu : P.underlying t = some .bool) : (Op.equal t (.bool a) (.bool b)).run P w = .ok (a == b) w := by
  unfold Op.equal
  rw [show Op.maxDepth = (Op.maxDepth - 1) + 1 from rfl]
  unfold Op.equalIn
  simp [run_under hu]
theorem Reads.neq_bool {t yt : TypeId} {x y : Operand} {a b : Bool} (hu : P.underlying t = some .bool) (hx : ev E x = some (.bool a)) (hy : ev E y = some (.bool b)) :
    Reads P { dst, op := .binOp .neq t x y yt, type := ty, pos, after, guard } E I L (.bool (a != b)) :=
  fun _ _ _ w0 w hH _ => by
    have h := run_equal_bool (P := P) (a := a) (b := b) w hu
    simp [execOp, hH.ev hx, hH.ev hy, binOp, eqGuard, h]
    cases a <;> cases b <;> rfl
theorem Reads.eql_bool {t yt : TypeId} {x y : Operand} {a b : Bool} (hu : P.underlying t = some .bool) (hx : ev E x = some (.bool a)) (hy : ev E y = some (.bool b)) :
    Reads P { dst, op := .binOp .eql t x y yt, type := ty, pos, after, guard } E I L (.bool (a == b)) :=
  fun _ _ _ w0 w hH _ => by
    have h := run_equal_bool (P := P) (a := a) (b := b) w hu
    simp [execOp, hH.ev hx, hH.ev hy, binOp, eqGuard, h]
end
end Go.Xe
