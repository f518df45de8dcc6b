/- Stores, appends and new slices, said of the small logic of XXe: no program is named here. -/
import Derived.Test.YtlgfpieokaegiaaXr
import Derived.Deep.AppendSrc
namespace Go.Xe
open Go Go.RowKit

section
variable {P : Program} {dst : Option Tmp} {ty : TypeId} {pos : String} {after : Array Edge} {guard : Option (Nat × Bool)} {E : Env} {I : Im} {L : Own}

/-- a whole row of cells is written -/
theorem Sat.setRow {K w : World} {I : Im} {L : Own} {i b : Nat} {c c' : Array Value} {e : TypeId} {fr : Nat × Nat} (h : Sat K w I L) (hi : L[i]? = some (some (b, .cells c e fr))) :
    Sat K (w.setRow b c') I (L.set i (some (b, .cells c' e fr))) :=
  h.put hi rfl rfl rfl (setRow_heap w b c c' e fr (h.own _ _ (List.mem_of_getElem? hi))) (fun k hk => setRow_other w b k c' hk)

theorem Runs.store {t : TypeId} {x y : Operand} {b o : Nat} {v : Value} {c : Array Value} {e : TypeId} (i : Nat) (hs : szOf P t = some 1) (hx : ev E x = some (.pointer (some ⟨b, o, none⟩))) (hy : ev E y = some v)
    (h1 : v.oneCell' = true) (hi : L[i]? = some (some (b, .cells c e (0, 0)))) (ho : o < c.size) :
    Runs P { dst, op := .store t x y, type := ty, pos, after, guard } E I L (fun u I' L' => u = undef ∧ I' = I ∧ L' = L.set i (some (b, .cells (c.setIfInBounds o v) e (0, 0)))) := by
  intro K n ds a w hH hS
  have hb := hS.own _ _ (List.mem_of_getElem? hi)
  have hcell : w.cell? ⟨b, o, none⟩ = some c[o] := by simp [World.cell?, hb, ho]
  have hfro : w.frozen? ⟨b, o, none⟩ = false := by simp [World.frozen?, hb]
  have hc : v.cells = #[v] := by cases v <;> simp_all [Value.oneCell', Value.cells]
  have hst : (Go.store ⟨b, o, none⟩ v).run P w = .ok () (w.setRow b (c.setIfInBounds o v)) := by
    rw [run_store P w _ v _ h1, hcell]; simp [hfro, setCell_eq_setRow w b o c e (0, 0) v hb]
  refine ⟨undef, _, I, _, .inr ⟨?_, rfl⟩, hS.setRow hi, rfl, rfl, rfl⟩
  simp [execOp, hH.ev hx, hH.ev hy, Instr.storeAt, Instr.sureAddr, storeVar, run_sizeOf hs, hc, storeCells, add_plain, hst]

/-- a struct or an array is stored -/
theorem Runs.store_agg {t : TypeId} {x y : Operand} {b o : Nat} {vs : List Value} {c : Array Value} {e : TypeId} (i : Nat) (hs : szOf P t = some vs.length) (hx : ev E x = some (.pointer (some ⟨b, o, none⟩))) (hy : ev E y = some (.agg vs.toArray))
    (h1 : ∀ v ∈ vs, v.oneCell' = true) (hi : L[i]? = some (some (b, .cells c e (0, 0)))) (ho : o + vs.length ≤ c.size) :
    Runs P { dst, op := .store t x y, type := ty, pos, after, guard } E I L (fun u I' L' => u = undef ∧ I' = I ∧ L' = L.set i (some (b, .cells (c.toList.take o ++ vs ++ c.toList.drop (o + vs.length)).toArray e (0, 0)))) := by
  intro K n ds a w hH hS
  have hb := hS.own _ _ (List.mem_of_getElem? hi)
  have hst := run_storeCells_at P b o e vs 0 c w hb (by simpa using ho) h1
  refine ⟨undef, _, I, _, .inr ⟨?_, rfl⟩, hS.setRow hi, rfl, rfl, rfl⟩
  simp [execOp, hH.ev hx, hH.ev hy, Instr.storeAt, Instr.sureAddr, storeVar, run_sizeOf hs, Value.cells, hst]

/-- where n cells can be read: in the unchanging part, or in the owned one -/
def Readable (I : Im) (L : Own) (p : Option Addr) (cs : List Value) : Prop :=
  cs = [] ∨ (∀ j v, cs[j]? = some v → At I p j v) ∨ (∃ b o, p = some ⟨b, o, none⟩ ∧ ∀ j v, cs[j]? = some v → OwnAt L b (o + j) v)

theorem Readable.first {K w : World} {p : Option Addr} {cs : List Value} (hS : Sat K w I L) (h : Readable I L p cs) (s m n c : Nat) (hl : cs.length = m * s) :
    (Builtin.firstCells s m (.slice p n c)).run P w = .ok cs.toArray w := by
  rcases h with rfl | h | ⟨b, o, rfl, h⟩
  · have : m * s = 0 := by simpa using hl.symm
    cases p with
    | none => simp [Builtin.firstCells]
    | some A => simp [Builtin.firstCells, this, loadCells, loadCellsFrom]
  · by_cases hc : cs = []
    · subst hc
      have : m * s = 0 := by simpa using hl.symm
      cases p with
      | none => simp [Builtin.firstCells]
      | some A => simp [Builtin.firstCells, this, loadCells, loadCellsFrom]
    · obtain ⟨v0, hv0⟩ : ∃ v, cs[0]? = some v := by
        cases cs with
        | nil => exact absurd rfl hc
        | cons v r => exact ⟨v, rfl⟩
      obtain ⟨b, off, c0, e, fr, rfl, _⟩ := h 0 v0 hv0
      have := run_loadCells_list (P := P) w ⟨b, off, none⟩ cs (fun j v hj => by
        obtain ⟨y, hy, hc'⟩ := hS.at_ (h j v hj)
        rw [slot_some] at hy
        rw [add_plain]; cases hy; exact hc')
      rw [hl] at this
      simpa [Builtin.firstCells] using this
  · have := run_loadCells_list (P := P) w ⟨b, o, none⟩ cs (fun j v hj => by rw [add_plain]; exact hS.ownAt (h j v hj))
    rw [hl] at this
    simpa [Builtin.firstCells] using this

/-- what an append is given to append -/
inductive News (P : Program) (I : Im) (L : Own) (s : Nat) (tx : TypeId) : Value → Nat → List Value → Prop where
  | slice {e' : TypeId} {p : Option Addr} {m c : Nat} {cs : List Value} (hu : P.underlying tx = some (.slice e')) (hr : Readable I L p cs) (hl : cs.length = m * s) (h1 : ∀ v ∈ cs, v.oneCell' = true) : News P I L s tx (.slice p m c) m cs
  | string {b : ByteArray} (hu : P.underlying tx = some .string) (hs : s = 1) : News P I L s tx (.string b) b.size (byteCells b)

theorem News.src {K w : World} {s : Nat} {tx : TypeId} {x : Value} {m : Nat} {cs : List Value} (hS : Sat K w I L) (h : News P I L s tx x m cs) : Src P s tx x m cs w := by
  cases h with
  | slice hu hr hl h1 => exact ⟨.inl ⟨_, hu⟩, fun _ => rfl, hr.first hS s m m _ hl, hr.first hS.drew s m m _ hl, hl, h1⟩
  | string hu hs => subst hs; exact Src.ofString w hu _

/-- the facts on an element's type -/
structure Elem (P : Program) (e : TypeId) (s : Nat) (z : Value) (by_ : Nat) : Prop where
  size : szOf P e = some s
  zero : zeroOf P e = some z
  bytes : bytesOf P e = some by_
  cells : z.cells.size = s
theorem Elem.info {e : TypeId} {s : Nat} {z : Value} {by_ : Nat} (h : Elem P e s z by_) : ∃ i, P.info? e = some i ∧ i.size = s ∧ i.zero = some z ∧ i.bytes = by_ := by
  obtain ⟨h1, h2, h3, _⟩ := h
  unfold szOf at h1; unfold zeroOf at h2; unfold bytesOf at h3
  cases hi : P.info? e with
  | none => simp [hi] at h1
  | some i => simp [hi] at h1 h2 h3; exact ⟨i, rfl, h1, h2, h3⟩

theorem grownCap_le (w : World) (need old : Nat) (e : TypeId) : need ≤ grownCap w need old e := by
  show need ≤ need + _ % _; omega

/-- an owned, growing slice -/
structure Vec where
  blk : Option (Nat × Array Value)
  len : Nat
  cap : Nat
@[reducible] def Vec.addr (V : Vec) : Option Addr := V.blk.map fun p => ⟨p.1, 0, none⟩
@[reducible] def Vec.val (V : Vec) : Value := .slice V.addr V.len V.cap
def Vec.ent (V : Vec) (e : TypeId) : Option (Nat × Obj) := V.blk.map fun p => (p.1, .cells p.2 e (0, 0))
structure Vec.Is (V : Vec) (s : Nat) (cs : List Value) : Prop where
  len : cs.length = V.len * s
  le : V.len ≤ V.cap
  none : V.blk = Option.none → V.cap = 0
  some : ∀ b c, V.blk = Option.some (b, c) → c.size = V.cap * s ∧ c.toList.take (V.len * s) = cs
def Vec.nil : Vec := ⟨none, 0, 0⟩
theorem Vec.nil_is (s : Nat) : Vec.nil.Is s [] := ⟨by simp [Vec.nil], by simp [Vec.nil], fun _ => rfl, fun _ _ h => by simp [Vec.nil] at h⟩

theorem Vec.Is.readable {V : Vec} {s : Nat} {cs : List Value} {e : TypeId} (h : V.Is s cs) (hL : V.ent e ∈ L) : Readable I L V.addr cs := by
  cases hb : V.blk with
  | none =>
    refine .inl ?_
    have h1 := h.none hb
    have h2 := h.le
    have h3 := h.len
    have : V.len = 0 := by omega
    rw [this] at h3
    exact List.length_eq_zero_iff.1 (by simpa using h3)
  | some p =>
    obtain ⟨b, c⟩ := p
    obtain ⟨h1, h2⟩ := h.some b c hb
    refine .inr (.inr ⟨b, 0, by simp [Vec.addr, hb], fun j v hj => ⟨c, e, (0, 0), by simpa [Vec.ent, hb] using hL, ?_⟩⟩)
    rw [← h2, List.getElem?_take] at hj
    split at hj
    · simpa using hj
    · cases hj

theorem Runs.append {t tx e : TypeId} {x y : Operand} {V : Vec} {u : Value} {m s by_ : Nat} {z : Value} {cs news : List Value} (k : Nat) (hu : P.underlying t = some (.slice e)) (he : Elem P e s z by_)
    (hx : ev E x = some V.val) (hy : ev E y = some u) (hV : V.Is s cs) (hk : L[k]? = some (V.ent e)) (hn : News P I L s tx u m news) (hb : (V.len + m) * by_ ≤ 140737488355328) (h63 : V.len + m ≤ 9223372036854775807) :
    Runs P { dst, op := .call { callee := .builtin .append, args := #[x, y], argTypes := #[t, tx] }, type := ty, pos, after, guard } E I L
      (fun r I' L' => ∃ V' : Vec, r = V'.val ∧ I' = I ∧ L' = L.set k (V'.ent e) ∧ V'.Is s (cs ++ news) ∧ V'.len = V.len + m) := by
  intro K n ds a w hH hS
  obtain ⟨i, hi, rfl, hz, rfl⟩ := he.info
  have hsrc := hn.src hS
  have hrun : (execOp a.eval { dst, op := .call { callee := .builtin .append, args := #[x, y], argTypes := #[t, tx] }, type := ty, pos, after, guard }).run P w
      = ((Builtin.append_ #[t, tx] ty #[V.val, u]).run P w).andThen fun v w' => .ok (.value v) w' := by
    simp [execOp, hH.ev hx, hH.ev hy, resolve, invoke, builtin]
  by_cases hg : V.len + m ≤ V.cap
  · cases hbk : V.blk with
    | none =>
      have h0 := hV.none hbk
      have hm : m = 0 := by omega
      have hl0 : V.len = 0 := by omega
      have hnl : news = [] := List.length_eq_zero_iff.1 (by rw [hsrc.newsLen, hm]; simp)
      have hcl : cs = [] := List.length_eq_zero_iff.1 (by rw [hV.len, hl0]; simp)
      have hval : V.val = .slice none 0 0 := by simp [Vec.val, Vec.addr, hbk, hl0, h0]
      have hset : L.set k (V.ent e) = L := by
        obtain ⟨h1, h2⟩ := List.getElem?_eq_some_iff.1 hk
        rw [← h2]; exact List.set_getElem_self h1
      refine ⟨.slice none 0 0, w, I, _, .inl ?_, hS, V, hval.symm, rfl, hset.symm, ?_, by omega⟩
      · have hl := hsrc.len w
        have hcz := hsrc.cells
        rw [hrun, hval]
        rcases hsrc.kind with ⟨e', hk⟩ | hk <;> simp [Builtin.append_, run_underlying hu, run_underlying hk, run_sizeOf he.size, hl, hm] <;> simp [hm] at hcz <;> simp [hcz]
      · rw [hnl, hcl]; exact ⟨by simp [hl0], by omega, hV.none, fun b c h => by rw [hbk] at h; cases h⟩
    | some p =>
      obtain ⟨b, c⟩ := p
      obtain ⟨hc1, hc2⟩ := hV.some b c hbk
      have hent : L[k]? = some (some (b, .cells c e (0, 0))) := by rw [hk]; simp [Vec.ent, hbk]
      have hheap := hS.own b (.cells c e (0, 0)) (List.mem_of_getElem? hent)
      have hnl := hsrc.newsLen
      have hfit : V.len * i.size + news.length ≤ c.size := by rw [hnl, ← Nat.add_mul, hc1]; exact Nat.mul_le_mul_right _ hg
      have hst := run_storeCells_at P b (V.len * i.size) e news 0 c w hheap (by simpa using hfit) hsrc.one
      simp only [Nat.add_zero] at hst
      refine ⟨.slice V.addr (V.len + m) V.cap, w.setRow b (c.toList.take (V.len * i.size) ++ news ++ c.toList.drop (V.len * i.size + news.length)).toArray, I, _, .inl ?_,
        hS.setRow hent, ⟨some (b, (c.toList.take (V.len * i.size) ++ news ++ c.toList.drop (V.len * i.size + news.length)).toArray), V.len + m, V.cap⟩, ?_, rfl, ?_, ?_, rfl⟩
      · have hl := hsrc.len w
        have hva : V.val = .slice (some ⟨b, 0, none⟩) V.len V.cap := by simp [Vec.val, Vec.addr, hbk]
        have hva2 : V.addr = some ⟨b, 0, none⟩ := by simp [Vec.addr, hbk]
        rw [hrun, hva, hva2]
        rcases hsrc.kind with ⟨e', hk⟩ | hk <;> simp [Builtin.append_, run_underlying hu, run_underlying hk, run_sizeOf he.size, hl, hg, hsrc.cells, add_plain, hst]
      · simp [Vec.val, Vec.addr, hbk]
      · rfl
      · refine ⟨by rw [List.length_append, hV.len, hnl, Nat.add_mul], hg, fun h => by simp at h, fun b' c' h => ?_⟩
        simp only [Option.some.injEq, Prod.mk.injEq] at h
        obtain ⟨-, rfl⟩ := h
        have hlt : (c.toList.take (V.len * i.size)).length = V.len * i.size := by rw [hc2]; exact hV.len
        constructor
        · simp only [List.size_toArray, List.length_append, hlt, List.length_drop, Array.length_toList]; omega
        · rw [List.toList_toArray, List.take_append_of_le_length (by rw [List.length_append, hlt, hnl, Nat.add_mul]; omega), hc2]
          rw [List.take_of_length_le (by rw [List.length_append, hV.len, hnl, Nat.add_mul]; omega)]
  · have hold := (hV.readable (I := I) (L := L) (e := e) (List.mem_of_getElem? hk)).first (P := P) hS.drew i.size V.len V.len V.cap hV.len
    have hgr := run_append_grow_src w t tx ty e i z hu hi hz V.addr V.len V.cap cs hold u m news hsrc (by omega) (by omega) (growslice_fits (by omega) hb)
    have hcap := grownCap_le w (V.len + m) V.cap e
    generalize grownCap w (V.len + m) V.cap e = cap' at hgr hcap
    refine ⟨_, _, I, _, .inl (by rw [hrun, hgr]; rfl), hS.drew.renew hk rfl, ⟨some (w.heap.size, (cs ++ news).toArray ++ Builtin.zeroCells z.cells (cap' - (V.len + m))), V.len + m, cap'⟩, rfl, rfl, rfl, ?_, rfl⟩
    have hcl : (cs ++ news).length = (V.len + m) * i.size := by rw [List.length_append, hV.len, hsrc.newsLen, Nat.add_mul]
    refine ⟨hcl, hcap, fun h => by simp at h, fun b c h => ?_⟩
    simp only [Option.some.injEq, Prod.mk.injEq] at h
    obtain ⟨-, rfl⟩ := h
    constructor
    · simp only [Array.size_append, List.size_toArray, hcl, Builtin.zeroCells, Array.size_map, Array.size_range, he.cells]
      rw [← Nat.add_mul]; congr 1; omega
    · show List.take ((V.len + m) * i.size) _ = _
      rw [Array.toList_append, List.take_append_of_le_length (by show _ ≤ (cs ++ news).length; omega), ← hcl]
      exact List.take_of_length_le (Nat.le_refl _)
end
end Go.Xe
