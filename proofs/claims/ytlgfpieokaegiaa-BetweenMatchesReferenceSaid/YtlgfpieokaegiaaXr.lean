/- What single operations do, said of the small logic of XXe: no program is named here. -/
import Derived.Test.YtlgfpieokaegiaaXe
import Derived.Laws.Cells
import Derived.Laws.CopyRow
import Derived.Laws.BitsLemmas
import Derived.Laws.Bits64
namespace Go.Xe
open Go Go.RowKit

/-! what the program's tables say of a type -/
def kindOf (P : Program) (t : TypeId) : Option Bool := (P.underlying t).map fun d => match d with | .struct _ | .array _ _ => true | _ => false
def szOf (P : Program) (t : TypeId) : Option Nat := (P.info? t).map (·.size)
def zeroOf (P : Program) (t : TypeId) : Option Value := (P.info? t).bind (·.zero)
def bytesOf (P : Program) (t : TypeId) : Option Nat := (P.info? t).map (·.bytes)

section
variable {P : Program} {w : World} {t : TypeId}
theorem run_sizeOf {n : Nat} (h : szOf P t = some n) : (sizeOf t).run P w = .ok n w := by
  unfold szOf at h
  cases hi : P.info? t with
  | none => simp [hi] at h
  | some i => simp [hi] at h; simp [sizeOf, typeInfo, hi, h]
theorem run_isAgg {b : Bool} (h : kindOf P t = some b) : (isAgg t).run P w = .ok b w := by
  unfold kindOf at h
  cases hu : P.underlying t with
  | none => simp [hu] at h
  | some d =>
    simp only [hu, Option.map_some, Option.some.injEq] at h
    simp only [isAgg, underlying, Sem.run_bind, run_program, Result.andThen_ok, hu, Sem.run_pure]
    cases d <;> simp_all
theorem run_zeroValue {v : Value} (h : zeroOf P t = some v) : (zeroValue t).run P w = .ok v w := by
  unfold zeroOf at h
  cases hi : P.info? t with
  | none => simp [hi] at h
  | some i => simp [hi] at h; simp [zeroValue, typeInfo, hi, h]
theorem run_under {d : TypeDesc} (h : P.underlying t = some d) : (underlying t).run P w = .ok d w := by simp [underlying, h]
end

/-! reading memory -/
/-- the unchanging part holds v at the k-th cell behind a -/
def At (I : Im) (a : Option Addr) (k : Nat) (v : Value) : Prop := ∃ b off c e fr, a = some ⟨b, off, none⟩ ∧ I b = some (.cells c e fr) ∧ c[off + k]? = some v
theorem At.mono {I I' : Im} {a : Option Addr} {k : Nat} {v : Value} (hle : I.le I') (h : At I a k v) : At I' a k v :=
  let ⟨b, off, c, e, fr, h1, h2, h3⟩ := h; ⟨b, off, c, e, fr, h1, hle _ _ h2, h3⟩
theorem At.isSome {I : Im} {a : Option Addr} {k : Nat} {v : Value} (h : At I a k v) : a.isSome = true := by obtain ⟨b, off, c, e, fr, rfl, _⟩ := h; rfl
def slot (a : Option Addr) (k : Nat) : Option Addr := a.map (·.add k)
theorem add_plain (b o k : Nat) : (⟨b, o, none⟩ : Addr).add k = ⟨b, o + k, none⟩ := by unfold Addr.add; split <;> simp_all
theorem slot_some (b o k : Nat) : slot (some ⟨b, o, none⟩) k = some ⟨b, o + k, none⟩ := by simp [slot, add_plain]

/-- the owned part holds v at the k-th cell of block b -/
def OwnAt (L : Own) (b k : Nat) (v : Value) : Prop := ∃ c e fr, some (b, Obj.cells c e fr) ∈ L ∧ c[k]? = some v
theorem OwnAt.of {L : Own} {b k : Nat} {v : Value} {c : Array Value} {e : TypeId} {fr : Nat × Nat} (i : Nat) (h : L[i]? = some (some (b, .cells c e fr))) (hc : c.toList[k]? = some v) : OwnAt L b k v :=
  ⟨c, e, fr, List.mem_of_getElem? h, by simpa using hc⟩

theorem Sat.ownAt {K w : World} {I : Im} {L : Own} {b k : Nat} {v : Value} (hS : Sat K w I L) (h : OwnAt L b k v) : w.cell? ⟨b, k, none⟩ = some v := by
  obtain ⟨c, e, fr, hm, hc⟩ := h
  simp [World.cell?, hS.own _ _ hm, hc]
theorem Sat.at_ {K w : World} {I : Im} {L : Own} {a : Option Addr} {k : Nat} {v : Value} (hS : Sat K w I L) (h : At I a k v) : ∃ x, slot a k = some x ∧ w.cell? x = some v := by
  obtain ⟨b, off, c, e, fr, rfl, hb, hc⟩ := h
  exact ⟨_, slot_some b off k, by simp [World.cell?, hS.im _ _ hb, hc]⟩

section
variable {P : Program} {dst : Option Tmp} {ty : TypeId} {pos : String} {after : Array Edge} {guard : Option (Nat × Bool)} {E : Env} {I : Im} {L : Own}

theorem Reads.move {x : Operand} {v : Value} (h : ev E x = some v) : Reads P { dst, op := .move x, type := ty, pos, after, guard } E I L v :=
  fun _ _ _ a w hH _ => by simp [execOp, hH.ev h]
theorem Reads.assign {x : Operand} {v : Value} (h : ev E x = some v) : Reads P { dst, op := .assign x, type := ty, pos, after, guard } E I L v :=
  fun _ _ _ a w hH _ => by simp [execOp, hH.ev h]
theorem Reads.pick_true {c x y : Operand} {v : Value} (hc : ev E c = some (.bool true)) (h : ev E x = some v) : Reads P { dst, op := .pick c x y, type := ty, pos, after, guard } E I L v :=
  fun _ _ _ a w hH _ => by simp [execOp, hH.ev hc, hH.ev h, asBool]
theorem Reads.pick_false {c x y : Operand} {v : Value} (hc : ev E c = some (.bool false)) (h : ev E y = some v) : Reads P { dst, op := .pick c x y, type := ty, pos, after, guard } E I L v :=
  fun _ _ _ a w hH _ => by simp [execOp, hH.ev hc, hH.ev h, asBool]
theorem Reads.extract {x : Operand} {vs : Array Value} {i : Nat} {v : Value} (hx : ev E x = some (.tuple vs)) (hv' : vs.toList[i]? = some v) : Reads P { dst, op := .extract x i, type := ty, pos, after, guard } E I L v :=
  fun _ _ _ a w hH _ => by
    have hv : vs[i]? = some v := by simpa using hv'
    simp [execOp, hH.ev hx, Instr.extract, hv]

/-- arithmetic on two integers, before it is cut to size -/
theorem Reads.arith {op : BinOp} {xt yt : TypeId} {x y : Operand} {k : IntKind} {m n : Int} {v : Value} (hx : ev E x = some (.int k m)) (hy : ev E y = some (.int k n))
    (hop : (match op with | .add => some (m + n) | .sub => some (m - n) | .mul => some (m * n) | _ => none).map (fun z => Value.int k (k.wrap z)) = some v) :
    Reads P { dst, op := .binOp op xt x y yt, type := ty, pos, after, guard } E I L v :=
  fun _ _ _ a w hH _ => by cases op <;> simp at hop <;> subst hop <;> simp [execOp, hH.ev hx, hH.ev hy, binOp, eqGuard, Op.intArith]
theorem wrap_in {m : Int} (h : -9223372036854775808 ≤ m ∧ m ≤ 9223372036854775807) : IntKind.i64.wrap m = m := by rw [IntKind.wrap_i64]; omega
theorem Reads.add {xt yt : TypeId} {x y : Operand} {m n : Int} (hx : ev E x = some (.int .i64 m)) (hy : ev E y = some (.int .i64 n)) (hr : -9223372036854775808 ≤ m + n ∧ m + n ≤ 9223372036854775807) :
    Reads P { dst, op := .binOp .add xt x y yt, type := ty, pos, after, guard } E I L (.int .i64 (m + n)) := Reads.arith hx hy (by simp [wrap_in hr])
theorem Reads.sub {xt yt : TypeId} {x y : Operand} {m n : Int} (hx : ev E x = some (.int .i64 m)) (hy : ev E y = some (.int .i64 n)) (hr : -9223372036854775808 ≤ m - n ∧ m - n ≤ 9223372036854775807) :
    Reads P { dst, op := .binOp .sub xt x y yt, type := ty, pos, after, guard } E I L (.int .i64 (m - n)) := Reads.arith hx hy (by simp [wrap_in hr])
theorem Reads.mul {xt yt : TypeId} {x y : Operand} {m n : Int} (hx : ev E x = some (.int .i64 m)) (hy : ev E y = some (.int .i64 n)) (hr : -9223372036854775808 ≤ m * n ∧ m * n ≤ 9223372036854775807) :
    Reads P { dst, op := .binOp .mul xt x y yt, type := ty, pos, after, guard } E I L (.int .i64 (m * n)) := Reads.arith hx hy (by simp [wrap_in hr])
theorem Reads.neg {xt : TypeId} {x : Operand} {m : Int} (hx : ev E x = some (.int .i64 m)) (hr : -9223372036854775807 ≤ m ∧ m ≤ 9223372036854775807) :
    Reads P { dst, op := .unOp .neg xt x, type := ty, pos, after, guard } E I L (.int .i64 (-m)) :=
  fun _ _ _ a w hH _ => by
    have : IntKind.i64.wrap (-m) = -m := wrap_in (by omega)
    simp [execOp, hH.ev hx, Op.unary, Op.intArith, this]
theorem Reads.not {xt : TypeId} {x : Operand} {b : Bool} (hx : ev E x = some (.bool b)) :
    Reads P { dst, op := .unOp .not xt x, type := ty, pos, after, guard } E I L (.bool (!b)) := fun _ _ _ a w hH _ => by simp [execOp, hH.ev hx, Op.unary]
/-- the quotient and the rest by a positive number -/
theorem Reads.quo {xt yt : TypeId} {x y : Operand} {m n : Int} (hx : ev E x = some (.int .i64 m)) (hy : ev E y = some (.int .i64 n)) (hm : 0 ≤ m ∧ m ≤ 9223372036854775807) (hn : 1 ≤ n) :
    Reads P { dst, op := .binOp .quo xt x y yt, type := ty, pos, after, guard } E I L (.int .i64 (m / n)) :=
  fun _ _ _ a w hH _ => by
    have h1 : m.tdiv n = m / n := Int.tdiv_eq_ediv_of_nonneg hm.1
    have h2 : IntKind.i64.wrap (m / n) = m / n := wrap_in ⟨by have := Int.ediv_nonneg hm.1 (by omega : 0 ≤ n); omega, by have := Int.ediv_le_self n hm.1; omega⟩
    have h3 : ¬ n = 0 := by omega
    simp [execOp, hH.ev hx, hH.ev hy, binOp, eqGuard, Op.intDiv, h1, h2, h3]
theorem Reads.rem {xt yt : TypeId} {x y : Operand} {m n : Int} (hx : ev E x = some (.int .i64 m)) (hy : ev E y = some (.int .i64 n)) (hm : 0 ≤ m) (hn : 1 ≤ n) :
    Reads P { dst, op := .binOp .rem xt x y yt, type := ty, pos, after, guard } E I L (.int .i64 (m % n)) :=
  fun _ _ _ a w hH _ => by
    have h1 : m.tmod n = m % n := Int.tmod_eq_emod_of_nonneg hm
    have h3 : ¬ n = 0 := by omega
    simp [execOp, hH.ev hx, hH.ev hy, binOp, eqGuard, Op.intDiv, h1, h3]

/-- two integers are compared -/
def cmpInt (op : BinOp) (m n : Int) : Bool :=
  match op with
  | .eql => m == n | .neq => m != n | .lss => decide (m < n) | .leq => decide (m ≤ n) | .gtr => decide (m > n) | .geq => decide (m ≥ n) | _ => false
def isCmp : BinOp → Bool | .eql | .neq | .lss | .leq | .gtr | .geq => true | _ => false
theorem Reads.cmp {op : BinOp} {xt yt : TypeId} {x y : Operand} {k : IntKind} {m n : Int} (hop : isCmp op = true) (hx : ev E x = some (.int k m)) (hy : ev E y = some (.int k n)) :
    Reads P { dst, op := .binOp op xt x y yt, type := ty, pos, after, guard } E I L (.bool (cmpInt op m n)) :=
  fun _ _ _ a w hH _ => by cases op <;> simp [isCmp] at hop <;> simp [execOp, hH.ev hx, hH.ev hy, binOp, eqGuard, Op.intCmp, cmpInt]

/-! addresses and loads -/
theorem Reads.field_at {s : TypeId} {x : Operand} {f : Nat} {fs : Array Field} {fd : Field} {b o n off : Nat} (hu : P.underlying s = some (.struct fs)) (hf : fs[f]? = some fd) (hn : szOf P fd.type = some (n + 1)) (hoff : fd.offset = off)
    (hx : ev E x = some (.pointer (some ⟨b, o, none⟩))) : Reads P { dst, op := .fieldAddr s x f, type := ty, pos, after, guard } E I L (.pointer (some ⟨b, o + off, none⟩)) :=
  fun _ _ _ a w hH _ => by
    subst hoff
    simp [execOp, hH.ev hx, Instr.fieldAt, run_under hu, hf, Instr.sureAddr, fieldPlace, run_sizeOf hn, add_plain]
theorem Reads.field_slot {s : TypeId} {x : Operand} {f : Nat} {fs : Array Field} {fd : Field} {p : Option Addr} {k n off : Nat} (hu : P.underlying s = some (.struct fs)) (hf : fs[f]? = some fd) (hn : szOf P fd.type = some (n + 1)) (hoff : fd.offset = off)
    (hx : ev E x = some (.pointer (slot p k))) (hp : ∃ b o, p = some ⟨b, o, none⟩) : Reads P { dst, op := .fieldAddr s x f, type := ty, pos, after, guard } E I L (.pointer (slot p (k + off))) :=
  fun _ _ _ a w hH _ => by
    subst hoff
    obtain ⟨b, o, rfl⟩ := hp
    rw [slot_some] at hx
    simp [execOp, hH.ev hx, Instr.fieldAt, run_under hu, hf, Instr.sureAddr, fieldPlace, run_sizeOf hn, add_plain, slot_some, Nat.add_assoc]

theorem Reads.load_own {t : TypeId} {x : Operand} {b o : Nat} {v : Value} (hk : kindOf P t = some false) (hx : ev E x = some (.pointer (some ⟨b, o, none⟩))) (hc : OwnAt L b o v) :
    Reads P { dst, op := .load t x, type := ty, pos, after, guard } E I L v :=
  fun _ _ _ a w hH hS => by
    simp [execOp, hH.ev hx, Instr.loadAt, Instr.sureAddr, loadVar, run_isAgg hk, hS.ownAt hc]
theorem Reads.load_at {t : TypeId} {x : Operand} {p : Option Addr} {k : Nat} {v : Value} (hk : kindOf P t = some false) (hx : ev E x = some (.pointer (slot p k))) (hc : At I p k v) :
    Reads P { dst, op := .load t x, type := ty, pos, after, guard } E I L v :=
  fun _ _ _ a w hH hS => by
    obtain ⟨y, hy, hc⟩ := hS.at_ hc
    rw [hy] at hx
    simp [execOp, hH.ev hx, Instr.loadAt, Instr.sureAddr, loadVar, run_isAgg hk, hc]
theorem Reads.load_agg_own {t : TypeId} {x : Operand} {b o : Nat} {vs : List Value} (hk : kindOf P t = some true) (hs : szOf P t = some vs.length) (hx : ev E x = some (.pointer (some ⟨b, o, none⟩)))
    (hc : ∀ j v, vs[j]? = some v → OwnAt L b (o + j) v) : Reads P { dst, op := .load t x, type := ty, pos, after, guard } E I L (.agg vs.toArray) :=
  fun _ _ _ a w hH hS => by
    have hl := run_loadCells_list (P := P) w ⟨b, o, none⟩ vs (fun j v hj => by rw [add_plain]; exact hS.ownAt (hc j v hj))
    simp [execOp, hH.ev hx, Instr.loadAt, Instr.sureAddr, loadVar, run_isAgg hk, run_sizeOf hs, hl]
theorem Reads.load_agg_at {t : TypeId} {x : Operand} {p : Option Addr} {k : Nat} {vs : List Value} (hk : kindOf P t = some true) (hs : szOf P t = some vs.length) (hx : ev E x = some (.pointer (slot p k)))
    (hp : ∃ b o, p = some ⟨b, o, none⟩) (hc : ∀ j v, vs[j]? = some v → At I p (k + j) v) : Reads P { dst, op := .load t x, type := ty, pos, after, guard } E I L (.agg vs.toArray) :=
  fun _ _ _ a w hH hS => by
    obtain ⟨b, o, rfl⟩ := hp
    have hl := run_loadCells_list (P := P) w ⟨b, o + k, none⟩ vs (fun j v hj => by
      obtain ⟨y, hy, hc'⟩ := hS.at_ (hc j v hj)
      rw [slot_some] at hy
      rw [add_plain]
      cases hy
      simpa [Nat.add_assoc] using hc')
    rw [slot_some] at hx
    simp [execOp, hH.ev hx, Instr.loadAt, Instr.sureAddr, loadVar, run_isAgg hk, run_sizeOf hs, hl]

/-- an owned block, read whole -/
def WholeAt (L : Own) (b : Nat) (c : Array Value) : Prop := ∃ e fr, some (b, Obj.cells c e fr) ∈ L
theorem WholeAt.of {L : Own} {b : Nat} {c : Array Value} {e : TypeId} {fr : Nat × Nat} (i : Nat) (h : L[i]? = some (some (b, .cells c e fr))) : WholeAt L b c := ⟨e, fr, List.mem_of_getElem? h⟩
theorem Reads.load_whole {t : TypeId} {x : Operand} {b m : Nat} {c : Array Value} (hk : kindOf P t = some true) (hs : szOf P t = some m) (hx : ev E x = some (.pointer (some ⟨b, 0, none⟩))) (hc : WholeAt L b c) (hm : c.size = m) :
    Reads P { dst, op := .load t x, type := ty, pos, after, guard } E I L (.agg c) := by
  have := Reads.load_agg_own (P := P) (dst := dst) (ty := ty) (pos := pos) (after := after) (guard := guard) (E := E) (I := I) (L := L) (vs := c.toList) hk (by rw [hs, ← hm]; simp) hx (fun j v hj => by
    obtain ⟨e, fr, h⟩ := hc
    exact ⟨c, e, fr, h, by simpa using hj⟩)
  simpa using this
theorem Reads.index_own {t e : TypeId} {x ix : Operand} {b o n cap s q : Nat} {i : Int} {k : IntKind} (hu : P.underlying t = some (.slice e)) (hs : szOf P e = some s)
    (hx : ev E x = some (.slice (some ⟨b, o, none⟩) n cap)) (hi : ev E ix = some (.int k i)) (hr : 0 ≤ i ∧ i < n) (hq : o + i.toNat * s = q) :
    Reads P { dst, op := .indexAddr t x ix, type := ty, pos, after, guard } E I L (.pointer (some ⟨b, q, none⟩)) :=
  fun _ _ _ a w hH _ => by
    subst hq
    simp [execOp, hH.ev hx, hH.ev hi, Instr.indexAt, asIntOf, run_under hu, hr, run_sizeOf hs, add_plain]
theorem Reads.index_slot {t e : TypeId} {x ix : Operand} {p : Option Addr} {n cap s q : Nat} {i : Int} {k : IntKind} (hu : P.underlying t = some (.slice e)) (hs : szOf P e = some s)
    (hx : ev E x = some (.slice p n cap)) (hi : ev E ix = some (.int k i)) (hr : 0 ≤ i ∧ i < n) (hp : p.isSome = true) (hq : i.toNat * s = q) :
    Reads P { dst, op := .indexAddr t x ix, type := ty, pos, after, guard } E I L (.pointer (slot p q)) :=
  fun _ _ _ a w hH _ => by
    subst hq
    obtain ⟨A, rfl⟩ := Option.isSome_iff_exists.1 hp
    simp [execOp, hH.ev hx, hH.ev hi, Instr.indexAt, asIntOf, run_under hu, hr, run_sizeOf hs, slot]

theorem Reads.len_slice {t : TypeId} {x : Operand} {e : TypeId} {p : Option Addr} {n cap : Nat} (hu : P.underlying t = some (.slice e)) (hx : ev E x = some (.slice p n cap)) :
    Reads P { dst, op := .call { callee := .builtin .len, args := #[x], argTypes := #[t] }, type := ty, pos, after, guard } E I L (.int .i64 n) :=
  fun _ _ _ a w hH _ => by simp [execOp, hH.ev hx, resolve, invoke, builtin, Builtin.len_, run_under hu, goInt]
theorem Reads.len_string {t : TypeId} {x : Operand} {s : ByteArray} (hu : P.underlying t = some .string) (hx : ev E x = some (.string s)) :
    Reads P { dst, op := .call { callee := .builtin .len, args := #[x], argTypes := #[t] }, type := ty, pos, after, guard } E I L (.int .i64 s.size) :=
  fun _ _ _ a w hH _ => by simp [execOp, hH.ev hx, resolve, invoke, builtin, Builtin.len_, run_under hu, goInt]
theorem Reads.min {t u : TypeId} {x y : Operand} {k : IntKind} {m n : Int} (hx : ev E x = some (.int k m)) (hy : ev E y = some (.int k n)) :
    Reads P { dst, op := .call { callee := .builtin .min, args := #[x, y], argTypes := #[t, u] }, type := ty, pos, after, guard } E I L (.int k (Min.min m n)) :=
  fun _ _ _ a w hH _ => by
    have : (if n < m then n else m) = Min.min m n := by simp only [Int.min_def]; split <;> split <;> omega
    simp [execOp, hH.ev hx, hH.ev hy, resolve, invoke, builtin, Builtin.min_, Builtin.min2, this]
theorem Reads.makeFunc {fn : Fn} {fi ca : List Operand} {fv cv : List Value} (hf : EvalsTo E fi fv) (hc : EvalsTo E ca cv) :
    Reads P { dst, op := .makeFunc fn fi.toArray ca.toArray, type := ty, pos, after, guard } E I L (.func fn fv.toArray cv.toArray) :=
  fun _ _ _ a w hH _ => by simp [execOp, Instr.makeFunc, EvalsTo.map hH hf, EvalsTo.map hH hc]

/-! operations that make memory, or write it -/
theorem Runs.box {t : TypeId} {x : Operand} {v : Value} (hx : ev E x = some v) :
    Runs P { dst, op := .box t x, type := ty, pos, after, guard } E I L (fun u I' L' => ∃ b, u = .pointer (some ⟨b, 0, none⟩) ∧ I' = I ∧ L' = some (b, .cells v.cells t (0, 0)) :: L) :=
  fun _ _ _ a w hH hS => ⟨_, _, I, _, .inl (by simp [execOp, hH.ev hx, Instr.box, newVar, newRow]), hS.alloc (.cells v.cells t), _, rfl, rfl, rfl⟩
theorem Runs.alloc {t : TypeId} {z : Value} (hz : zeroOf P t = some z) :
    Runs P { dst, op := .alloc t, type := ty, pos, after, guard } E I L (fun u I' L' => ∃ b, u = .pointer (some ⟨b, 0, none⟩) ∧ I' = I ∧ L' = some (b, .cells z.cells t (0, 0)) :: L) :=
  fun _ _ _ a w hH hS => ⟨_, _, I, _, .inl (by simp [execOp, Instr.alloc, run_zeroValue hz, newVar, newRow]), hS.alloc (.cells z.cells t), _, rfl, rfl, rfl⟩

end
end Go.Xe
