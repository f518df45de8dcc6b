/- Unsigned arithmetic, strings, bytes: over the small logic of XXe. No program is named here. -/
import Derived.Test.YtmlliafhpbfdbaaDoorXm
import Derived.Lib.ConvBytes
import Derived.Laws.BytesString
import Derived.Laws.Concat
import Derived.Laws.Strings
namespace Go.Xe
open Go Go.RowKit

/-! unsigned words -/
def umod : IntKind → Option Nat | .u8 => some 256 | .u16 => some 65536 | .u32 => some 4294967296 | .u64 => some 18446744073709551616 | _ => none
theorem umod_pow {k : IntKind} {M : Nat} (h : umod k = some M) : M = 2 ^ k.bits := by cases k <;> simp [umod] at h <;> subst h <;> rfl
theorem wrap_u {k : IntKind} {M : Nat} (h : umod k = some M) (z : Nat) : k.wrap (z : Int) = ((z % M : Nat) : Int) := by
  cases k <;> simp [umod] at h <;> subst h <;> simp [IntKind.wrap, IntKind.bits, IntKind.signed]
theorem wrap_lt {k : IntKind} {M : Nat} (h : umod k = some M) {z : Nat} (hz : z < M) : k.wrap (z : Int) = (z : Int) := by rw [wrap_u h, Nat.mod_eq_of_lt hz]

section
variable {P : Program} {dst : Option Tmp} {ty : TypeId} {pos : String} {after : Array Edge} {guard : Option (Nat × Bool)} {E : Env} {I : Im} {L : Own}
  {xt yt : TypeId} {x y : Operand} {k : IntKind} {M m n : Nat}
theorem Reads.uadd (hM : umod k = some M) (hx : ev E x = some (.int k (m : Int))) (hy : ev E y = some (.int k (n : Int))) :
    Reads P ⟨dst, .binOp .add xt x y yt, ty, pos, after, guard⟩ E I L (.int k (((m + n) % M : Nat) : Int)) :=
  Reads.arith hx hy (by rw [← wrap_u hM]; simp)
theorem Reads.umul (hM : umod k = some M) (hx : ev E x = some (.int k (m : Int))) (hy : ev E y = some (.int k (n : Int))) :
    Reads P ⟨dst, .binOp .mul xt x y yt, ty, pos, after, guard⟩ E I L (.int k (((m * n) % M : Nat) : Int)) :=
  Reads.arith hx hy (by rw [← wrap_u hM]; simp)
/-- a difference that is no less than 0 -/
theorem Reads.usub (hM : umod k = some M) (hx : ev E x = some (.int k (m : Int))) (hy : ev E y = some (.int k (n : Int))) (hle : n ≤ m) (hm : m < M) :
    Reads P ⟨dst, .binOp .sub xt x y yt, ty, pos, after, guard⟩ E I L (.int k ((m - n : Nat) : Int)) :=
  Reads.arith hx hy (by rw [show (m : Int) - n = ((m - n : Nat) : Int) by omega]; simp only [Option.map_some]; rw [wrap_lt hM (by omega)])
theorem run_bits_u {op : BinOp} {w : World} (hM : umod k = some M) (hm : m < M) (hn : n < M) :
    (op = .and → (Op.intBits op k (m : Int) (n : Int)).run P w = .ok (.int k ((m &&& n : Nat) : Int)) w) ∧
    (op = .or → (Op.intBits op k (m : Int) (n : Int)).run P w = .ok (.int k ((m ||| n : Nat) : Int)) w) ∧
    (op = .xor → (Op.intBits op k (m : Int) (n : Int)).run P w = .ok (.int k ((m ^^^ n : Nat) : Int)) w) := by
  have hp := umod_pow hM
  have h1 : m % 2 ^ k.bits = m := Nat.mod_eq_of_lt (by omega)
  have h2 : n % 2 ^ k.bits = n := Nat.mod_eq_of_lt (by omega)
  refine ⟨fun h => ?_, fun h => ?_, fun h => ?_⟩ <;> subst h <;> simp only [Op.intBits, BitVec.ofInt_natCast, BitVec.toNat_and, BitVec.toNat_or, BitVec.toNat_xor, BitVec.toNat_ofNat, h1, h2, Sem.run_pure]
  · rw [wrap_lt hM (by rw [hp]; exact Nat.and_lt_two_pow _ (by omega))]
  · rw [wrap_lt hM (by rw [hp]; exact Nat.or_lt_two_pow (by omega) (by omega))]
  · rw [wrap_lt hM (by rw [hp]; exact Nat.xor_lt_two_pow (by omega) (by omega))]
theorem Reads.uand (hM : umod k = some M) (hx : ev E x = some (.int k (m : Int))) (hy : ev E y = some (.int k (n : Int))) (hm : m < M) (hn : n < M) :
    Reads P ⟨dst, .binOp .and xt x y yt, ty, pos, after, guard⟩ E I L (.int k ((m &&& n : Nat) : Int)) :=
  fun _ _ _ a w hH _ => by simp [execOp, hH.ev hx, hH.ev hy, binOp, eqGuard, (run_bits_u (P := P) (op := .and) (w := w) hM hm hn).1 rfl]
theorem Reads.uor (hM : umod k = some M) (hx : ev E x = some (.int k (m : Int))) (hy : ev E y = some (.int k (n : Int))) (hm : m < M) (hn : n < M) :
    Reads P ⟨dst, .binOp .or xt x y yt, ty, pos, after, guard⟩ E I L (.int k ((m ||| n : Nat) : Int)) :=
  fun _ _ _ a w hH _ => by simp [execOp, hH.ev hx, hH.ev hy, binOp, eqGuard, (run_bits_u (P := P) (op := .or) (w := w) hM hm hn).2.1 rfl]
theorem Reads.uxor (hM : umod k = some M) (hx : ev E x = some (.int k (m : Int))) (hy : ev E y = some (.int k (n : Int))) (hm : m < M) (hn : n < M) :
    Reads P ⟨dst, .binOp .xor xt x y yt, ty, pos, after, guard⟩ E I L (.int k ((m ^^^ n : Nat) : Int)) :=
  fun _ _ _ a w hH _ => by simp [execOp, hH.ev hx, hH.ev hy, binOp, eqGuard, (run_bits_u (P := P) (op := .xor) (w := w) hM hm hn).2.2 rfl]
theorem Reads.unot (hM : umod k = some M) (hx : ev E x = some (.int k (n : Int))) (hn : n < M) :
    Reads P ⟨dst, .unOp .xor xt x, ty, pos, after, guard⟩ E I L (.int k (((M - 1) ^^^ n : Nat) : Int)) :=
  fun _ _ _ a w hH _ => by
    have hmx : (if k.signed then (-1 : Int) else k.max) = ((M - 1 : Nat) : Int) := by cases k <;> simp [umod] at hM <;> subst hM <;> rfl
    have h := (run_bits_u (P := P) (op := .xor) (w := w) (m := M - 1) hM (by omega) hn).2.2 rfl
    rw [← hmx] at h
    have h2 : (Op.unary .xor (a.eval x)).run P w = .ok (.int k (((M - 1) ^^^ n : Nat) : Int)) w := by rw [hH.ev hx]; exact h
    generalize (Value.int k (((M - 1) ^^^ n : Nat) : Int)) = u at h2 ⊢
    simp only [execOp, Sem.run_bind, h2, Result.andThen_ok, Sem.run_pure]
theorem Reads.ushl (hM : umod k = some M) {yk : IntKind} {s : Nat} (hx : ev E x = some (.int k (m : Int))) (hy : ev E y = some (.int yk (s : Int))) (hs : s ≤ k.bits) :
    Reads P ⟨dst, .binOp .shl xt x y yt, ty, pos, after, guard⟩ E I L (.int k (((m * 2 ^ s) % M : Nat) : Int)) :=
  fun _ _ _ a w hH _ => by
    have h1 : ¬ ((s : Int) < 0) := by omega
    have h3 : (m : Int) * 2 ^ s = ((m * 2 ^ s : Nat) : Int) := by push_cast; rfl
    have h4 : (Op.shift .shl k (m : Int) yk (s : Int)).run P w = .ok (.int k (((m * 2 ^ s) % M : Nat) : Int)) w := by
      simp only [Op.shift, h1, if_false, Int.toNat_natCast, Nat.min_eq_left hs, Sem.run_pure]
      rw [h3, wrap_u hM]
    generalize (Value.int k (((m * 2 ^ s) % M : Nat) : Int)) = u at h4 ⊢
    simp [execOp, hH.ev hx, hH.ev hy, binOp, eqGuard, h4]
theorem Reads.shrn {yk : IntKind} {s : Nat} (hx : ev E x = some (.int k (m : Int))) (hy : ev E y = some (.int yk (s : Int))) (hs : s ≤ k.bits) :
    Reads P ⟨dst, .binOp .shr xt x y yt, ty, pos, after, guard⟩ E I L (.int k ((m / 2 ^ s : Nat) : Int)) :=
  fun _ _ _ a w hH _ => by
    have h1 : ¬ ((s : Int) < 0) := by omega
    have h3 : (m : Int).fdiv (2 ^ s) = ((m / 2 ^ s : Nat) : Int) := by
      rw [Int.fdiv_eq_ediv_of_nonneg _ (by exact_mod_cast Nat.zero_le (2 ^ s))]; push_cast; rfl
    simp [execOp, hH.ev hx, hH.ev hy, binOp, eqGuard, Op.shift, h1, Nat.min_eq_left hs, h3]
/-- the sign of an integer, moved down -/
theorem Reads.shr63 {z : Int} {yk : IntKind} (hx : ev E x = some (.int .i64 z)) (hy : ev E y = some (.int yk 63)) (hz : -9223372036854775808 ≤ z ∧ z ≤ 9223372036854775807) :
    Reads P ⟨dst, .binOp .shr xt x y yt, ty, pos, after, guard⟩ E I L (.int .i64 (if z < 0 then -1 else 0)) :=
  fun _ _ _ a w hH _ => by
    have h3 : z.fdiv 9223372036854775808 = (if z < 0 then -1 else 0) := by
      rw [Int.fdiv_eq_ediv_of_nonneg _ (by decide)]; split <;> omega
    have h4 : Min.min 63 IntKind.i64.bits = 63 := by decide
    have h5 : ((2 : Int) ^ 63) = 9223372036854775808 := by decide
    simp [execOp, hH.ev hx, hH.ev hy, binOp, eqGuard, Op.shift, h4, h5, h3]
/-- an integer turned to another kind -/
theorem Reads.conv {src d : TypeId} {k' : IntKind} {z : Int} {u : TypeDesc} (hs : P.underlying src = some u) (hu : (match u with | .int _ => true | _ => false) = true) (hd : P.underlying d = some (.int k')) (hx : ev E x = some (.int k z)) :
    Reads P ⟨dst, .convert src d x, ty, pos, after, guard⟩ E I L (.int k' (k'.wrap z)) :=
  fun _ _ _ a w hH _ => by
    cases u <;> simp at hu
    simp [execOp, hH.ev hx, Go.convert, run_under hs, run_under hd, Conv.intToInt]
theorem Reads.convu {src d : TypeId} {k' : IntKind} {u : TypeDesc} (hs : P.underlying src = some u) (hu : (match u with | .int _ => true | _ => false) = true) (hd : P.underlying d = some (.int k')) (hM : umod k' = some M) (hx : ev E x = some (.int k (m : Int))) :
    Reads P ⟨dst, .convert src d x, ty, pos, after, guard⟩ E I L (.int k' ((m % M : Nat) : Int)) := by
  have := Reads.conv (P := P) (dst := dst) (ty := ty) (pos := pos) (after := after) (guard := guard) (I := I) (L := L) hs hu hd hx
  rwa [wrap_u hM] at this
theorem Reads.convl {src d : TypeId} {k' : IntKind} {u : TypeDesc} (hs : P.underlying src = some u) (hu : (match u with | .int _ => true | _ => false) = true) (hd : P.underlying d = some (.int k')) (hM : umod k' = some M) (hx : ev E x = some (.int k (m : Int))) (hm : m < M) :
    Reads P ⟨dst, .convert src d x, ty, pos, after, guard⟩ E I L (.int k' (m : Int)) := by
  have := Reads.convu (P := P) (dst := dst) (ty := ty) (pos := pos) (after := after) (guard := guard) (I := I) (L := L) hs hu hd hM hx
  rwa [Nat.mod_eq_of_lt hm] at this
/-- a word that is an int as well -/
theorem Reads.convi {src d : TypeId} {u : TypeDesc} (hs : P.underlying src = some u) (hu : (match u with | .int _ => true | _ => false) = true) (hd : P.underlying d = some (.int .i64)) (hx : ev E x = some (.int k (m : Int))) (hm : m ≤ 9223372036854775807) :
    Reads P ⟨dst, .convert src d x, ty, pos, after, guard⟩ E I L (.int .i64 (m : Int)) := by
  have := Reads.conv (P := P) (dst := dst) (ty := ty) (pos := pos) (after := after) (guard := guard) (I := I) (L := L) hs hu hd hx
  rwa [wrap_in (by omega)] at this

/-! strings -/
theorem Reads.sadd {a b : ByteArray} (hx : ev E x = some (.string a)) (hy : ev E y = some (.string b)) (h : a.size + b.size ≤ 9223372036854775807) :
    Reads P ⟨dst, .binOp .add xt x y yt, ty, pos, after, guard⟩ E I L (.string (a ++ b)) :=
  fun _ _ _ c w hH _ => by simp [execOp, hH.ev hx, hH.ev hy, binOp, eqGuard, run_string_add_sum (P := P) w a b h]
theorem bytes_beq (a b : ByteArray) : (a.toList == b.toList) = decide (a = b) := by
  rw [Bool.eq_iff_iff, decide_eq_true_eq, beq_iff_eq, ByteArray.toList_eq, ByteArray.toList_eq]
  constructor
  · intro h; apply ByteArray.ext; exact Array.toList_inj.1 h
  · intro h; rw [h]
theorem Reads.seq {a b : ByteArray} (hx : ev E x = some (.string a)) (hy : ev E y = some (.string b)) :
    Reads P ⟨dst, .binOp .eql xt x y yt, ty, pos, after, guard⟩ E I L (.bool (decide (a = b))) :=
  fun _ _ _ c w hH _ => by simp only [execOp, hH.ev hx, hH.ev hy, binOp, eqGuard, Op.stringOp, bytes_beq]; simp
theorem Reads.sne {a b : ByteArray} (hx : ev E x = some (.string a)) (hy : ev E y = some (.string b)) :
    Reads P ⟨dst, .binOp .neq xt x y yt, ty, pos, after, guard⟩ E I L (.bool (!decide (a = b))) :=
  fun _ _ _ c w hH _ => by simp only [execOp, hH.ev hx, hH.ev hy, binOp, eqGuard, Op.stringOp, bytes_beq]; simp
theorem Reads.sindex {t : TypeId} {s : ByteArray} {i : Nat} (hu : P.underlying t = some .string) (hx : ev E x = some (.string s)) (hy : ev E y = some (.int .i64 (i : Int))) (hi : i < s.size) :
    Reads P ⟨dst, .index t x y, ty, pos, after, guard⟩ E I L (.int .u8 (((s.data.toList.getD i 0).toNat : Nat) : Int)) :=
  fun _ _ _ a w hH _ => by
    have h2 : s.data.toList.getD i 0 = s[i] := by
      have : i < s.data.toList.length := by simpa using hi
      rw [List.getD_eq_getElem?_getD, List.getElem?_eq_getElem this]; rfl
    have h1 : s[i]? = some s[i] := by rw [ByteArray.getElem?_lt' s i hi]
    have h3 : (if 0 ≤ (i : Int) then s[(i : Int).toNat]? else none) = some s[i] := by rw [if_pos (by omega), Int.toNat_natCast, h1]
    rw [h2]
    simp only [execOp, hH.ev hx, hH.ev hy, Instr.index, asIntOf, Sem.run_bind, Sem.run_pure, Result.andThen_ok, run_under hu, h3]
theorem Reads.sslice_to {t : TypeId} {s : ByteArray} {h : Nat} (hu : P.underlying t = some .string) (hx : ev E x = some (.string s)) (hy : ev E y = some (.int .i64 (h : Int))) (hh : h ≤ s.size) :
    Reads P ⟨dst, .slice t x none (some y) none, ty, pos, after, guard⟩ E I L (.string (s.extract 0 h)) :=
  fun _ _ _ a w hH _ => by
    have h2 : (h : Int) ≤ s.size := by omega
    simp [execOp, hH.ev hx, hH.ev hy, Instr.sliceAt, Instr.slice, Instr.sliceBounds, Instr.sliceBound, asIntOf, run_under hu]
    intro hlt; omega
/-- a part of an array's value -/
theorem Reads.index_agg {t e : TypeId} {n : Nat} {cs : Array Value} {i : Nat} {v : Value} (hu : P.underlying t = some (.array n e)) (hk : kindOf P e = some false) (hs : szOf P e = some 1) (hx : ev E x = some (.agg cs)) (hy : ev E y = some (.int .i64 (i : Int))) (hi : i < n) (hv : cs.toList[i]? = some v) :
    Reads P ⟨dst, .index t x y, ty, pos, after, guard⟩ E I L v :=
  fun _ _ _ a w hH _ => by
    have hv' : cs[i]? = some v := by simpa using hv
    have h2 : (i : Int) < n := by omega
    simp [execOp, hH.ev hx, hH.ev hy, Instr.index, asIntOf, run_under hu, run_sizeOf hs, part, run_isAgg hk, hv']
    intro hlt; omega
/-- a pointer that is none is none -/
theorem Reads.nilCheck {q : Addr} (hx : ev E x = some (.pointer (some q))) : Reads P ⟨dst, .nilCheck x, ty, pos, after, guard⟩ E I L (.pointer (some q)) :=
  fun _ _ _ a w hH _ => by simp [execOp, hH.ev hx]
end

instance : Enc UInt8 where
  sz := 1
  rep := fun _ cs x => cs = [.int .u8 (x.toNat : Int)]
  len := fun h => by rw [h]; rfl
  mono := fun _ h => h
  one := fun h v hv => by rw [h] at hv; simp at hv; subst hv; rfl
/-- the bytes of a list, as numbers -/
def _root_.Go.Sh.bg (b : List UInt8) (j : Nat) : Nat := (b.getD j 0).toNat
theorem _root_.Go.Sh.bg_lt (b : List UInt8) (j : Nat) : Go.Sh.bg b j < 256 := UInt8.toNat_lt _
theorem Arr.byte {I : Im} {a : Option Addr} {xs : List UInt8} (h : Arr I a xs) {j : Nat} (hj : j < xs.length) : At I a (j * 1) (.int .u8 ((xs[j].toNat : Nat) : Int)) := by
  obtain ⟨cs, h1, h2⟩ := h j hj
  exact h2 0 _ (by rw [h1]; rfl)
theorem Arr.bg_at {I : Im} {a : Option Addr} {xs : List UInt8} (h : Arr I a xs) {j q : Nat} (hj : j < xs.length) (hq : j = q) : At I a q (.int .u8 ((Go.Sh.bg xs j : Nat) : Int)) := by
  have := h.byte hj
  rw [show Go.Sh.bg xs j = xs[j].toNat by simp [Go.Sh.bg, hj], ← hq]
  simpa using this
def byteC (l : List UInt8) : List Value := l.map fun b => .int .u8 ((b.toNat : Nat) : Int)
theorem byteC_eq (s : ByteArray) : byteCells s = byteC s.data.toList := rfl
theorem byteC_len (l : List UInt8) : (byteC l).length = l.length := by simp [byteC]
theorem byteC_append (a b : List UInt8) : byteC (a ++ b) = byteC a ++ byteC b := by simp [byteC]
theorem byteC_one (l : List UInt8) : ∀ v ∈ byteC l, v.oneCell' = true := by simp [byteC, Value.oneCell']
theorem flat_byte (I : Im) : ∀ (l : List UInt8), Flat I (byteC l) l
  | [] => .nil
  | x :: l => .cons (cs := [.int .u8 ((x.toNat : Nat) : Int)]) rfl (flat_byte I l)

/-! a row of bytes that a string was turned to -/
theorem run_storeCells_atG (P : Program) (g o : Nat) (t : TypeId) (fz : Nat × Nat) : ∀ (vs : List Value) (i : Nat) (cur : Array Value) (w : World), w.heap[g]? = some (.cells cur t fz) → (∀ k, k < vs.length → ¬ (fz.1 ≤ o + i + k ∧ o + i + k < fz.2)) → o + i + vs.length ≤ cur.size → (∀ v ∈ vs, v.oneCell' = true) →
    (storeCells ⟨g, o, none⟩ vs i).run P w = .ok () (w.setRow g (cur.toList.take (o + i) ++ vs ++ cur.toList.drop (o + i + vs.length)).toArray)
  | [], i, cur, w, hg, _, _, _ => by
    simp only [storeCells, List.append_nil, List.length_nil, Nat.add_zero, List.take_append_drop, Array.toArray_toList]
    rw [setRow_self w g cur t fz hg]
    rfl
  | v :: vs, i, cur, w, hg, hz, hl, ho => by
    have hv := ho v (by simp)
    have hadd : (⟨g, o, none⟩ : Addr).add i = ⟨g, o + i, none⟩ := add_plain g o i
    simp only [List.length_cons] at hl hz
    have hcell : w.cell? ⟨g, o + i, none⟩ = some cur[o + i] := by
      have : o + i < cur.size := by omega
      simp [World.cell?, hg, this]
    have hfro : w.frozen? ⟨g, o + i, none⟩ = false := by
      have hh := hz 0 (by omega)
      simp only [Nat.add_zero] at hh
      simp only [World.frozen?, hg, Bool.and_eq_false_iff, decide_eq_false_iff_not]
      omega
    have hset := setCell_eq_setRow w g (o + i) cur t fz v hg
    have hg' : (w.setRow g (cur.setIfInBounds (o + i) v)).heap[g]? = some (.cells (cur.setIfInBounds (o + i) v) t fz) := setRow_heap w g cur _ t fz hg
    have ih := run_storeCells_atG P g o t fz vs (i + 1) (cur.setIfInBounds (o + i) v) (w.setRow g (cur.setIfInBounds (o + i) v)) hg' (fun k hk => by have := hz (k + 1) (by omega); omega) (by simp; omega) (fun x hx => ho x (by simp [hx]))
    unfold storeCells
    simp only [Sem.run_bind]
    rw [hadd, run_store _ _ _ _ _ hv, hcell]
    simp only [hfro, Bool.false_eq_true, ↓reduceIte, hset, Result.andThen_ok, ih, setRow_setRow]
    congr 2
    apply congrArg
    have hsz : o + i < cur.toList.length := by simp; omega
    rw [Array.toList_setIfInBounds]
    rw [show o + (i + 1) = o + i + 1 by omega, show o + i + (v :: vs).length = o + i + 1 + vs.length by simp; omega]
    rw [List.drop_set_of_lt (by omega)]
    have : (cur.toList.set (o + i) v).take (o + i + 1) = cur.toList.take (o + i) ++ [v] := by
      rw [List.take_set, List.take_succ_eq_append_getElem hsz, List.set_append_right _ _ (by simp; omega)]
      have h9 : (cur.toList.take (o + i)).length = o + i := by rw [List.length_take]; omega
      rw [h9, Nat.sub_self, List.set_cons_zero]
    rw [this]
    simp

structure VB where
  blk : Nat
  c : Array Value
  fr : Nat × Nat
  len : Nat
  cap : Nat
@[reducible] def VB.val (V : VB) : Value := .slice (some ⟨V.blk, 0, none⟩) V.len V.cap
def VB.obj (V : VB) (e : TypeId) : Obj := .cells V.c e V.fr
structure VB.Is (V : VB) (bs : List UInt8) : Prop where
  len : V.len = bs.length
  le : V.len ≤ V.cap
  size : V.c.size = V.cap
  cells : V.c.toList.take V.len = byteC bs
  free : V.fr = (0, 0) ∨ V.cap ≤ V.fr.1
section
variable {P : Program} {dst : Option Tmp} {ty : TypeId} {pos : String} {after : Array Edge} {guard : Option (Nat × Bool)} {E : Env} {I : Im} {L : Own} {x y : Operand}
theorem Runs.to_bytes {src d e : TypeId} {s : ByteArray} (hs : P.underlying src = some .string) (hd : P.underlying d = some (.slice e)) (he : P.underlying e = some (.int .u8)) (hx : ev E x = some (.string s)) :
    Runs P ⟨dst, .convert src d x, ty, pos, after, guard⟩ E I L (fun u I' L' => ∃ V : VB, u = V.val ∧ I' = I ∧ L' = some (V.blk, V.obj e) :: L ∧ V.Is s.data.toList) := by
  intro K n ds a w hH hS
  have hr := Lib.run_convert_string_bytes (P := P) w src d e s hs hd he
  have hcap : s.size ≤ grownCap w s.size 0 e := grownCap_le w s.size 0 e
  have hsz : (Lib.bytesCells w e s).size = grownCap w s.size 0 e := by
    simp only [Lib.bytesCells, Array.size_append, Array.size_map, Array.size_replicate]
    have : s.data.size = s.size := rfl
    omega
  refine ⟨_, Lib.bytesWorld w e s, I, _, .inl (by simp only [execOp, hH.ev hx, Sem.run_bind, hr, Result.andThen_ok, Sem.run_pure]), ?_,
    ⟨w.heap.size, Lib.bytesCells w e s, ((Lib.bytesCells w e s).size, (Lib.bytesCells w e s).size + 1), s.size, grownCap w s.size 0 e⟩, rfl, rfl, rfl, ?_⟩
  · refine Sat.take (hS.later rfl rfl rfl (fun b o hb => ?_)) (Lib.bytesWorld_at_new w e s) hS.fresh_im (fun hm => ?_)
    · rw [Lib.bytesWorld_at_old w e s b (lt_of_heap hb)]; exact hb
    · obtain ⟨o, ho⟩ := mem_keys.1 hm
      have hlt := lt_of_heap (hS.own _ _ ho)
      exact absurd hlt (Nat.lt_irrefl _)
  · refine ⟨by simp, hcap, hsz, ?_, .inr (by simp only [hsz]; exact Nat.le_refl _)⟩
    have e1 : (s.data.map fun b => Value.int .u8 b.toNat).toList = byteC s.data.toList := by simp [byteC]
    have e2 : (byteC s.data.toList).length = s.size := by rw [byteC_len]; rfl
    simp only [Lib.bytesCells, Array.toList_append]
    rw [e1, ← e2, List.take_left]
theorem Runs.appendB {t tx e : TypeId} {V : VB} {u : Value} {m : Nat} {bs news : List UInt8} (k : Nat) (hu : P.underlying t = some (.slice e)) (he : Elem P e 1 (.int .u8 0) 1)
    (hx : ev E x = some V.val) (hy : ev E y = some u) (hV : V.Is bs) (hk : L[k]? = some (some (V.blk, V.obj e))) (hn : News P I L 1 tx u m (byteC news)) (hb : bs.length + m ≤ 140737488355328) :
    Runs P { dst, op := .call { callee := .builtin .append, args := #[x, y], argTypes := #[t, tx] }, type := ty, pos, after, guard } E I L
      (fun r I' L' => ∃ V' : VB, r = V'.val ∧ I' = I ∧ L' = L.set k (some (V'.blk, V'.obj e)) ∧ V'.Is (bs ++ news)) := by
  intro K n ds a w hH hS
  obtain ⟨i, hi, hsz, hz, hby⟩ := he.info
  have hsrc := hn.src hS
  have hnl : news.length = m := by have := hsrc.newsLen; rw [byteC_len] at this; omega
  have hrun : (execOp a.eval { dst, op := .call { callee := .builtin .append, args := #[x, y], argTypes := #[t, tx] }, type := ty, pos, after, guard }).run P w
      = ((Builtin.append_ #[t, tx] ty #[V.val, u]).run P w).andThen fun v w' => .ok (.value v) w' := by
    simp [execOp, hH.ev hx, hH.ev hy, resolve, invoke, builtin]
  have hheap := hS.own V.blk (V.obj e) (List.mem_of_getElem? hk)
  have hcl : (byteC bs).length = V.len := by rw [byteC_len, hV.len]
  by_cases hg : V.len + m ≤ V.cap
  · have hst := run_storeCells_atG P V.blk V.len e V.fr (byteC news) 0 V.c w hheap (fun q hq => by
      rw [byteC_len] at hq
      rcases hV.free with h | h
      · rw [h]; simp
      · omega) (by rw [byteC_len, hV.size]; omega) (byteC_one _)
    simp only [Nat.add_zero] at hst
    let c' : Array Value := (V.c.toList.take V.len ++ byteC news ++ V.c.toList.drop (V.len + (byteC news).length)).toArray
    refine ⟨.slice (some ⟨V.blk, 0, none⟩) (V.len + m) V.cap, w.setRow V.blk c', I, _, .inl ?_, hS.setRow (e := e) (c := V.c) (fr := V.fr) hk, ⟨V.blk, c', V.fr, V.len + m, V.cap⟩, rfl, rfl, rfl, ?_⟩
    · have hl := hsrc.len w
      rw [hrun]
      rcases hsrc.kind with ⟨e', hk'⟩ | hk' <;> simp [Builtin.append_, VB.val, run_underlying hu, run_underlying hk', run_sizeOf he.size, hl, hg, hsrc.cells, add_plain, hst, c']
    · have hlt : (V.c.toList.take V.len).length = V.len := by rw [hV.cells]; exact hcl
      have hs := hV.size
      refine ⟨by simp [hV.len, hnl], hg, ?_, ?_, hV.free⟩
      · simp only [c', List.size_toArray, List.length_append, hlt, List.length_drop, Array.length_toList, byteC_len]; omega
      · show List.take (V.len + m) c'.toList = _
        simp only [c']
        rw [List.take_append_of_le_length (by rw [List.length_append, hlt, byteC_len]; omega), hV.cells, byteC_append]
        exact List.take_of_length_le (by rw [List.length_append, byteC_len, byteC_len]; have := hV.len; omega)
  · have hrd : Readable I L (some ⟨V.blk, 0, none⟩) (byteC bs) := .inr (.inr ⟨V.blk, 0, rfl, fun j v hj => ⟨V.c, e, V.fr, List.mem_of_getElem? hk, by
      rw [← hV.cells, List.getElem?_take] at hj
      split at hj
      · simpa using hj
      · cases hj⟩⟩)
    have hold := hrd.first (P := P) hS.drew i.size V.len V.len V.cap (by rw [hsz, hcl]; omega)
    have hgr := run_append_grow_src w t tx ty e i _ hu hi hz (some ⟨V.blk, 0, none⟩) V.len V.cap (byteC bs) hold u m (byteC news) (by rw [hsz]; exact hsrc) (by omega) (by have := hV.len; omega) (growslice_fits (by omega) (by rw [hby]; have := hV.len; omega))
    have hcap := grownCap_le w (V.len + m) V.cap e
    generalize grownCap w (V.len + m) V.cap e = cap' at hgr hcap
    refine ⟨_, _, I, _, .inl (by rw [hrun]; show (Result.andThen ((Builtin.append_ #[t, tx] ty #[.slice (some ⟨V.blk, 0, none⟩) V.len V.cap, u]).run P w) _) = _; rw [hgr]; rfl), hS.drew.renew hk rfl, ⟨w.heap.size, (byteC bs ++ byteC news).toArray ++ Builtin.zeroCells (Value.int .u8 0).cells (cap' - (V.len + m)), (0, 0), V.len + m, cap'⟩, rfl, rfl, rfl, ?_⟩
    have hcl2 : (byteC bs ++ byteC news).length = V.len + m := by rw [List.length_append, hcl, byteC_len, hnl]
    refine ⟨by simp [hV.len, hnl], hcap, ?_, ?_, .inl rfl⟩
    · simp only [Array.size_append, List.size_toArray, hcl2, Builtin.zeroCells, Array.size_map, Array.size_range, Value.cells]
      simp; omega
    · show List.take (V.len + m) _ = _
      rw [Array.toList_append, List.take_append_of_le_length (by show _ ≤ (byteC bs ++ byteC news).length; omega), byteC_append]
      show List.take _ (byteC bs ++ byteC news) = _
      exact List.take_of_length_le (by omega)
/-- bytes that can be read, as a string -/
theorem Reads.to_string {src d e : TypeId} {p : Option Addr} {n c : Nat} {bs : List UInt8} (hs : P.underlying src = some (.slice e)) (he : P.underlying e = some (.int .u8)) (hd : P.underlying d = some .string) (hx : ev E x = some (.slice p n c)) (hn : n = bs.length) (hr : Readable I L p (byteC bs)) :
    Reads P ⟨dst, .convert src d x, ty, pos, after, guard⟩ E I L (.string ⟨bs.toArray⟩) :=
  fun _ _ _ a w hH hS => by
    subst hn
    have h1 := run_convert_bytes_string (P := P) w src d e p bs.length c hs he hd
    have h2 := hr.first (P := P) hS 1 bs.length bs.length c (by rw [byteC_len]; omega)
    have key : ∀ (l : List UInt8) (acc : ByteArray), (l.map fun b => ((b.toNat : Nat) : Int)).foldl (fun r n => r.push (UInt8.ofNat n.toNat)) acc = ⟨acc.data ++ l.toArray⟩ := by
      intro l
      induction l with
      | nil => intro acc; simp
      | cons b l ih =>
        intro acc
        simp only [List.map_cons, List.foldl_cons, ih]
        apply ByteArray.ext
        simp [ByteArray.push]
    cases p with
    | none =>
      have hz : bs = [] := by
        rcases hr with h | h | ⟨_, _, h, _⟩
        · exact List.map_eq_nil_iff.1 h
        · cases bs with
          | nil => rfl
          | cons b bs => obtain ⟨_, _, _, _, _, h, _⟩ := h 0 _ rfl; cases h
        · cases h
      subst hz
      simp only [execOp, hH.ev hx, Sem.run_bind, h1, Conv.bytesToString, Sem.run_pure, Result.andThen_ok]; rfl
    | some A =>
      have h3 := run_bytesToString (P := P) w A bs.length c (bs.map fun b => ((b.toNat : Nat) : Int)) (by
        rw [show (bs.map fun b => ((b.toNat : Nat) : Int)).map (Value.int .u8) = byteC bs by simp [byteC]]
        simpa [Builtin.firstCells] using h2)
      simp only [execOp, hH.ev hx, Sem.run_bind, h1, h3, key, Sem.run_pure, Result.andThen_ok]
      congr 2
      simp
end
section
variable {P : Program} {r : Option Nat} {K : World} {n : Nat} {ds : List Deferred} {ops : Array Oper} {Q : Exit → Act → World → Prop} {l : List Oper} {last : Option Nat} {σ : Sched}
  {E : Env} {I : Im} {L Lf Ls : Own} {d : Tmp} {op : Op} {ty : TypeId} {pos : String} {after : Array Edge} {g : Option (Nat × Bool)} {v : Value}
theorem XO.to_bytes {src dt e : TypeId} {x : Operand} {s : ByteArray} (hw : Wants ops ⟨some d, .convert src dt x, ty, pos, after, g⟩ E true) (hd : Nat.ble (d + 1) n = true) (hs : P.underlying src = some .string) (hdt : P.underlying dt = some (.slice e)) (he : P.underlying e = some (.int .u8)) (hx : ev E x = some (.string s))
    (hk : ∀ V : VB, V.Is s.data.toList → XO P r K n ds ops Q l ((d, V.val) :: E) I (some (V.blk, V.obj e) :: L)) : XO P r K n ds ops Q (⟨some d, .convert src dt x, ty, pos, after, g⟩ :: l) E I L :=
  XO.e hw hd (Runs.step rfl (Runs.to_bytes hs hdt he hx)) (by rintro u I' L' ⟨V, rfl, rfl, rfl, h⟩; exact hk V h)
theorem XO.appendB {t tx e : TypeId} {x y : Operand} {V : VB} {u : Value} {m : Nat} {bs news : List UInt8} (k : Nat) (hw : Wants ops ⟨some d, .call { callee := .builtin .append, args := #[x, y], argTypes := #[t, tx] }, ty, pos, after, g⟩ E true)
    (hd : Nat.ble (d + 1) n = true) (hu : P.underlying t = some (.slice e)) (he : Elem P e 1 (.int .u8 0) 1)
    (hx : ev E x = some V.val) (hy : ev E y = some u) (hV : V.Is bs) (hL : L[k]? = some (some (V.blk, V.obj e))) (hn : News P I L 1 tx u m (byteC news)) (hb : bs.length + m ≤ 140737488355328)
    (hk : ∀ V' : VB, V'.Is (bs ++ news) → XO P r K n ds ops Q l ((d, V'.val) :: E) I (L.set k (some (V'.blk, V'.obj e)))) :
    XO P r K n ds ops Q (⟨some d, .call { callee := .builtin .append, args := #[x, y], argTypes := #[t, tx] }, ty, pos, after, g⟩ :: l) E I L :=
  XO.e hw hd (Runs.step rfl (Runs.appendB k hu he hx hy hV hL hn hb)) (by rintro r I' L' ⟨V', rfl, rfl, rfl, h⟩; exact hk V' h)
/-- bytes that are written no more -/
theorem XO.bytes_done {V : VB} {e : TypeId} {bs : List UInt8} (hV : V.Is bs) (hk : ∀ I', I.le I' → Arr I' (some ⟨V.blk, 0, none⟩) bs → XO P r K n ds ops Q l E I' L) : XO P r K n ds ops Q l E I (some (V.blk, V.obj e) :: L) :=
  XO.give (fun hb => hk _ (Im.le_add hb) (Arr.of_add hb hV.cells (flat_byte _ _)))
end
end Go.Xe
