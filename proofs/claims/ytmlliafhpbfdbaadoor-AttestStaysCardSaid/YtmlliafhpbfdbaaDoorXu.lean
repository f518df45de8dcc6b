/- Builders of strings that lie inside other structs: over the small logic of XXe. No program is named here. -/
import Derived.Test.YtmlliafhpbfdbaaDoorXq
import Derived.Lib.Builder
import Derived.Lib.UnsafeStr
import Derived.Laws.Externs
namespace Go.Xe
open Go Go.RowKit
section
variable {P : Program} {dst : Option Tmp} {ty : TypeId} {pos : String} {after : Array Edge} {guard : Option (Nat × Bool)} {E : Env} {I : Im} {L : Own} {x y : Operand}
theorem Reads.ptr_nil_nil {t yt e : TypeId} (hu : P.underlying t = some (.pointer e)) (hx : ev E x = some (.pointer none)) (hy : ev E y = some (.pointer none)) :
    Reads P ⟨dst, .binOp .eql t x y yt, ty, pos, after, guard⟩ E I L (.bool true) :=
  fun _ _ _ a w hH _ => by
    have h : (Op.equal t (.pointer none) (.pointer none)).run P w = .ok true w := by
      unfold Op.equal
      rw [show Op.maxDepth = (Op.maxDepth - 1) + 1 from rfl]
      unfold Op.equalIn
      simp [run_under hu]
    simp [execOp, hH.ev hx, hH.ev hy, binOp, eqGuard, h]
theorem Reads.ptr_ne_same {t yt e : TypeId} {j : TypeInfo} {q : Addr} (hu : P.underlying t = some (.pointer e)) (hj : P.info? e = some j) (hx : ev E x = some (.pointer (some q))) (hy : ev E y = some (.pointer (some q))) :
    Reads P ⟨dst, .binOp .neq t x y yt, ty, pos, after, guard⟩ E I L (.bool false) :=
  fun _ _ _ a w hH _ => by
    have h := Lib.run_neq_ptr_same (P := P) w q hu hj
    simp only [execOp, hH.ev hx, hH.ev hy, eqGuard]
    simp [h]
theorem shape_of {w : World} {b : Nat} {c : Array Value} {e : TypeId} {fr : Nat × Nat} (h : w.heap[b]? = some (.cells c e fr)) : w.shape? b = some (e, c.size) := by simp [World.shape?, h]
theorem Reads.to_unsafe {src d t e : TypeId} {j : TypeInfo} {b o : Nat} {c : Array Value} {fr : Nat × Nat} (hs : P.underlying src = some (.pointer t)) (hd : P.underlying d = some .unsafePointer) (ht : P.info? t = some j) (hj : (j.size == 0) = false)
    (hx : ev E x = some (.pointer (some ⟨b, o, none⟩))) (hm : some (b, Obj.cells c e fr) ∈ L) (ho : o < c.size) : Reads P ⟨dst, .convert src d x, ty, pos, after, guard⟩ E I L (.pointer (some ⟨b, o, none⟩)) :=
  fun _ _ _ a w hH hS => by
    have h := Lib.run_to_unsafe (P := P) w ⟨b, o, none⟩ hs hd ht (by simpa using hj) (shape_of (hS.own _ _ hm)) ho
    simp [execOp, hH.ev hx, h]
theorem Reads.from_unsafe {src d u e : TypeId} {j : TypeInfo} {b o : Nat} {c : Array Value} {fr : Nat × Nat} (hs : P.underlying src = some .unsafePointer) (hd : P.underlying d = some (.pointer u)) (hu : P.info? u = some j)
    (hx : ev E x = some (.pointer (some ⟨b, o, none⟩))) (hm : some (b, Obj.cells c e fr) ∈ L) (hl : liesAt P P.depth e (c.size / P.cellsOf e) o u 1 = true) : Reads P ⟨dst, .convert src d x, ty, pos, after, guard⟩ E I L (.pointer (some ⟨b, o, none⟩)) :=
  fun _ _ _ a w hH hS => by
    have h := Lib.run_from_unsafe (P := P) w ⟨b, o, none⟩ hs hd hu (shape_of (hS.own _ _ hm)) hl
    simp [execOp, hH.ev hx, h]
theorem Reads.outer {f : FuncId} {fn : Func} {e : Array Value → Sem Value} {args : List Operand} {tys : Array TypeId} {vs : List Value} {v : Value} (hf : P.funcs[f]? = some fn) (hname : (fn.name == "runtime.NumGoroutine") = false) (hb : fn.body.isNone = true) (hn : Extern.findNext fn = none) (he : Extern.find fn = some e)
    (hargs : EvalsTo E args vs) (hr : ∀ w, (e vs.toArray).run P w = .ok v w) : Reads P ⟨dst, .call { callee := .value (.func f), args := args.toArray, argTypes := tys }, ty, pos, after, guard⟩ E I L v :=
  fun _ _ _ a w hH _ => by
    have hm : (args.toArray.map a.eval) = vs.toArray := by rw [List.map_toArray, EvalsTo.map hH hargs]
    have hfo : a.eval (.func f) = .func (.func f) #[] #[] := hH.ev rfl
    have h := run_callFunc_extern hf hname hb hn he vs.toArray w
    rw [hr] at h
    simp only [execOp, resolve, Deferred.ofValue, hfo, hm, Sem.run_bind, Sem.run_pure, Result.andThen_ok, invoke]
    rw [show (#[] ++ vs.toArray ++ #[] : Array Value) = vs.toArray by simp, h]
    simp
/-- the bytes' address -/
theorem Reads.slice_data {t : TypeId} {a : Addr} {n c : Nat} (hx : ev E x = some (.slice (some a) n c)) (hc : c ≠ 0) : Reads P ⟨dst, .call { callee := .builtin .unsafeSliceData, args := #[x], argTypes := #[t] }, ty, pos, after, guard⟩ E I L (.pointer (some a)) :=
  fun _ _ _ a' w hH _ => by
    have h := Lib.run_unsafeSliceData_row (P := P) (w := w) #[t] ty a n c hc
    simp [execOp, resolve, invoke, builtin, hH.ev hx, h]
theorem Sat.freeze {K w : World} {g n : Nat} {o : Obj} (h : Sat K w I (some (g, o) :: L)) : Sat K (w.freeze ⟨g, 0, none⟩ n) I L := by
  have hL : Sat K w I L := h.drop (List.sublist_cons_self _ _)
  have hg : g ∉ keys L := (List.nodup_cons.1 h.nodup).1
  have hI : I g = none := h.apart g o (List.mem_cons_self ..)
  unfold World.freeze
  split
  · exact hL
  · have hk : ∀ b, b ≠ g → (w.heap.modify g fun | .cells c elem (lo, hi) => Obj.cells c elem (if lo == hi then (0, 0 + n) else (min lo 0, max hi (0 + n))) | o => o)[b]? = w.heap[b]? := fun b hb => by
      rw [Array.getElem?_modify]; rw [if_neg (fun e => hb e.symm)]
    refine ⟨hL.os, hL.tape, hL.output, fun b ob hb => ?_, fun b ob hb => ?_, hL.nodup, hL.apart⟩
    · have hne : b ≠ g := fun e => by subst e; rw [hI] at hb; cases hb
      exact (hk b hne).trans (hL.im b ob hb)
    · have hne : b ≠ g := fun e => by subst e; exact hg (mem_keys.2 ⟨ob, hb⟩)
      exact (hk b hne).trans (hL.own b ob hb)
/-- bytes, taken as a string: the buffer is let go -/
theorem Runs.take_string {pt it e : TypeId} {g : Nat} {c : Array Value} {fr : Nat × Nat} {l : List UInt8} (k : Nat) (hp : P.underlying pt = some (.pointer e)) (hc : P.cellsOf e = 1) (hx : ev E x = some (.pointer (some ⟨g, 0, none⟩))) (hy : ev E y = some (.int .i64 l.length))
    (h0 : l ≠ []) (h63 : l.length ≤ 9223372036854775807) (hk : L[k]? = some (some (g, Obj.cells c e fr))) (hcs : c.toList.take l.length = l.map fun b => Value.int .u8 (b.toNat : Nat)) :
    Runs P ⟨dst, .call { callee := .builtin .unsafeString, args := #[x, y], argTypes := #[pt, it] }, ty, pos, after, guard⟩ E I L (fun u I' L' => u = .string ⟨l.toArray⟩ ∧ I' = I ∧ L' = L.eraseIdx k) := by
  intro K n ds a w hH hS
  have hS2 := hS.perm (perm_front hk)
  have hg := hS2.own g _ (List.mem_cons_self ..)
  have hlen : l.length ≤ c.size := by
    have := congrArg List.length hcs
    simp at this; omega
  have hrun := Lib.run_unsafeString_row (P := P) w pt it ty e hp hc g c.size (shape_of hg) l h0 hlen h63 (fun j b hj => by
    have h1 : (c.toList.take l.length)[j]? = some (.int .u8 (b.toNat : Nat)) := by rw [hcs]; simp [hj]
    have hjl : j < l.length := (List.getElem?_eq_some_iff.1 hj).1
    rw [List.getElem?_take, if_pos hjl] at h1
    rw [add_plain, Nat.zero_add]
    simpa [World.cell?, hg] using h1)
  refine ⟨_, _, I, _, .inl ?_, hS2.freeze (n := l.length), rfl, rfl, rfl⟩
  simp [execOp, resolve, invoke, builtin, hH.ev hx, hH.ev hy, hrun]
end
section
variable {P : Program} {r : Option Nat} {K : World} {n : Nat} {ds : List Deferred} {ops : Array Oper} {Q : Exit → Act → World → Prop} {last : Option Nat} {σ : Sched} {E : Env} {I : Im} {L Ls : Own}
variable {d : Tmp} {ty : TypeId} {pos : String} {after : Array Edge} {g : Option (Nat × Bool)}
theorem XR.take_string {i : Nat} {pt it e : TypeId} {x y : Operand} {g' : Nat} {c : Array Value} {fr : Nat × Nat} {l : List UInt8} (k : Nat) (ho : ops[i]? = some ⟨some d, .call { callee := .builtin .unsafeString, args := #[x, y], argTypes := #[pt, it] }, ty, pos, after, g⟩)
    (hw : Wants ops ⟨some d, .call { callee := .builtin .unsafeString, args := #[x, y], argTypes := #[pt, it] }, ty, pos, after, g⟩ E true) (hd : Nat.ble (d + 1) n = true)
    (hp : P.underlying pt = some (.pointer e)) (hc : P.cellsOf e = 1) (hx : ev E x = some (.pointer (some ⟨g', 0, none⟩))) (hy : ev E y = some (.int .i64 l.length))
    (h0 : l ≠ []) (h63 : l.length ≤ 9223372036854775807) (hk : L[k]? = some (some (g', Obj.cells c e fr))) (hcs : c.toList.take l.length = l.map fun b => Value.int .u8 (b.toNat : Nat)) (hsub : Ls.Sublist (L.eraseIdx k))
    (hk2 : XR P r K n ds ops Q last σ ((d, .string ⟨l.toArray⟩) :: E) I (L.eraseIdx k) Ls) : XR P r K n ds ops Q last (.eff i σ) E I L Ls :=
  XR.e ho hw hd (Runs.step rfl (Runs.take_string k hp hc hx hy h0 h63 hk hcs)) (by rintro v I' L' ⟨rfl, rfl, rfl⟩; exact ⟨Im.le_refl _, .inr hsub, hk2⟩)
end
section
variable {P : Program} {fn : Func} {K : World} {n : Nat} {E : Env} {I I₀ : Im} {L Lf : Own} {Post : Value → Im → Own → Prop}
theorem load_whole_at {w : World} {b m : Nat} {c : Array Value} (hS : Sat K w I L) (hc : WholeAt L b c) (hm : c.size = m) : (loadCells ⟨b, 0, none⟩ m).run P w = .ok c w := by
  obtain ⟨e, fr, hmem⟩ := hc
  have hl := run_loadCells_list (P := P) w ⟨b, 0, none⟩ c.toList (fun j v hj => by rw [add_plain]; exact hS.ownAt ⟨c, e, fr, hmem, by simpa using hj⟩)
  have hsz : c.toList.length = m := by simpa using hm
  rw [hsz] at hl
  simpa using hl
end
end Go.Xe
namespace Go.Xe
open Go Go.RowKit
section
variable {P : Program} {fn : Func} {K : World} {n : Nat} {E : Env} {I I₀ : Im} {L Lf : Own} {Post : Value → Im → Own → Prop}
/-- two results: a struct in a cell, a value -/
theorem XQ.done2ca {t u : Tmp} {tt : TypeId} {b m : Nat} {c : Array Value} {x : Value} (L0 : Own) (k : Nat) (hr : fn.results = #[.cell t tt, .tmp u]) (ht : kindOf P tt = some true) (hs : szOf P tt = some m) (hv : find E t = some (.pointer (some ⟨b, 0, none⟩))) (hx : find E u = some x)
    (hc : WholeAt L b c) (hm : c.size = m) (hL : L.drop k = L0 ++ Lf) (hI : I₀.le I) (hP : Post (.tuple #[.agg c, x]) I L0) : XQ K n [] (bodyPost P fn (RetPost K I₀ Lf Post)) .ret E I L := fun a w hH hS =>
  ⟨hH.defers, .tuple #[.agg c, x], by
    have hl := load_whole_at (P := P) hS hc hm
    simp [results, hr, hH.slot t _ hv, hH.slot u _ hx, asAddr, loadVar, run_isAgg ht, run_sizeOf hs, hl], _, I, L0, rfl, hI, by rw [← hL]; exact hS.drop (List.drop_sublist k L), hP⟩
/-- two results: a value in a cell, a struct in a cell -/
theorem XQ.done2cc {t u : Tmp} {tt tu : TypeId} {b bu m : Nat} {c : Array Value} {v : Value} (L0 : Own) (k : Nat) (hr : fn.results = #[.cell t tt, .cell u tu]) (ht : kindOf P tt = some false) (hu : kindOf P tu = some true) (hs : szOf P tu = some m) (hv : find E t = some (.pointer (some ⟨b, 0, none⟩))) (hx : find E u = some (.pointer (some ⟨bu, 0, none⟩)))
    (hvc : OwnAt L b 0 v) (hc : WholeAt L bu c) (hm : c.size = m) (hL : L.drop k = L0 ++ Lf) (hI : I₀.le I) (hP : Post (.tuple #[v, .agg c]) I L0) : XQ K n [] (bodyPost P fn (RetPost K I₀ Lf Post)) .ret E I L := fun a w hH hS =>
  ⟨hH.defers, .tuple #[v, .agg c], by
    have h1 := run_loadCell (P := P) ht hS hvc
    have hl := load_whole_at (P := P) hS hc hm
    have h2 : (loadVar tu ⟨bu, 0, none⟩).run P w = .ok (.agg c) w := by simp [loadVar, run_isAgg hu, run_sizeOf hs, hl]
    simp [results, hr, hH.slot t _ hv, hH.slot u _ hx, asAddr, h1, h2], _, I, L0, rfl, hI, by rw [← hL]; exact hS.drop (List.drop_sublist k L), hP⟩
end
end Go.Xe
namespace Go.Xe
open Go Go.RowKit
section
variable {P : Program} {dst : Option Tmp} {ty : TypeId} {pos : String} {after : Array Edge} {guard : Option (Nat × Bool)} {E : Env} {I : Im} {L : Own} {x y : Operand}
theorem run_bits_i {op : BinOp} {w : World} {m n : Nat} (hm : m < 9223372036854775808) (hn : n < 9223372036854775808) :
    (op = .and → (Op.intBits op .i64 (m : Int) (n : Int)).run P w = .ok (.int .i64 ((m &&& n : Nat) : Int)) w) ∧ (op = .or → (Op.intBits op .i64 (m : Int) (n : Int)).run P w = .ok (.int .i64 ((m ||| n : Nat) : Int)) w) := by
  have hb : IntKind.i64.bits = 64 := rfl
  have h1 : m % 2 ^ 64 = m := Nat.mod_eq_of_lt (by omega)
  have h2 : n % 2 ^ 64 = n := Nat.mod_eq_of_lt (by omega)
  refine ⟨fun h => ?_, fun h => ?_⟩ <;> subst h <;> simp only [Op.intBits, BitVec.ofInt_natCast, BitVec.toNat_and, BitVec.toNat_or, BitVec.toNat_ofNat, hb, h1, h2, Sem.run_pure]
  · have h3 : m &&& n < 2 ^ 63 := Nat.and_lt_two_pow _ (by omega)
    rw [wrap_in (by omega)]
  · have h3 : m ||| n < 2 ^ 63 := Nat.or_lt_two_pow (by omega) (by omega)
    rw [wrap_in (by omega)]
theorem Reads.iand {xt yt : TypeId} {m n : Nat} (hx : ev E x = some (.int .i64 (m : Int))) (hy : ev E y = some (.int .i64 (n : Int))) (hm : m < 9223372036854775808) (hn : n < 9223372036854775808) :
    Reads P ⟨dst, .binOp .and xt x y yt, ty, pos, after, guard⟩ E I L (.int .i64 ((m &&& n : Nat) : Int)) :=
  fun _ _ _ a w hH _ => by simp [execOp, hH.ev hx, hH.ev hy, binOp, eqGuard, (run_bits_i (P := P) (op := .and) (w := w) hm hn).1 rfl]
theorem Reads.ior {xt yt : TypeId} {m n : Nat} (hx : ev E x = some (.int .i64 (m : Int))) (hy : ev E y = some (.int .i64 (n : Int))) (hm : m < 9223372036854775808) (hn : n < 9223372036854775808) :
    Reads P ⟨dst, .binOp .or xt x y yt, ty, pos, after, guard⟩ E I L (.int .i64 ((m ||| n : Nat) : Int)) :=
  fun _ _ _ a w hH _ => by simp [execOp, hH.ev hx, hH.ev hy, binOp, eqGuard, (run_bits_i (P := P) (op := .or) (w := w) hm hn).2 rfl]
end
end Go.Xe
namespace Go.Xe
open Go Go.RowKit
/-- a cell, in memory that stays or in what is owned -/
def AtR (I : Im) (L : Own) (a : Option Addr) (k : Nat) (v : Value) : Prop := At I a k v ∨ ∃ b o, a = some ⟨b, o, none⟩ ∧ OwnAt L b (o + k) v
theorem OwnAt.sub {L L' : Own} {b k : Nat} {v : Value} (h : OwnAt L b k v) (hs : ∀ x, x ∈ L → x ∈ L') : OwnAt L' b k v := let ⟨c, e, fr, h1, h2⟩ := h; ⟨c, e, fr, hs _ h1, h2⟩
theorem AtR.sub {I : Im} {L L' : Own} {a : Option Addr} {k : Nat} {v : Value} (h : AtR I L a k v) (hs : ∀ x, x ∈ L → x ∈ L') : AtR I L' a k v := h.elim .inl fun ⟨b, o, h1, h2⟩ => .inr ⟨b, o, h1, h2.sub hs⟩
section
variable {P : Program} {dst : Option Tmp} {ty : TypeId} {pos : String} {after : Array Edge} {guard : Option (Nat × Bool)} {E : Env} {I : Im} {L : Own} {x y : Operand}
theorem Reads.load_agg_rd {t : TypeId} {p : Option Addr} {k : Nat} {vs : List Value} (hk : kindOf P t = some true) (hs : szOf P t = some vs.length) (hx : ev E x = some (.pointer (slot p k)))
    (hp : ∃ b o, p = some ⟨b, o, none⟩) (hc : ∀ j v, vs[j]? = some v → AtR I L p (k + j) v) : Reads P { dst, op := .load t x, type := ty, pos, after, guard } E I L (.agg vs.toArray) :=
  fun _ _ _ a w hH hS => by
    obtain ⟨b, o, rfl⟩ := hp
    have hl := run_loadCells_list (P := P) w ⟨b, o + k, none⟩ vs (fun j v hj => by
      rw [add_plain]
      rcases hc j v hj with h | ⟨b', o', h1, h2⟩
      · have := hS.cellAt h
        rw [show o + k + j = o + (k + j) by omega]; exact this
      · cases h1
        rw [show o + k + j = o + (k + j) by omega]; exact hS.ownAt h2)
    rw [slot_some] at hx
    simp [execOp, hH.ev hx, Instr.loadAt, Instr.sureAddr, loadVar, run_isAgg hk, run_sizeOf hs, hl]
end
end Go.Xe
namespace Go.Xe
open Go Go.RowKit
section
variable {P : Program} {f : FuncId} {args : List Value} {I : Im} {L : Own} {Post : Value → Im → Own → Prop}
theorem FSo.frame {R : Own} (h : FSo P f args I L Post) : FSo P f args I (L ++ R) (fun u I' L' => ∃ L1, L' = L1 ++ R ∧ Post u I' L1) := fun K w Lf hS =>
  (h K w (R ++ Lf) (by rw [← List.append_assoc]; exact hS)).mono fun _ _ ⟨v, I', L', he, hi, hs, hq⟩ => ⟨v, I', L' ++ R, he, hi, by rw [List.append_assoc]; exact hs, L', rfl, hq⟩
theorem FSo.permOut {Post' : Value → Im → Own → Prop} (h : FSo P f args I L Post) (hp : ∀ u I' L', Post u I' L' → ∃ M, L'.Perm M ∧ Post' u I' M) : FSo P f args I L Post' := fun K w Lf hS =>
  (h K w Lf hS).mono fun _ _ ⟨v, I', L', he, hi, hs, hq⟩ => by
    obtain ⟨M, hM, hp'⟩ := hp v I' L' hq
    exact ⟨v, I', M, he, hi, hs.perm (hM.append_right Lf), hp'⟩
/-- an owned slice is lent to a call that only reads it -/
theorem FSo.lend {V : Vec} {e : TypeId} (h : I.le (V.give e I) → (∀ b c, V.blk = some (b, c) → I b = none) → FSo P f args (V.give e I) L Post) : FSo P f args I (V.ent e :: L) (fun u I' L' => I' = I ∧ ∃ J L1, Post u J L1 ∧ L' = V.ent e :: L1) := by
  intro K w Lf hS
  obtain ⟨hS', hb'⟩ := (show Sat K w I (V.ent e :: (L ++ Lf)) from hS).give_vec
  have hle : I.le (V.give e I) := Vec.le_give hb'
  refine (h hle hb' K w Lf hS').mono fun _ w' ⟨v, I', L', he, hi, hs, hq⟩ => ?_
  refine ⟨v, I, V.ent e :: L', he, Im.le_refl _, ?_, rfl, I', L', hq, rfl⟩
  have h0 := hs.shrink (Im.le_trans hle hi)
  cases hbk : V.blk with
  | none =>
    have : V.ent e = Option.none := by simp [Vec.ent, hbk]
    rw [this]; exact h0.empty
  | some p =>
    obtain ⟨b, c⟩ := p
    have hent : V.ent e = some (b, .cells c e (0, 0)) := by simp [Vec.ent, hbk]
    have hg : V.give e I = I.add b (.cells c e (0, 0)) := by simp [Vec.give, hbk]
    have hbI : (V.give e I) b = some (.cells c e (0, 0)) := by rw [hg]; simp [Im.add]
    have hbI' := hi _ _ hbI
    rw [hent]
    refine h0.take (hs.im _ _ hbI') (hb' b c hbk) (fun hm => ?_)
    obtain ⟨o, ho⟩ := mem_keys.1 hm
    have := hs.apart _ _ ho
    rw [hbI'] at this; cases this
end
theorem cutA_vec {V : Vec} (m s : Nat) : cutA V.addr m 0 s = V.addr := by
  unfold cutA; split
  · rfl
  · unfold Vec.addr; cases V.blk <;> simp [add_plain]
theorem Vec.arr {α : Type} [Enc α] {V : Vec} {e : TypeId} {I : Im} {cs : List Value} {xs : List α} (hz : 0 < Enc.sz α) (hV : V.Is (Enc.sz α) cs) (h : Flat I cs xs) (hb : ∀ b c, V.blk = some (b, c) → I b = none) : V.len = xs.length ∧ Arr (V.give e I) V.addr xs := by
  obtain ⟨h1, h2⟩ := Vec.sl (e := e) hz hV h hb
  obtain ⟨a, c, hv, _, ha⟩ := h2.ex
  refine ⟨h1, ?_⟩
  have : V.addr = a := by
    have := hv
    simp only [Vec.val, Value.slice.injEq] at this
    exact this.1
  rw [this]; exact ha
end Go.Xe
namespace Go.Xe
open Go Go.RowKit
theorem FSo.lendA {P : Program} {f : FuncId} {args : List Value} {I : Im} {α : Type} [Enc α] {V : Vec} {e : TypeId} {cs : List Value} {xs : List α} {v : Value} (hz : 0 < Enc.sz α) (hV : V.Is (Enc.sz α) cs) (hf : Flat I cs xs)
    (h : ∀ J, I.le J → Arr J V.addr xs → FC P f args J (fun u I' => u = v ∧ I' = J)) : FSo P f args I [V.ent e] (fun u I' L' => u = v ∧ I' = I ∧ L' = [V.ent e]) :=
  (FSo.lend (L := []) (fun hle hb => h _ hle (Vec.arr hz hV hf hb).2)).mono fun u I' L' _ hq => by
    obtain ⟨rfl, J, L1, ⟨rfl, rfl, _⟩, rfl⟩ := hq
    exact ⟨rfl, rfl, rfl⟩
end Go.Xe
namespace Go.Xe
open Go Go.RowKit
section
variable {P : Program} {dst : Option Tmp} {ty : TypeId} {pos : String} {after : Array Edge} {guard : Option (Nat × Bool)} {E : Env} {I : Im} {L : Own} {x y : Operand}
theorem run_slice_eq {w : World} {t e : TypeId} {a : Option Addr} {n c : Nat} (hu : P.underlying t = some (.slice e)) : (Op.equal t (.slice a n c) (.slice none 0 0)).run P w = .ok a.isNone w := by
  unfold Op.equal
  rw [show Op.maxDepth = (Op.maxDepth - 1) + 1 from rfl]
  unfold Op.equalIn
  cases a <;> simp [run_under hu]
theorem Reads.slice_eqn {t yt e : TypeId} {a : Option Addr} {n c : Nat} (hu : P.underlying t = some (.slice e)) (hx : ev E x = some (.slice a n c)) (hy : ev E y = some (.slice none 0 0)) :
    Reads P ⟨dst, .binOp .eql t x y yt, ty, pos, after, guard⟩ E I L (.bool a.isNone) :=
  fun _ _ _ a' w hH _ => by simp [execOp, hH.ev hx, hH.ev hy, binOp, eqGuard, run_slice_eq hu]
theorem Reads.slice_nen {t yt e : TypeId} {a : Option Addr} {n c : Nat} (hu : P.underlying t = some (.slice e)) (hx : ev E x = some (.slice a n c)) (hy : ev E y = some (.slice none 0 0)) :
    Reads P ⟨dst, .binOp .neq t x y yt, ty, pos, after, guard⟩ E I L (.bool (!a.isNone)) :=
  fun _ _ _ a' w hH _ => by simp [execOp, hH.ev hx, hH.ev hy, binOp, eqGuard, run_slice_eq hu]
end
end Go.Xe
namespace Go.Xe
open Go Go.RowKit
section
variable {P : Program} {I : Im}
theorem News.arr {α : Type} [Enc α] {tx e' : TypeId} {a : Option Addr} {c : Nat} {xs : List α} (hu : P.underlying tx = some (.slice e')) (h : Arr I a xs) : ∃ cs, Flat I cs xs ∧ ∀ L, News P I L (Enc.sz α) tx (.slice a xs.length c) xs.length cs := by
  obtain ⟨cs, h1, h2⟩ := h.flat
  exact ⟨cs, h1, fun L => .slice hu (.inr (.inl h2)) h1.len h1.one⟩
end
section
variable {P : Program} {r : Option Nat} {K : World} {n : Nat} {ds : List Deferred} {ops : Array Oper} {Q : Exit → Act → World → Prop} {last : Option Nat} {σ : Sched}
  {E : Env} {I : Im} {L Ls : Own} {d : Tmp} {ty : TypeId} {pos : String} {after : Array Edge} {g : Option (Nat × Bool)}
theorem XR.makeSlice {i : Nat} {t e : TypeId} {x y : Operand} {m : Nat} {z : Value} {by_ : Nat} (ho : ops[i]? = some ⟨some d, .makeSlice t x y, ty, pos, after, g⟩)
    (hw : Wants ops ⟨some d, .makeSlice t x y, ty, pos, after, g⟩ E true) (hd : Nat.ble (d + 1) n = true) (hu : P.underlying t = some (.slice e)) (he : Elem P e 1 z by_) (h1 : z.oneCell' = true)
    (hx : ev E x = some (.int .i64 m)) (hy : ev E y = some (.int .i64 m)) (hb : m * by_ ≤ 281474976710656) (hn : m ≤ 9223372036854775807) (hsub : Ls.Sublist L)
    (hk : ∀ b, XR P r K n ds ops Q last σ ((d, .slice (some ⟨b, 0, none⟩) m m) :: E) I (some (b, .cells (List.replicate m z).toArray e (0, 0)) :: L) Ls) : XR P r K n ds ops Q last (.eff i σ) E I L Ls :=
  XR.e ho hw hd (Runs.step rfl (Runs.makeSlice hu he h1 hx hy hb hn)) (by rintro u I' L' ⟨b, rfl, rfl, rfl⟩; exact ⟨Im.le_refl _, .inr (hsub.cons _), hk b⟩)
end
end Go.Xe
