/- Maps, pointers, structs held against each other: over the small logic of XXe. No program is named here. -/
import Derived.Test.YtmlliafhpbfdbaaDoorXw
import Derived.MapKept
import Derived.Laws.StructEq
namespace Go.Xe
open Go Go.RowKit

/-! maps from integers to strings -/
abbrev KV := List (Int × ByteArray)
structure MapIs (es : Array MapEntry) (l : KV) : Prop where
  eq : es.toList.map (fun e => (e.key, e.val)) = l.map fun p => (Value.int .i64 p.1, Value.string p.2)
def lookI (k : Int) : KV → Nat → Option (Nat × ByteArray)
  | [], _ => none
  | (a, s) :: l, i => if k = a then some (i, s) else lookI k l (i + 1)
def look (k : Int) (l : KV) : Option ByteArray := (lookI k l 0).map (·.2)
def dele (k : Int) (l : KV) : KV := match lookI k l 0 with | some (i, _) => l.eraseIdx i | none => l
theorem MapIs.nil : MapIs #[] [] := ⟨rfl⟩
theorem findNow_int (k : Int) : ∀ (es : List MapEntry) (l : KV) (i : Nat), es.map (fun e => (e.key, e.val)) = l.map (fun p => (Value.int .i64 p.1, Value.string p.2)) →
    Instr.findNow (.int .i64) (.int .i64 k) es i = some ((lookI k l i).map fun p => (p.1, Value.string p.2))
  | [], [], i, _ => rfl
  | [], _ :: _, i, h => by simp at h
  | _ :: _, [], i, h => by simp at h
  | e :: es, (a, s) :: l, i, h => by
    simp only [List.map_cons, List.cons.injEq, Prod.mk.injEq] at h
    obtain ⟨⟨h1, h2⟩, h3⟩ := h
    have ih := findNow_int k es l (i + 1) h3
    have hs : Instr.sameNow (.int .i64) (.int .i64 k) e.key = some (k == a) := by rw [h1]; simp [Instr.sameNow]
    unfold Instr.findNow
    rw [hs]
    by_cases hka : k = a
    · subst hka; simp [lookI, h2]
    · have : (k == a) = false := by simp [hka]
      rw [this]; simp only [lookI, if_neg hka]; exact ih
theorem run_checkKey_int {P : Program} {w : World} {kt : TypeId} {k : Int} (hk : P.underlying kt = some (.int .i64)) (b : Bool) : (Instr.checkKey b 10000 kt (.int .i64 k)).run P w = .ok () w := by
  rw [show (10000 : Nat) = 9999 + 1 from rfl]
  unfold Instr.checkKey
  simp [run_under hk]
theorem run_findKey_int {P : Program} {w : World} {kt : TypeId} {k : Int} {es : Array MapEntry} {l : KV} (hk : P.underlying kt = some (.int .i64)) (h : MapIs es l) :
    (Instr.findKey kt (.int .i64 k) es.toList).run P w = .ok ((lookI k l 0).map fun p => (p.1, Value.string p.2)) w := by
  unfold Instr.findKey
  simp only [Sem.run_bind, run_under hk, Result.andThen_ok, findNow_int k _ _ 0 h.eq, Sem.run_pure]
section
variable {P : Program} {dst : Option Tmp} {ty : TypeId} {pos : String} {after : Array Edge} {guard : Option (Nat × Bool)} {E : Env} {I : Im} {L : Own} {x y z : Operand}
theorem Sat.getMap {K w : World} {b : Nat} {es : Array MapEntry} {ck : Nat} (hS : Sat K w I L) (h : some (b, Obj.map es ck) ∈ L) : (getObj b).run P w = .ok (.map es ck) w := MapKept.run_getObj_map (hS.own _ _ h)
theorem Reads.lookup {t kt et : TypeId} {b ck : Nat} {es : Array MapEntry} {l : KV} {k : Int} (hu : P.underlying t = some (.map kt et)) (hk : P.underlying kt = some (.int .i64)) (hz : zeroOf P et = some (.string ⟨#[]⟩))
    (hx : ev E x = some (.map (some b))) (hy : ev E y = some (.int .i64 k)) (hm : some (b, Obj.map es ck) ∈ L) (hes : MapIs es l) :
    Reads P ⟨dst, .lookup t x y true, ty, pos, after, guard⟩ E I L (.tuple #[.string ((look k l).getD ⟨#[]⟩), .bool (look k l).isSome]) :=
  fun _ _ _ a w hH hS => by
    have h1 := hS.getMap (P := P) hm
    have h2 := run_checkKey_int (P := P) (w := w) (k := k) hk es.isEmpty
    have h3 := run_findKey_int (P := P) (w := w) (k := k) hk hes
    have hres : (Instr.lookup t (.map (some b)) (.int .i64 k) true).run P w = .ok (.tuple #[.string ((look k l).getD ⟨#[]⟩), .bool (look k l).isSome]) w := by
      unfold Instr.lookup look
      simp only [Sem.run_bind, run_under hu, Result.andThen_ok, h1, Sem.run_pure, h2, h3]
      cases lookI k l 0 with
      | none => simp [run_zeroValue hz]
      | some p => simp
    simp only [execOp, hH.ev hx, hH.ev hy, Sem.run_bind, hres, Result.andThen_ok, Sem.run_pure]
theorem Sat.setMap {K w : World} {i b : Nat} {es : Array MapEntry} {ck : Nat} (o : Obj) (hS : Sat K w I L) (hi : L[i]? = some (some (b, .map es ck))) :
    (setObj b o).run P w = .ok () (w.putObj b o) ∧ Sat K (w.putObj b o) I (L.set i (some (b, o))) :=
  ⟨MapKept.run_setObj_map o (hS.own _ _ (List.mem_of_getElem? hi)), hS.putObj o hi⟩
theorem Runs.mapInsert {t kt et : TypeId} {b ck : Nat} {es : Array MapEntry} {l : KV} {k : Int} {s : ByteArray} (i : Nat) (hu : P.underlying t = some (.map kt et)) (hk : P.underlying kt = some (.int .i64))
    (hx : ev E x = some (.map (some b))) (hy : ev E y = some (.int .i64 k)) (hz : ev E z = some (.string s)) (hi : L[i]? = some (some (b, .map es ck))) (hes : MapIs es l) (hno : look k l = none) :
    Runs P ⟨dst, .mapUpdate t x y z, ty, pos, after, guard⟩ E I L (fun u I' L' => u = undef ∧ I' = I ∧ ∃ es' ck', L' = L.set i (some (b, .map es' ck')) ∧ MapIs es' (l ++ [(k, s)])) := by
  intro K n ds a w hH hS
  have h1 := hS.getMap (P := P) (List.mem_of_getElem? hi)
  have h2 := run_checkKey_int (P := P) (w := w) (k := k) hk false
  have h3 := run_findKey_int (P := P) (w := w) (k := k) hk hes
  have h0 : lookI k l 0 = none := by simpa [look] using hno
  rw [h0] at h3
  obtain ⟨h4, h5⟩ := hS.setMap (P := P) (.map (es.push { key := .int .i64 k, val := .string s, born := ck }) (ck + 1)) hi
  have hres : (Instr.mapUpdate t (.map (some b)) (.int .i64 k) (.string s)).run P w = .ok () (w.putObj b (.map (es.push { key := .int .i64 k, val := .string s, born := ck }) (ck + 1))) := by
    unfold Instr.mapUpdate
    simp only [Sem.run_bind, run_under hu, Result.andThen_ok, h1, h2, h3, Option.map_none, h4]
  refine ⟨undef, _, I, _, .inr ⟨?_, rfl⟩, h5, rfl, rfl, _, _, rfl, ⟨by simp [hes.eq]⟩⟩
  simp only [execOp, hH.ev hx, hH.ev hy, hH.ev hz, Sem.run_bind, hres, Result.andThen_ok, Sem.run_pure]
theorem map_erase {α β : Type} (f : α → β) : ∀ (l : List α) (i : Nat), (l.eraseIdx i).map f = (l.map f).eraseIdx i
  | [], _ => rfl
  | _ :: _, 0 => rfl
  | a :: l, i + 1 => by simp [map_erase f l i]
theorem lookI_bd {k : Int} : ∀ {l : KV} {i j : Nat} {s : ByteArray}, lookI k l i = some (j, s) → i ≤ j ∧ j < i + l.length
  | [], i, j, s, h => by simp [lookI] at h
  | (a, u) :: l, i, j, s, h => by
    simp only [lookI] at h
    split at h
    · simp only [Option.some.injEq, Prod.mk.injEq] at h; simp; omega
    · have := lookI_bd h; simp; omega
theorem Runs.mapDelete {t kt et u : TypeId} {b ck : Nat} {es : Array MapEntry} {l : KV} {k : Int} (i : Nat) (hu : P.underlying t = some (.map kt et)) (hk : P.underlying kt = some (.int .i64))
    (hx : ev E x = some (.map (some b))) (hy : ev E y = some (.int .i64 k)) (hi : L[i]? = some (some (b, .map es ck))) (hes : MapIs es l) :
    Runs P { dst, op := .call { callee := .builtin .delete, args := #[x, y], argTypes := #[t, u] }, type := ty, pos, after, guard } E I L (fun r I' L' => r = .tuple #[] ∧ I' = I ∧ ∃ es', L' = L.set i (some (b, .map es' ck)) ∧ MapIs es' (dele k l)) := by
  intro K n ds a w hH hS
  have h1 := hS.getMap (P := P) (List.mem_of_getElem? hi)
  have h2 := run_checkKey_int (P := P) (w := w) (k := k) hk es.isEmpty
  have h3 := run_findKey_int (P := P) (w := w) (k := k) hk hes
  cases hl : lookI k l 0 with
  | none =>
    rw [hl] at h3
    obtain ⟨h4, h5⟩ := hS.setMap (P := P) (.map es ck) hi
    have hres : (Builtin.delete_ #[t, u] ty #[.map (some b), .int .i64 k]).run P w = .ok (.tuple #[]) (w.putObj b (.map es ck)) := by
      unfold Builtin.delete_
      simp [run_under hu, h1, h2, h3, h4]
    refine ⟨.tuple #[], _, I, _, .inl ?_, h5, rfl, rfl, es, rfl, ⟨by rw [dele, hl]; exact hes.eq⟩⟩
    simp [execOp, hH.ev hx, hH.ev hy, resolve, invoke, builtin, hres]
  | some p =>
    obtain ⟨j, s⟩ := p
    rw [hl] at h3
    have hjl := lookI_bd hl
    have hsz : es.size = l.length := by have := congrArg List.length hes.eq; simpa using this
    obtain ⟨h4, h5⟩ := hS.setMap (P := P) (.map (es.eraseIdxIfInBounds j) ck) hi
    have hres : (Builtin.delete_ #[t, u] ty #[.map (some b), .int .i64 k]).run P w = .ok (.tuple #[]) (w.putObj b (.map (es.eraseIdxIfInBounds j) ck)) := by
      unfold Builtin.delete_
      simp [run_under hu, h1, h2, h3, h4]
    refine ⟨.tuple #[], _, I, _, .inl ?_, h5, rfl, rfl, _, rfl, ⟨?_⟩⟩
    · simp [execOp, hH.ev hx, hH.ev hy, resolve, invoke, builtin, hres]
    · have he : (es.eraseIdxIfInBounds j).toList = es.toList.eraseIdx j := by
        unfold Array.eraseIdxIfInBounds
        rw [dif_pos (by omega)]; simp
      rw [he, dele, hl]; show _ = (l.eraseIdx j).map _; rw [map_erase, hes.eq, map_erase]
theorem lookI_shift {k : Int} : ∀ (l : KV) (i : Nat), (lookI k l i).map (·.2) = (lookI k l 0).map (·.2)
  | [], _ => rfl
  | (a, s) :: l, i => by
    simp only [lookI]
    split
    · rfl
    · rw [lookI_shift l (i + 1), lookI_shift l (0 + 1)]
theorem look_nil (k : Int) : look k [] = none := rfl
theorem look_cons (k a : Int) (s : ByteArray) (l : KV) : look k ((a, s) :: l) = if k = a then some s else look k l := by
  unfold look
  simp only [lookI]
  split
  · rfl
  · rw [lookI_shift l (0 + 1)]
theorem look_snoc (k a : Int) (s : ByteArray) : ∀ (l : KV), look k (l ++ [(a, s)]) = match look k l with | some t => some t | none => if k = a then some s else none
  | [] => by rw [List.nil_append, look_cons, look_nil]
  | (c, t) :: l => by
    rw [List.cons_append, look_cons, look_cons]
    split
    · rfl
    · exact look_snoc k a s l
theorem look_none {k : Int} : ∀ {l : KV}, look k l = none ↔ k ∉ l.map Prod.fst
  | [] => by simp [look_nil]
  | (a, s) :: l => by
    rw [look_cons]
    by_cases h : k = a
    · simp [h]
    · simp only [List.map_cons, List.mem_cons, h, false_or]; exact look_none
theorem lookI_succ {k : Int} : ∀ (l : KV) (i : Nat), lookI k l (i + 1) = (lookI k l i).map fun p => (p.1 + 1, p.2)
  | [], _ => rfl
  | (a, s) :: l, i => by
    simp only [lookI]
    split
    · rfl
    · exact lookI_succ l (i + 1)
theorem dele_cons (k a : Int) (s : ByteArray) (l : KV) : dele k ((a, s) :: l) = if k = a then l else (a, s) :: dele k l := by
  unfold dele
  simp only [lookI]
  by_cases h : k = a
  · simp [h]
  · simp only [if_neg h]
    rw [lookI_succ l 0]
    cases lookI k l 0 <;> simp
theorem look_dele {k : Int} : ∀ {l : KV}, (l.map Prod.fst).Nodup → ∀ k', look k' (dele k l) = if k' = k then none else look k' l
  | [], _, k' => by simp [dele, lookI, look_nil]
  | (a, s) :: l, hn, k' => by
    simp only [List.map_cons, List.nodup_cons] at hn
    rw [dele_cons]
    by_cases h : k = a
    · subst h
      rw [if_pos rfl, look_cons]
      by_cases h' : k' = k
      · subst h'; simpa using look_none.2 hn.1
      · rw [if_neg h', if_neg h']
    · rw [if_neg h, look_cons, look_cons, look_dele hn.2 k']
      by_cases h' : k' = a
      · subst h'; simp [Ne.symm h]
      · rw [if_neg h', if_neg h']
theorem dele_sub (k : Int) (l : KV) : (dele k l).Sublist l := by
  unfold dele; split
  · exact List.eraseIdx_sublist _ _
  · exact List.Sublist.refl _
theorem dele_nodup {k : Int} {l : KV} (h : (l.map Prod.fst).Nodup) : ((dele k l).map Prod.fst).Nodup := h.sublist ((dele_sub k l).map _)
theorem snoc_nodup {k : Int} {s : ByteArray} {l : KV} (h : (l.map Prod.fst).Nodup) (hk : look k l = none) : ((l ++ [(k, s)]).map Prod.fst).Nodup := by
  rw [List.map_append, List.nodup_append]
  refine ⟨h, by simp, ?_⟩
  intro a ha b hb
  simp only [List.map_cons, List.map_nil, List.mem_singleton] at hb
  subst hb
  intro hab; subst hab
  exact look_none.1 hk ha
theorem Runs.makeMap {t : TypeId} : Runs P ⟨dst, .makeMap t none, ty, pos, after, guard⟩ E I L (fun u I' L' => ∃ b, u = .map (some b) ∧ I' = I ∧ L' = some (b, .map #[] 0) :: L) :=
  fun _ _ _ a w hH hS => ⟨_, _, I, _, .inl (by simp [execOp, Instr.makeMap]), hS.alloc (.map #[] 0), _, rfl, rfl, rfl⟩

theorem XQ.same {K : World} {n : Nat} {ds : List Deferred} {Q : Exit → Act → World → Prop} {e : Exit} {L' : Own} (he : L.filterMap id = L'.filterMap id) (h : XQ K n ds Q e E I L') : XQ K n ds Q e E I L := fun a w hH hS => h a w hH (hS.same he)

theorem slot_cut {a : Option Addr} {m l k : Nat} (h : m ≠ l) (hp : ∃ b o, a = some ⟨b, o, none⟩) : slot (cutA a m l 1) k = slot a (l + k) := by
  obtain ⟨b, o, rfl⟩ := hp
  simp [cutA, h, slot, add_plain, Nat.add_assoc]
theorem cut_isSome {a : Option Addr} {m l s : Nat} (h : a.isSome = true) : (cutA a m l s).isSome = true := by
  unfold cutA; split <;> simp [h]
theorem XR.yield {P : Program} {r : Option Nat} {K : World} {n : Nat} {ds : List Deferred} {ops : Array Oper} {Q : Exit → Act → World → Prop} {last : Option Nat} {σ : Sched} {E : Env} {I : Im} {L L1 Lf Ls : Own} {d : Tmp} {ty : TypeId} {pos : String} {after : Array Edge} {g : Option (Nat × Bool)}
    {i : Nat} {fo : Operand} {y : Nat} {args : List Operand} {tys : Array TypeId} {vs : List Value} {Post : Bool → Im → Own → Prop}
    (ho : ops[i]? = some ⟨some d, .call { callee := .value fo, args := args.toArray, argTypes := tys }, ty, pos, after, g⟩)
    (hw : Wants ops ⟨some d, .call { callee := .value fo, args := args.toArray, argTypes := tys }, ty, pos, after, g⟩ E true) (hd : Nat.ble (d + 1) n = true) (hfo : ev E fo = some (.func (.yield y) #[] #[])) (hargs : EvalsTo E args vs)
    (hc : YS P y vs I L1 Post) (hL : L.Perm (L1 ++ Lf))
    (hk : ∀ b I' L', I.le I' → Post b I' L' → (last = some i ∨ Ls.Sublist (L' ++ Lf)) ∧ XR P r K n ds ops Q last σ ((d, .bool b) :: E) I' (L' ++ Lf) Ls) : XR P r K n ds ops Q last (.eff i σ) E I L Ls :=
  XR.perm hL (XR.e ho hw hd (Step.yield hfo hargs hc) (by rintro v I' L' ⟨b, L2, rfl, hle, hp, rfl⟩; exact ⟨hle, hk b I' L2 hle hp⟩))

/-! pointers -/
theorem Reads.ptr_eq_nil {t yt e : TypeId} {q : Addr} (hu : P.underlying t = some (.pointer e)) (hx : ev E x = some (.pointer (some q))) (hy : ev E y = some (.pointer none)) :
    Reads P ⟨dst, .binOp .eql t x y yt, ty, pos, after, guard⟩ E I L (.bool false) :=
  fun _ _ _ a w hH _ => by
    have h : (Op.equal t (.pointer (some q)) (.pointer none)).run P w = .ok false w := by
      unfold Op.equal
      rw [show Op.maxDepth = (Op.maxDepth - 1) + 1 from rfl]
      unfold Op.equalIn
      simp [run_under hu]
    simp [execOp, hH.ev hx, hH.ev hy, binOp, eqGuard, h]
theorem Reads.ptr_ne_nil {t yt e : TypeId} {q : Addr} (hu : P.underlying t = some (.pointer e)) (hx : ev E x = some (.pointer (some q))) (hy : ev E y = some (.pointer none)) :
    Reads P ⟨dst, .binOp .neq t x y yt, ty, pos, after, guard⟩ E I L (.bool true) :=
  fun _ _ _ a w hH _ => by
    have h : (Op.equal t (.pointer (some q)) (.pointer none)).run P w = .ok false w := by
      unfold Op.equal
      rw [show Op.maxDepth = (Op.maxDepth - 1) + 1 from rfl]
      unfold Op.equalIn
      simp [run_under hu]
    simp [execOp, hH.ev hx, hH.ev hy, binOp, eqGuard, h]
theorem Reads.nil_eq_nil {t yt e : TypeId} (hu : P.underlying t = some (.pointer e)) (hx : ev E x = some (.pointer none)) (hy : ev E y = some (.pointer none)) :
    Reads P ⟨dst, .binOp .eql t x y yt, ty, pos, after, guard⟩ E I L (.bool true) :=
  fun _ _ _ a w hH _ => by
    have h : (Op.equal t (.pointer none) (.pointer none)).run P w = .ok true w := by
      unfold Op.equal
      rw [show Op.maxDepth = (Op.maxDepth - 1) + 1 from rfl]
      unfold Op.equalIn
      simp [run_under hu]
    simp [execOp, hH.ev hx, hH.ev hy, binOp, eqGuard, h]
/-! structs -/
theorem Reads.struct_eq {t yt : TypeId} {xs ys : Array Value} {c : Bool} (hg : P.eqGuardType P.depth t = false) (hE : ∀ w, (Op.equalIn 10000 t (.agg xs) (.agg ys)).run P w = .ok c w) (hx : ev E x = some (.agg xs)) (hy : ev E y = some (.agg ys)) :
    Reads P ⟨dst, .binOp .eql t x y yt, ty, pos, after, guard⟩ E I L (.bool c) :=
  fun _ _ _ a w hH _ => by
    have h1 := run_eqGuard_agg (P := P) w .eql t x y xs ys hg
    have h2 := run_eql_struct (P := P) w t xs ys
    rw [hE w] at h2
    simp only [execOp, hH.ev hx, hH.ev hy, Sem.run_bind, h1, h2, Result.andThen_ok, Sem.run_pure]
theorem Reads.struct_ne {t yt : TypeId} {xs ys : Array Value} {c : Bool} (hg : P.eqGuardType P.depth t = false) (hE : ∀ w, (Op.equalIn 10000 t (.agg xs) (.agg ys)).run P w = .ok c w) (hx : ev E x = some (.agg xs)) (hy : ev E y = some (.agg ys)) :
    Reads P ⟨dst, .binOp .neq t x y yt, ty, pos, after, guard⟩ E I L (.bool (!c)) :=
  fun _ _ _ a w hH _ => by
    have h1 := run_eqGuard_agg (P := P) w .neq t x y xs ys hg
    have h2 := run_neq_struct (P := P) w t xs ys
    rw [hE w] at h2
    simp only [execOp, hH.ev hx, hH.ev hy, Sem.run_bind, h1, h2, Result.andThen_ok, Sem.run_pure]
end
section
variable {P : Program} {r : Option Nat} {K : World} {n : Nat} {ds : List Deferred} {ops : Array Oper} {Q : Exit → Act → World → Prop} {l : List Oper} {last : Option Nat} {σ : Sched}
  {E : Env} {I : Im} {L Lf Ls : Own} {d : Tmp} {op : Op} {ty : TypeId} {pos : String} {after : Array Edge} {g : Option (Nat × Bool)} {v : Value} {x y z : Operand}
theorem XO.makeMap {t : TypeId} (hw : Wants ops ⟨some d, .makeMap t none, ty, pos, after, g⟩ E true) (hd : Nat.ble (d + 1) n = true)
    (hk : ∀ b, XO P r K n ds ops Q l ((d, .map (some b)) :: E) I (some (b, .map #[] 0) :: L)) : XO P r K n ds ops Q (⟨some d, .makeMap t none, ty, pos, after, g⟩ :: l) E I L :=
  XO.e hw hd (Runs.step rfl Runs.makeMap) (by rintro u I' L' ⟨b, rfl, rfl, rfl⟩; exact hk b)
theorem XR.mapInsert {j : Nat} {t kt et : TypeId} {b ck : Nat} {es : Array MapEntry} {lm : KV} {k : Int} {s : ByteArray} (i : Nat) (ho : ops[j]? = some ⟨none, .mapUpdate t x y z, ty, pos, after, g⟩) (hw : Wants ops ⟨none, .mapUpdate t x y z, ty, pos, after, g⟩ E true) (hu : P.underlying t = some (.map kt et)) (hk' : P.underlying kt = some (.int .i64))
    (hx : ev E x = some (.map (some b))) (hy : ev E y = some (.int .i64 k)) (hz : ev E z = some (.string s)) (hi : L[i]? = some (some (b, .map es ck))) (hes : MapIs es lm) (hno : look k lm = none) (hlast : last = some j)
    (hk : ∀ es' ck', MapIs es' (lm ++ [(k, s)]) → XR P r K n ds ops Q last σ E I (L.set i (some (b, .map es' ck'))) Ls) : XR P r K n ds ops Q last (.eff j σ) E I L Ls :=
  XR.e0 ho hw (Runs.step rfl (Runs.mapInsert i hu hk' hx hy hz hi hes hno)) (by rintro u I' L' ⟨rfl, rfl, es', ck', rfl, h⟩; exact ⟨Im.le_refl _, .inl hlast, hk es' ck' h⟩)
theorem XR.mapDelete {j : Nat} {t kt et u : TypeId} {b ck : Nat} {es : Array MapEntry} {lm : KV} {k : Int} (i : Nat) (ho : ops[j]? = some ⟨none, .call { callee := .builtin .delete, args := #[x, y], argTypes := #[t, u] }, ty, pos, after, g⟩) (hw : Wants ops ⟨none, .call { callee := .builtin .delete, args := #[x, y], argTypes := #[t, u] }, ty, pos, after, g⟩ E true)
    (hu : P.underlying t = some (.map kt et)) (hk' : P.underlying kt = some (.int .i64)) (hx : ev E x = some (.map (some b))) (hy : ev E y = some (.int .i64 k)) (hi : L[i]? = some (some (b, .map es ck))) (hes : MapIs es lm) (hlast : last = some j)
    (hk : ∀ es', MapIs es' (dele k lm) → XR P r K n ds ops Q last σ E I (L.set i (some (b, .map es' ck))) Ls) : XR P r K n ds ops Q last (.eff j σ) E I L Ls :=
  XR.e0 ho hw (Runs.step rfl (Runs.mapDelete i hu hk' hx hy hi hes)) (by rintro u I' L' ⟨rfl, rfl, es', rfl, h⟩; exact ⟨Im.le_refl _, .inl hlast, hk es' h⟩)
end
end Go.Xe
