/- A small logic over the walk's rules: frames as lists of slots, memory as an unchanging part and an owned part. No program is named here. -/
import Derived.CallsIn
import Derived.OrdersIn
import Derived.OrdersHeld
import Derived.TacticsIn
import Derived.Below
import Derived.Laws.World
namespace Go.Xe
open Go Go.RowKit

def FW (r : Option Nat) : Fence := { fn := fun _ => True, depth := none, alive := false, round := r }
theorem FW_none : FW none = Fence.wide := rfl
theorem FW_in (r : Option Nat) (l : Nat) : (FW r).inRound l = FW (some l) := rfl

/-! frames -/
abbrev Env := List (Nat × Value)
def find : Env → Nat → Option Value
  | [], _ => none
  | (i, v) :: E, t => cond (Nat.beq i t) (some v) (find E t)
def ev (E : Env) : Operand → Option Value
  | .tmp t => find E t
  | .const v => some v
  | .global g => some (.pointer (some ⟨g, 0, none⟩))
  | .func f => some (.func (.func f) #[] #[])

structure Holds (a : Act) (n : Nat) (ds : List Deferred) (E : Env) : Prop where
  size : a.tmps.size = n
  defers : a.defers = ds
  slot : ∀ t v, find E t = some v → a.tmps[t]? = some v

theorem find_cons (i : Nat) (v : Value) (E : Env) (t : Nat) : find ((i, v) :: E) t = if i = t then some v else find E t := by
  simp only [find]
  by_cases h : i = t
  · subst h; simp
  · have : Nat.beq i t = false := by
      cases e : Nat.beq i t with
      | false => rfl
      | true => exact absurd (Nat.eq_of_beq_eq_true e) h
    simp [this, h]

theorem Holds.put {a : Act} {n : Nat} {ds : List Deferred} {E : Env} {d : Nat} {v : Value} (h : Holds a n ds E) (hd : d < n) : Holds (a.put (some d) v) n ds ((d, v) :: E) := by
  refine ⟨by simp [Act.put, h.size], by simp [Act.put, h.defers], fun t u ht => ?_⟩
  rw [find_cons] at ht
  by_cases e : d = t
  · subst e
    simp at ht; subst ht
    simp [Act.put, h.size, hd]
  · rw [if_neg e] at ht
    simp only [Act.put]
    rw [Array.getElem?_setIfInBounds_ne e]
    exact h.slot t u ht

theorem Holds.put_none {a : Act} {n : Nat} {ds : List Deferred} {E : Env} {v : Value} (h : Holds a n ds E) : Holds (a.put none v) n ds E := h

def SubL (E : Env) : Env → Prop
  | [] => True
  | (i, v) :: r => find E i = some v ∧ SubL E r

theorem SubL.sub {E : Env} : ∀ {E' : Env}, SubL E E' → ∀ t v, find E' t = some v → find E t = some v
  | [], _, t, v, h => by simp [find] at h
  | (i, u) :: r, h, t, v, hf => by
    rw [find_cons] at hf
    by_cases e : i = t
    · subst e; simp at hf; subst hf; exact h.1
    · rw [if_neg e] at hf; exact SubL.sub h.2 t v hf

theorem Holds.weaken {a : Act} {n : Nat} {ds : List Deferred} {E E' : Env} (h : Holds a n ds E) (hs : SubL E E') : Holds a n ds E' :=
  ⟨h.size, h.defers, fun t v ht => h.slot t v (hs.sub t v ht)⟩

theorem Holds.ev {a : Act} {n : Nat} {ds : List Deferred} {E : Env} {x : Operand} {v : Value} (h : Holds a n ds E) (hx : ev E x = some v) : a.eval x = v := by
  cases x with
  | tmp t => simp only [Xe.ev] at hx; simp [Act.eval, h.slot t v hx]
  | const u => simp only [Xe.ev, Option.some.injEq] at hx; simp [Act.eval, hx]
  | global g => simp only [Xe.ev, Option.some.injEq] at hx; simp [Act.eval, hx]
  | func f => simp only [Xe.ev, Option.some.injEq] at hx; simp [Act.eval, hx]

/-! memory -/
abbrev Im := Nat → Option Obj
/-- a place of the list may be empty -/
abbrev Own := List (Option (Nat × Obj))
def keys (L : Own) : List Nat := L.filterMap fun x => x.map (·.1)
def Im.le (I I' : Im) : Prop := ∀ b o, I b = some o → I' b = some o
theorem Im.le_refl (I : Im) : I.le I := fun _ _ h => h
theorem Im.le_trans {I J H : Im} (h : I.le J) (k : J.le H) : I.le H := fun b o x => k b o (h b o x)
def Im.add (I : Im) (b : Nat) (o : Obj) : Im := fun k => if k = b then some o else I k

structure Sat (K w : World) (I : Im) (L : Own) : Prop where
  os : w.os = K.os
  tape : w.tape = K.tape
  output : w.output = K.output
  im : ∀ b o, I b = some o → w.heap[b]? = some o
  own : ∀ b o, some (b, o) ∈ L → w.heap[b]? = some o
  nodup : (keys L).Nodup
  apart : ∀ b o, some (b, o) ∈ L → I b = none

theorem mem_keys {L : Own} {b : Nat} : b ∈ keys L ↔ ∃ o, some (b, o) ∈ L := by
  unfold keys
  rw [List.mem_filterMap]
  constructor
  · rintro ⟨x, hx, he⟩
    cases x with
    | none => simp at he
    | some p => obtain ⟨b', o⟩ := p; simp at he; subst he; exact ⟨o, hx⟩
  · rintro ⟨o, h⟩; exact ⟨_, h, rfl⟩

theorem Sat.drew {K w : World} {I : Im} {L : Own} (h : Sat K w I L) : Sat K w.drew I L := ⟨h.os, h.tape, h.output, h.im, h.own, h.nodup, h.apart⟩

theorem lt_of_heap {w : World} {b : Nat} {o : Obj} (h : w.heap[b]? = some o) : b < w.heap.size := (Array.getElem?_eq_some_iff.1 h).1

theorem heap_alloc_old {w : World} {b : Nat} {o o' : Obj} (h : w.heap[b]? = some o) : (w.alloc o').heap[b]? = some o := by
  rw [Below.heap_alloc w o' b (lt_of_heap h)]; exact h
theorem heap_alloc_new (w : World) (o : Obj) : (w.alloc o).heap[w.heap.size]? = some o := by
  show (w.heap.push o)[w.heap.size]? = _
  simp

theorem Sat.fresh_im {K w : World} {I : Im} {L : Own} (h : Sat K w I L) : I w.heap.size = none := by
  cases e : I w.heap.size with
  | none => rfl
  | some o => have := lt_of_heap (h.im _ o e); omega

/-- more world: what was there is there -/
theorem Sat.later {K w w' : World} {I : Im} {L : Own} (h : Sat K w I L) (h1 : w'.os = w.os) (h2 : w'.tape = w.tape) (h3 : w'.output = w.output) (h4 : ∀ (b : Nat) (o : Obj), w.heap[b]? = some o → w'.heap[b]? = some o) : Sat K w' I L :=
  ⟨h1.trans h.os, h2.trans h.tape, h3.trans h.output, fun b o hb => h4 b o (h.im b o hb), fun b o hb => h4 b o (h.own b o hb), h.nodup, h.apart⟩

/-- a block that nobody knows is taken -/
theorem Sat.take {K w : World} {I : Im} {L : Own} {b : Nat} {o : Obj} (h : Sat K w I L) (hb : w.heap[b]? = some o) (hi : I b = none) (hl : b ∉ keys L) : Sat K w I (some (b, o) :: L) := by
  refine ⟨h.os, h.tape, h.output, h.im, fun k x hk => ?_, ?_, fun k x hk => ?_⟩
  · rcases List.mem_cons.1 hk with e | hk
    · cases e; exact hb
    · exact h.own k x hk
  · show (b :: keys L).Nodup
    exact List.nodup_cons.2 ⟨hl, h.nodup⟩
  · rcases List.mem_cons.1 hk with e | hk
    · cases e; exact hi
    · exact h.apart k x hk

theorem Sat.alloc {K w : World} {I : Im} {L : Own} (h : Sat K w I L) (o : Obj) : Sat K (w.alloc o) I (some (w.heap.size, o) :: L) :=
  (h.later (w' := w.alloc o) rfl rfl rfl (fun _ _ hb => heap_alloc_old hb)).take (heap_alloc_new w o) h.fresh_im (fun hm => by
    obtain ⟨x, hx⟩ := mem_keys.1 hm
    have := lt_of_heap (h.own _ _ hx); omega)

theorem keys_sublist {L L' : Own} (h : L'.Sublist L) : (keys L').Sublist (keys L) := h.filterMap _
theorem keys_perm {L L' : Own} (h : L.Perm L') : (keys L).Perm (keys L') := h.filterMap _

/-- what is owned may be given away for good -/
theorem Sat.give {K w : World} {I : Im} {L : Own} {b : Nat} {o : Obj} (h : Sat K w I (some (b, o) :: L)) : Sat K w (I.add b o) L := by
  have hn : (b :: keys L).Nodup := h.nodup
  have hn' := List.nodup_cons.1 hn
  refine ⟨h.os, h.tape, h.output, fun k x hk => ?_, fun k x hk => h.own k x (List.mem_cons_of_mem _ hk), hn'.2, fun k x hk => ?_⟩
  · simp only [Im.add] at hk
    split at hk
    · rename_i e; subst e; cases hk; exact h.own _ _ (List.mem_cons_self ..)
    · exact h.im k x hk
  · simp only [Im.add]
    split
    · rename_i e; subst e; exact absurd (mem_keys.2 ⟨x, hk⟩) hn'.1
    · exact h.apart k x (List.mem_cons_of_mem _ hk)
theorem Im.le_add {I : Im} {b : Nat} {o : Obj} (h : I b = none) : I.le (I.add b o) := fun k x hk => by
  simp only [Im.add]
  split
  · rename_i e; subst e; rw [h] at hk; cases hk
  · exact hk
theorem Im.add_self (I : Im) (b : Nat) (o : Obj) : (I.add b o) b = some o := by simp [Im.add]

theorem Sat.perm {K w : World} {I : Im} {L L' : Own} (h : Sat K w I L) (hp : L.Perm L') : Sat K w I L' :=
  ⟨h.os, h.tape, h.output, h.im, fun b o hm => h.own b o (hp.mem_iff.2 hm), (keys_perm hp).nodup_iff.1 h.nodup, fun b o hm => h.apart b o (hp.mem_iff.2 hm)⟩

theorem Sat.drop {K w : World} {I : Im} {L L' : Own} (h : Sat K w I L) (hs : L'.Sublist L) : Sat K w I L' :=
  ⟨h.os, h.tape, h.output, h.im, fun b o hm => h.own b o (hs.subset hm), (keys_sublist hs).nodup h.nodup, fun b o hm => h.apart b o (hs.subset hm)⟩

theorem Sat.empty {K w : World} {I : Im} {L : Own} (h : Sat K w I L) : Sat K w I (Option.none :: L) :=
  ⟨h.os, h.tape, h.output, h.im, fun b o hm => h.own b o (by simpa using hm), h.nodup, fun b o hm => h.apart b o (by simpa using hm)⟩

/-- the place number i, taken to the front -/
theorem perm_front : ∀ {L : Own} {i : Nat} {x : Option (Nat × Obj)}, L[i]? = some x → L.Perm (x :: L.eraseIdx i)
  | [], _, _, h => by simp at h
  | y :: L, 0, x, h => by simp at h; subst h; exact .refl _
  | y :: L, i + 1, x, h => by
    have := perm_front (L := L) (i := i) (x := x) (by simpa using h)
    exact (this.cons y).trans (.swap x y _)
theorem perm_set : ∀ {L : Own} {i : Nat} {x : Option (Nat × Obj)}, L[i]? = some x → ∀ y, (y :: L.eraseIdx i).Perm (L.set i y)
  | [], _, _, h, _ => by simp at h
  | z :: L, 0, x, h, y => by simp [List.eraseIdx, List.set]
  | z :: L, i + 1, x, h, y => by
    have := perm_set (L := L) (i := i) (x := x) (by simpa using h) y
    exact (List.Perm.swap z y _).trans (this.cons z)

/-- the owned block at place i holds something else -/
theorem Sat.put {K w w' : World} {I : Im} {L : Own} {i : Nat} {b : Nat} {o o' : Obj} (h : Sat K w I L) (hi : L[i]? = some (some (b, o)))
    (ho : w'.os = w.os) (ht : w'.tape = w.tape) (hu : w'.output = w.output)
    (h1 : w'.heap[b]? = some o') (h2 : ∀ k, k ≠ b → w'.heap[k]? = w.heap[k]?) : Sat K w' I (L.set i (some (b, o'))) := by
  refine Sat.perm ?_ (perm_set hi _)
  have h0 := h.perm (perm_front hi)
  have hn : (b :: keys (L.eraseIdx i)).Nodup := h0.nodup
  have hn' := List.nodup_cons.1 hn
  refine ⟨ho.trans h.os, ht.trans h.tape, hu.trans h.output, fun k x hk => ?_, fun k x hk => ?_, hn, fun k x hk => ?_⟩
  · have : k ≠ b := fun e => by subst e; rw [h0.apart _ _ (List.mem_cons_self ..)] at hk; cases hk
    rw [h2 k this]; exact h.im k x hk
  · rcases List.mem_cons.1 hk with e | hk
    · cases e; exact h1
    · have hne : k ≠ b := fun e => hn'.1 (e ▸ mem_keys.2 ⟨x, hk⟩)
      rw [h2 k hne]; exact h0.own k x (List.mem_cons_of_mem _ hk)
  · rcases List.mem_cons.1 hk with e | hk
    · cases e; exact h0.apart _ _ (List.mem_cons_self ..)
    · exact h0.apart k x (List.mem_cons_of_mem _ hk)

/-- the place number i is let go, a new block takes it -/
theorem Sat.renew {K w w' : World} {I : Im} {L : Own} {i : Nat} {x : Option (Nat × Obj)} {o : Obj} (h : Sat K w I L) (hi : L[i]? = some x) (hw : w' = w.alloc o) : Sat K w' I (L.set i (some (w.heap.size, o))) := by
  subst hw
  refine Sat.perm ?_ (perm_set hi _)
  exact ((h.perm (perm_front hi)).drop (List.sublist_cons_self _ _)).alloc o

/-! the least number with a property -/
noncomputable def least (p : Nat → Prop) : Nat := Classical.epsilon fun m => p m ∧ ∀ k, p k → m ≤ k
theorem least_spec {p : Nat → Prop} (h : ∃ k, p k) : p (least p) ∧ ∀ k, p k → least p ≤ k := by
  have : ∃ m, p m ∧ ∀ k, p k → m ≤ k := by
    obtain ⟨k, hk⟩ := h
    induction k using Nat.strongRecOn with
    | _ k ih =>
      by_cases hs : ∃ j, j < k ∧ p j
      · obtain ⟨j, hj, hpj⟩ := hs; exact ih j hj hpj
      · exact ⟨k, hk, fun j hj => Nat.le_of_not_lt fun hlt => hs ⟨j, hlt, hj⟩⟩
  exact Classical.epsilon_spec this
theorem least_mem {p : Nat → Prop} (h : ∃ k, p k) : p (least p) := (least_spec h).1
theorem least_le {p : Nat → Prop} {k : Nat} (h : p k) : least p ≤ k := (least_spec ⟨k, h⟩).2 k h

/-! one operation -/
def Step (P : Program) (r : Option Nat) (K : World) (n : Nat) (ds : List Deferred) (o : Oper) (E : Env) (I : Im) (L : Own) (Post : Value → Im → Own → Prop) : Prop :=
  ∀ (a : Act) (w : World) (Q : Exit → Act → World → Prop) (N : Act → World → Prop), Holds a n ds E → Sat K w I L →
    (∀ v w' I' L', Sat K w' I' L' → Post v I' L' → N (a.put o.dst v) w') → o.wpIn (FW r) 0 P a w N Q

/-- the operation only reads, and yields v -/
def Reads (P : Program) (o : Oper) (E : Env) (I : Im) (L : Own) (v : Value) : Prop :=
  ∀ (K : World) (n : Nat) (ds : List Deferred) (a : Act) (w : World), Holds a n ds E → Sat K w I L → (execOp a.eval o).run P w = .ok (.value v) w

def plainOp (o : Oper) : Bool := match o.op with | .defer _ => false | _ => true
theorem semAt_plain (r : Option Nat) (o : Oper) (ρ : Operand → Value) (h : plainOp o = true) : o.semAt r ρ = execOp ρ o := by
  unfold Oper.semAt
  unfold plainOp at h
  cases r <;> cases ho : o.op <;> simp_all

theorem Reads.step {P : Program} {r : Option Nat} {K : World} {n : Nat} {ds : List Deferred} {o : Oper} {E : Env} {I : Im} {L : Own} {v : Value} (hp : plainOp o = true) (h : Reads P o E I L v) :
    Step P r K n ds o E I L (fun v' I' L' => v' = v ∧ I' = I ∧ L' = L) := by
  intro a w Q N hH hS hN
  refine ⟨fun _ _ => trivial, ?_⟩
  rw [show (FW r).round = r from rfl, semAt_plain r o _ hp, h K n ds a w hH hS]
  exact hN v w I L hS ⟨rfl, rfl, rfl⟩

/-- the operation runs to a value, or to nothing -/
def Runs (P : Program) (o : Oper) (E : Env) (I : Im) (L : Own) (Post : Value → Im → Own → Prop) : Prop :=
  ∀ (K : World) (n : Nat) (ds : List Deferred) (a : Act) (w : World), Holds a n ds E → Sat K w I L →
    ∃ v w' I' L', ((execOp a.eval o).run P w = .ok (.value v) w' ∨ ((execOp a.eval o).run P w = .ok .skip w' ∧ v = undef)) ∧ Sat K w' I' L' ∧ Post v I' L'

theorem Runs.step {P : Program} {r : Option Nat} {K : World} {n : Nat} {ds : List Deferred} {o : Oper} {E : Env} {I : Im} {L : Own} {Post : Value → Im → Own → Prop} (hp : plainOp o = true) (h : Runs P o E I L Post) :
    Step P r K n ds o E I L Post := by
  intro a w Q N hH hS hN
  refine ⟨fun _ _ => trivial, ?_⟩
  obtain ⟨v, w', I', L', hr, hS', hP⟩ := h K n ds a w hH hS
  rw [show (FW r).round = r from rfl, semAt_plain r o _ hp]
  rcases hr with hr | ⟨hr, rfl⟩
  · rw [hr]; exact hN v w' I' L' hS' hP
  · rw [hr]; exact hN undef w' I' L' hS' hP

/-! calls -/
def Enters (P : Program) (f : FuncId) : Prop := ∀ (args : Array Value) (w : World), (callFunc f args).run P w = .ok (.enter f args) w
theorem enters_of {P : Program} {f : FuncId} (h : (match P.funcs[f]? with | some fn => fn.name != "runtime.NumGoroutine" && fn.body.isSome | none => false) = true) : Enters P f := by
  intro args w
  unfold callFunc
  cases hf : P.funcs[f]? with
  | none => simp [hf] at h
  | some fn =>
    simp only [hf, Bool.and_eq_true, bne_iff_ne, ne_eq] at h
    obtain ⟨h1, h2⟩ := h
    cases hb : fn.body with
    | none => simp [hb] at h2
    | some c => simp [hf, h1, hb]

/-- a function's contract: it gives and takes owned blocks, and whatever else is owned stays -/
def FSo (P : Program) (f : FuncId) (args : List Value) (I : Im) (L : Own) (Post : Value → Im → Own → Prop) : Prop :=
  ∀ (K w : World) (Lf : Own), Sat K w I (L ++ Lf) →
    Calls P f args.toArray w fun e w' => ∃ v I' L', e = .returned v ∧ I.le I' ∧ Sat K w' I' (L' ++ Lf) ∧ Post v I' L'
/-- the plain contract: nothing owned comes in, nothing owned goes out -/
def FC (P : Program) (f : FuncId) (args : List Value) (I : Im) (Post : Value → Im → Prop) : Prop :=
  FSo P f args I [] (fun v I' L' => L' = [] ∧ Post v I')

theorem FSo.mono {P : Program} {f : FuncId} {args : List Value} {I : Im} {L : Own} {Post Post' : Value → Im → Own → Prop} (h : FSo P f args I L Post) (hp : ∀ v I' L', I.le I' → Post v I' L' → Post' v I' L') : FSo P f args I L Post' :=
  fun K w Lf hS => (h K w Lf hS).mono fun _ _ ⟨v, I', L', he, hi, hs, hq⟩ => ⟨v, I', L', he, hi, hs, hp v I' L' hi hq⟩

def EvalsTo (E : Env) : List Operand → List Value → Prop
  | [], [] => True
  | x :: xs, v :: vs => ev E x = some v ∧ EvalsTo E xs vs
  | _, _ => False

theorem EvalsTo.map {a : Act} {n : Nat} {ds : List Deferred} {E : Env} (hH : Holds a n ds E) : ∀ {xs : List Operand} {vs : List Value}, EvalsTo E xs vs → xs.map a.eval = vs
  | [], [], _ => rfl
  | x :: xs, v :: vs, h => by simp [hH.ev h.1, EvalsTo.map hH h.2]
  | [], _ :: _, h => h.elim
  | _ :: _, [], h => h.elim

theorem Step.call {P : Program} {r : Option Nat} {K : World} {n : Nat} {ds : List Deferred} {dst : Option Tmp} {ty : TypeId} {pos : String} {after : Array Edge} {g : Option (Nat × Bool)} {E : Env} {I : Im} {L Lf : Own}
    {fo : Operand} {f : FuncId} {fi ca : Array Value} {args : List Operand} {tys : Array TypeId} {vs : List Value} {Post : Value → Im → Own → Prop}
    (hfo : ev E fo = some (.func (.func f) fi ca)) (hf : Enters P f) (hargs : EvalsTo E args vs) (hc : FSo P f (fi.toList ++ vs ++ ca.toList) I L Post) :
    Step P r K n ds { dst, op := .call { callee := .value fo, args := args.toArray, argTypes := tys }, type := ty, pos, after, guard := g } E I (L ++ Lf)
      (fun v I' L' => ∃ L1, I.le I' ∧ Post v I' L1 ∧ L' = L1 ++ Lf) := by
  intro a w Q N hH hS hN
  refine ⟨fun _ _ => trivial, ?_⟩
  rw [show (FW r).round = r from rfl, semAt_plain r _ _ rfl]
  have hrun : (execOp a.eval { dst, op := .call { callee := .value fo, args := args.toArray, argTypes := tys }, type := ty, pos, after, guard := g }).run P w
      = .ok (.enter f (fi.toList ++ vs ++ ca.toList).toArray) w := by
    have hm : (args.toArray.map a.eval) = vs.toArray := by rw [List.map_toArray, EvalsTo.map hH hargs]
    simp only [execOp, resolve, Deferred.ofValue, hH.ev hfo, hm, Sem.run_bind, Sem.run_pure, Result.andThen_ok, invoke]
    have e : (fi ++ vs.toArray ++ ca) = (fi.toList ++ vs ++ ca.toList).toArray := by simp
    rw [e, hf]
  rw [hrun]
  refine ⟨fun h => by simp [FW] at h, ?_⟩
  have hcall := hc K w Lf hS
  have h2 : CallsIn (FW r) 0 P f (fi.toList ++ vs ++ ca.toList).toArray w fun e w' => ∃ v I' L', e = .returned v ∧ I.le I' ∧ Sat K w' I' (L' ++ Lf) ∧ Post v I' L' := callsIn_wide.2 hcall
  refine h2.mono ?_
  rintro e w' ⟨v, I', L1, rfl, hle, hS', hP⟩
  exact hN v w' I' (L1 ++ Lf) hS' ⟨L1, hle, hP, rfl⟩

/-! a region in the text's order -/
def XO (P : Program) (r : Option Nat) (K : World) (n : Nat) (ds : List Deferred) (ops : Array Oper) (Q : Exit → Act → World → Prop) (l : List Oper) (E : Env) (I : Im) (L : Own) : Prop :=
  ∀ a w, Holds a n ds E → Sat K w I L → wpListIn (FW r) 0 P ops Q l a w
def XC (P : Program) (r : Option Nat) (K : World) (n : Nat) (ds : List Deferred) (c : Code) (Q : Exit → Act → World → Prop) (E : Env) (I : Im) (L : Own) : Prop :=
  ∀ a w, Holds a n ds E → Sat K w I L → c.wpIn (FW r) 0 P Q a w
def XQ (K : World) (n : Nat) (ds : List Deferred) (Q : Exit → Act → World → Prop) (e : Exit) (E : Env) (I : Im) (L : Own) : Prop :=
  ∀ a w, Holds a n ds E → Sat K w I L → Q e a w

/-- the frame behind an operation -/
def push (d : Option Tmp) (v : Value) (E : Env) : Env := match d with | some d => (d, v) :: E | none => E
def fits (d : Option Tmp) (n : Nat) : Bool := match d with | some d => Nat.ble (d + 1) n | none => true
theorem Holds.push {a : Act} {n : Nat} {ds : List Deferred} {E : Env} {d : Option Tmp} {v : Value} (h : Holds a n ds E) (hd : fits d n = true) : Holds (a.put d v) n ds (push d v E) := by
  cases d with
  | none => exact h
  | some d => exact h.put (Nat.le_of_ble_eq_true hd)

section
variable {P : Program} {r : Option Nat} {K : World} {n : Nat} {ds : List Deferred} {ops : Array Oper} {Q : Exit → Act → World → Prop} {l : List Oper} {o : Oper} {E E' : Env} {I : Im} {L L' : Own}

def boolOf : Value → Option Bool | .bool c => some c | _ => none
/-- whether the operation is carried out: its guard's slot is known -/
def Wants (ops : Array Oper) (o : Oper) (E : Env) (b : Bool) : Prop :=
  match o.guard with
  | none => b = true
  | some (j, want) => ∃ d v, (ops[j]?).bind (·.dst) = some d ∧ find E d = some v ∧ b = (boolOf v == some want)

theorem Wants.wanted {b : Bool} {a : Act} (hH : Holds a n ds E) (h : Wants ops o E b) : Region.wanted o (yielded ops a.tmps) = b := by
  unfold Wants at h
  unfold Region.wanted
  cases hg : o.guard with
  | none => simp only [hg] at h; simp [h]
  | some jw =>
    obtain ⟨j, want⟩ := jw
    simp only [hg] at h ⊢
    obtain ⟨d, v, h1, h2, h3⟩ := h
    have : yielded ops a.tmps j = boolOf v := by
      unfold yielded
      rw [h1]
      simp only [Option.bind_some, hH.slot d _ h2]
      cases v <;> rfl
    rw [this, h3]

theorem XO.step {Post : Value → Im → Own → Prop} (hw : Wants ops o E true) (hd : fits o.dst n = true) (hs : Step P r K n ds o E I L Post)
    (hk : ∀ v I' L', Post v I' L' → XO P r K n ds ops Q l (push o.dst v E) I' L') : XO P r K n ds ops Q (o :: l) E I L := by
  intro a w hH hS
  unfold wpListIn
  rw [if_pos (hw.wanted hH)]
  exact hs a w Q _ hH hS fun v w' I' L' hS' hP => hk v I' L' hP _ _ (hH.push hd) hS'

theorem XO.read {v : Value} (hp : plainOp o = true) (hw : Wants ops o E true) (hd : fits o.dst n = true) (hs : Reads P o E I L v)
    (hk : XO P r K n ds ops Q l (push o.dst v E) I L) : XO P r K n ds ops Q (o :: l) E I L :=
  XO.step hw hd (Reads.step hp hs) (by rintro v' I' L' ⟨rfl, rfl, rfl⟩; exact hk)

theorem XO.skip (hw : Wants ops o E false) (hd : fits o.dst n = true) (hk : XO P r K n ds ops Q l (push o.dst undef E) I L) : XO P r K n ds ops Q (o :: l) E I L := by
  intro a w hH hS
  unfold wpListIn
  have := hw.wanted hH
  rw [if_neg (by rw [this]; simp)]
  exact ⟨fun _ _ => trivial, hk _ _ (hH.push hd) hS⟩

theorem XO.nil (h : XQ K n ds Q .normal E I L) : XO P r K n ds ops Q [] E I L := fun a w hH hS => h a w hH hS
theorem XO.weaken (hs : SubL E E') (h : XO P r K n ds ops Q l E' I L) : XO P r K n ds ops Q l E I L := fun a w hH hS => h a w (hH.weaken hs) hS
theorem XO.perm (hp : L.Perm L') (h : XO P r K n ds ops Q l E I L') : XO P r K n ds ops Q l E I L := fun a w hH hS => h a w hH (hS.perm hp)
theorem XO.drop (hp : L'.Sublist L) (h : XO P r K n ds ops Q l E I L') : XO P r K n ds ops Q l E I L := fun a w hH hS => h a w hH (hS.drop hp)

/-- a slot that holds a truth value: both ways -/
theorem XO.split {d : Nat} {b : Bool} (hf : find E d = some (.bool b)) (ht : b = true → XO P r K n ds ops Q l ((d, .bool true) :: E) I L)
    (hn : b = false → XO P r K n ds ops Q l ((d, .bool false) :: E) I L) : XO P r K n ds ops Q l E I L := by
  have key : ∀ c, b = c → SubL E ((d, .bool c) :: E) ∨ True := fun _ _ => .inr trivial
  intro a w hH hS
  have hh : ∀ c, b = c → Holds a n ds ((d, .bool c) :: E) := fun c hc => ⟨hH.size, hH.defers, fun t v ht => by
    rw [find_cons] at ht
    by_cases e : d = t
    · subst e; simp at ht; subst ht; rw [← hc]; exact hH.slot d _ hf
    · rw [if_neg e] at ht; exact hH.slot t v ht⟩
  cases hb : b
  · exact hn hb a w (hh false hb) hS
  · exact ht hb a w (hh true hb) hS

/-! code -/
variable {x y c : Code}
theorem XC.seq (h : XC P r K n ds x (Exit.then (y.wpIn (FW r) 0 P Q) Q) E I L) : XC P r K n ds (.seq x y) Q E I L := fun a w hH hS => wpIn_seq (h a w hH hS)
theorem XC.skip (h : XQ K n ds Q .normal E I L) : XC P r K n ds .skip Q E I L := fun a w hH hS => wpIn_skip (h a w hH hS)
theorem XC.ret (h : XQ K n ds Q .ret E I L) : XC P r K n ds .ret Q E I L := fun a w hH hS => wpIn_ret (h a w hH hS)
theorem XC.exit {id : Nat} (h : XQ K n ds Q (.exit id) E I L) : XC P r K n ds (.exit id) Q E I L := fun a w hH hS => wpIn_exit (h a w hH hS)
theorem XC.block {id : Nat} (h : XC P r K n ds c (Exit.inBlock id Q) E I L) : XC P r K n ds (.block id c) Q E I L := fun a w hH hS => wpIn_block (h a w hH hS)
theorem XC.region {id : Nat} {l : List Oper} (h : XO P r K n ds l.toArray Q l E I L) : XC P r K n ds (.region id l.toArray false) Q E I L := fun a w hH hS => wpIn_region_lit (h a w hH hS)
theorem XC.cond {s : Operand} {b : Bool} (hs : ev E s = some (.bool b)) (ht : b = true → XC P r K n ds x Q E I L) (hf : b = false → XC P r K n ds y Q E I L) :
    XC P r K n ds (.cond s x y) Q E I L := fun a w hH hS => wpIn_cond_split (hH.ev hs) (fun h => ht h a w hH hS) (fun h => hf h a w hH hS)
theorem XC.weaken (hs : SubL E E') (h : XC P r K n ds c Q E' I L) : XC P r K n ds c Q E I L := fun a w hH hS => h a w (hH.weaken hs) hS
theorem XC.perm (hp : L.Perm L') (h : XC P r K n ds c Q E I L') : XC P r K n ds c Q E I L := fun a w hH hS => h a w hH (hS.perm hp)
theorem XC.drop (hp : L'.Sublist L) (h : XC P r K n ds c Q E I L') : XC P r K n ds c Q E I L := fun a w hH hS => h a w hH (hS.drop hp)

/-- a loop: the state at each round's head is one of a family -/
theorem XC.loop {ι : Type} (Ef : ι → Env) (If : ι → Im) (Lf : ι → Own) (p : ι → Prop) (μ : ι → Nat) (i₀ : ι) (h₀ : p i₀) (hE : SubL E (Ef i₀)) (hI : If i₀ = I) (hL : L.Perm (Lf i₀))
    (round : ∀ i, p i → XC P r K n ds c (Exit.then (fun a w => ∃ j, p j ∧ μ j < μ i ∧ Holds a n ds (Ef j) ∧ Sat K w (If j) (Lf j)) Q) (Ef i) (If i) (Lf i)) :
    XC P r K n ds (.loop c) Q E I L := by
  intro a w hH hS
  let M : Act → World → Nat → Prop := fun a w k => ∃ i, μ i = k ∧ p i ∧ Holds a n ds (Ef i) ∧ Sat K w (If i) (Lf i)
  refine wpIn_loop (fun a w => ∃ k, M a w k) (fun a w => least (M a w)) ⟨_, i₀, rfl, h₀, hH.weaken hE, by rw [hI]; exact hS.perm hL⟩ ?_
  intro a w hM
  obtain ⟨i, hi, hp, hH, hS⟩ := least_mem hM
  refine wpIn_mono (round i hp a w hH hS) ?_
  intro e a' w' hq
  cases e with
  | normal =>
    obtain ⟨j, hpj, hlt, hHj, hSj⟩ := hq
    have hMj : M a' w' (μ j) := ⟨j, rfl, hpj, hHj, hSj⟩
    exact ⟨⟨_, hMj⟩, by have := least_le hMj; omega⟩
  | _ => exact hq

theorem XQ.then_normal {y : Code} (h : XC P r K n ds y Q E I L) : XQ K n ds (Exit.then (y.wpIn (FW r) 0 P Q) Q) .normal E I L := fun a w hH hS => h a w hH hS
theorem XQ.then_ret {N : Act → World → Prop} (h : XQ K n ds Q .ret E I L) : XQ K n ds (Exit.then N Q) .ret E I L := h
theorem XQ.then_exit {N : Act → World → Prop} {id : Nat} (h : XQ K n ds Q (.exit id) E I L) : XQ K n ds (Exit.then N Q) (.exit id) E I L := h
theorem XQ.block_normal {id : Nat} (h : XQ K n ds Q .normal E I L) : XQ K n ds (Exit.inBlock id Q) .normal E I L := h
theorem XQ.block_ret {id : Nat} (h : XQ K n ds Q .ret E I L) : XQ K n ds (Exit.inBlock id Q) .ret E I L := h
theorem XQ.block_exit {id : Nat} (h : XQ K n ds Q .normal E I L) : XQ K n ds (Exit.inBlock id Q) (.exit id) E I L := fun a w hH hS => by simp only [Exit.inBlock, if_true]; exact h a w hH hS
theorem XQ.block_out {id id' : Nat} (hne : Nat.beq id' id = false) (h : XQ K n ds Q (.exit id') E I L) : XQ K n ds (Exit.inBlock id Q) (.exit id') E I L := fun a w hH hS => by
  have : ¬ id' = id := fun e => by subst e; simp at hne
  simp only [Exit.inBlock, this, if_false]; exact h a w hH hS
theorem XQ.back {ι : Type} {Ef : ι → Env} {If : ι → Im} {Lf : ι → Own} {p : ι → Prop} {μ : ι → Nat} {m : Nat} (j : ι) (hp : p j) (hm : μ j < m) (hE : SubL E (Ef j)) (hI : If j = I) (hL : L.Perm (Lf j)) :
    XQ K n ds (Exit.then (fun a w => ∃ j, p j ∧ μ j < m ∧ Holds a n ds (Ef j) ∧ Sat K w (If j) (Lf j)) Q) .normal E I L :=
  fun a w hH hS => ⟨j, hp, hm, hH.weaken hE, by rw [hI]; exact hS.perm hL⟩
end

end Go.Xe
