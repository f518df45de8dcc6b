/- A small logic over the walk's rules: frames as lists of slots, memory as an unchanging part and an owned part. No program is named here. What single operations do, said of the small logic of XXe: no program is named here. Stores, appends and new slices, said of the small logic of XXe: no program is named here. Regions that draw their order; functions' beginnings and ends: over the small logic of XXe. No program is named here. The rules for regions that draw their order, for functions' beginnings and ends, and for handing memory over: over the small logic of XXe. No program is named here. The rules of XXe and XXf, an operation written out, a frame written as a list: for texts made by program. No program is named here. -/
import Derived.CallsIn
import Derived.OrdersIn
import Derived.OrdersHeld
import Derived.TacticsIn
import Derived.Below
import Derived.Laws.World
import Derived.Laws.Cells
import Derived.Laws.CopyRow
import Derived.Laws.BitsLemmas
import Derived.Laws.Bits64
import Derived.Deep.AppendSrc
import Derived.StillTail
namespace Go.Xe
open Go Go.RowKit

def FW (r : Option Nat) : Fence := { fn := fun _ => True, depth := none, alive := false, round := r }
theorem FW_none : FW none = Fence.wide := rfl
theorem FW_in (r : Option Nat) (l : Nat) : (FW r).inRound l = FW (some l) := rfl

/-! frames -/
abbrev Env := List (Nat × Value)
def find : Env → Nat → Option Value
  | [], _ => none
  | (i, v) :: E, t => cond (Nat.beq i t) (some v) (find E t)
def ev (E : Env) : Operand → Option Value
  | .tmp t => find E t
  | .const v => some v
  | .global g => some (.pointer (some ⟨g, 0, none⟩))
  | .func f => some (.func (.func f) #[] #[])

structure Holds (a : Act) (n : Nat) (ds : List Deferred) (E : Env) : Prop where
  size : a.tmps.size = n
  defers : a.defers = ds
  slot : ∀ t v, find E t = some v → a.tmps[t]? = some v

theorem find_cons (i : Nat) (v : Value) (E : Env) (t : Nat) : find ((i, v) :: E) t = if i = t then some v else find E t := by
  simp only [find]
  by_cases h : i = t
  · subst h; simp
  · have : Nat.beq i t = false := by
      cases e : Nat.beq i t with
      | false => rfl
      | true => exact absurd (Nat.eq_of_beq_eq_true e) h
    simp [this, h]

theorem Holds.put {a : Act} {n : Nat} {ds : List Deferred} {E : Env} {d : Nat} {v : Value} (h : Holds a n ds E) (hd : d < n) : Holds (a.put (some d) v) n ds ((d, v) :: E) := by
  refine ⟨by simp [Act.put, h.size], by simp [Act.put, h.defers], fun t u ht => ?_⟩
  rw [find_cons] at ht
  by_cases e : d = t
  · subst e
    simp at ht; subst ht
    simp [Act.put, h.size, hd]
  · rw [if_neg e] at ht
    simp only [Act.put]
    rw [Array.getElem?_setIfInBounds_ne e]
    exact h.slot t u ht

theorem Holds.put_none {a : Act} {n : Nat} {ds : List Deferred} {E : Env} {v : Value} (h : Holds a n ds E) : Holds (a.put none v) n ds E := h

def SubL (E : Env) : Env → Prop
  | [] => True
  | (i, v) :: r => find E i = some v ∧ SubL E r

theorem SubL.sub {E : Env} : ∀ {E' : Env}, SubL E E' → ∀ t v, find E' t = some v → find E t = some v
  | [], _, t, v, h => by simp [find] at h
  | (i, u) :: r, h, t, v, hf => by
    rw [find_cons] at hf
    by_cases e : i = t
    · subst e; simp at hf; subst hf; exact h.1
    · rw [if_neg e] at hf; exact SubL.sub h.2 t v hf

theorem Holds.weaken {a : Act} {n : Nat} {ds : List Deferred} {E E' : Env} (h : Holds a n ds E) (hs : SubL E E') : Holds a n ds E' :=
  ⟨h.size, h.defers, fun t v ht => h.slot t v (hs.sub t v ht)⟩

theorem Holds.ev {a : Act} {n : Nat} {ds : List Deferred} {E : Env} {x : Operand} {v : Value} (h : Holds a n ds E) (hx : ev E x = some v) : a.eval x = v := by
  cases x with
  | tmp t => simp only [Xe.ev] at hx; simp [Act.eval, h.slot t v hx]
  | const u => simp only [Xe.ev, Option.some.injEq] at hx; simp [Act.eval, hx]
  | global g => simp only [Xe.ev, Option.some.injEq] at hx; simp [Act.eval, hx]
  | func f => simp only [Xe.ev, Option.some.injEq] at hx; simp [Act.eval, hx]

/-! memory -/
abbrev Im := Nat → Option Obj
/-- a place of the list may be empty -/
abbrev Own := List (Option (Nat × Obj))
def keys (L : Own) : List Nat := L.filterMap fun x => x.map (·.1)
def Im.le (I I' : Im) : Prop := ∀ b o, I b = some o → I' b = some o
theorem Im.le_refl (I : Im) : I.le I := fun _ _ h => h
theorem Im.le_trans {I J H : Im} (h : I.le J) (k : J.le H) : I.le H := fun b o x => k b o (h b o x)
def Im.add (I : Im) (b : Nat) (o : Obj) : Im := fun k => if k = b then some o else I k

structure Sat (K w : World) (I : Im) (L : Own) : Prop where
  os : w.os = K.os
  tape : w.tape = K.tape
  output : w.output = K.output
  im : ∀ b o, I b = some o → w.heap[b]? = some o
  own : ∀ b o, some (b, o) ∈ L → w.heap[b]? = some o
  nodup : (keys L).Nodup
  apart : ∀ b o, some (b, o) ∈ L → I b = none

theorem mem_keys {L : Own} {b : Nat} : b ∈ keys L ↔ ∃ o, some (b, o) ∈ L := by
  unfold keys
  rw [List.mem_filterMap]
  constructor
  · rintro ⟨x, hx, he⟩
    cases x with
    | none => simp at he
    | some p => obtain ⟨b', o⟩ := p; simp at he; subst he; exact ⟨o, hx⟩
  · rintro ⟨o, h⟩; exact ⟨_, h, rfl⟩

theorem Sat.drew {K w : World} {I : Im} {L : Own} (h : Sat K w I L) : Sat K w.drew I L := ⟨h.os, h.tape, h.output, h.im, h.own, h.nodup, h.apart⟩

theorem lt_of_heap {w : World} {b : Nat} {o : Obj} (h : w.heap[b]? = some o) : b < w.heap.size := (Array.getElem?_eq_some_iff.1 h).1

theorem heap_alloc_old {w : World} {b : Nat} {o o' : Obj} (h : w.heap[b]? = some o) : (w.alloc o').heap[b]? = some o := by
  rw [Below.heap_alloc w o' b (lt_of_heap h)]; exact h
theorem heap_alloc_new (w : World) (o : Obj) : (w.alloc o).heap[w.heap.size]? = some o := by
  show (w.heap.push o)[w.heap.size]? = _
  simp

theorem Sat.fresh_im {K w : World} {I : Im} {L : Own} (h : Sat K w I L) : I w.heap.size = none := by
  cases e : I w.heap.size with
  | none => rfl
  | some o => have := lt_of_heap (h.im _ o e); omega

/-- more world: what was there is there -/
theorem Sat.later {K w w' : World} {I : Im} {L : Own} (h : Sat K w I L) (h1 : w'.os = w.os) (h2 : w'.tape = w.tape) (h3 : w'.output = w.output) (h4 : ∀ (b : Nat) (o : Obj), w.heap[b]? = some o → w'.heap[b]? = some o) : Sat K w' I L :=
  ⟨h1.trans h.os, h2.trans h.tape, h3.trans h.output, fun b o hb => h4 b o (h.im b o hb), fun b o hb => h4 b o (h.own b o hb), h.nodup, h.apart⟩

/-- a block that nobody knows is taken -/
theorem Sat.take {K w : World} {I : Im} {L : Own} {b : Nat} {o : Obj} (h : Sat K w I L) (hb : w.heap[b]? = some o) (hi : I b = none) (hl : b ∉ keys L) : Sat K w I (some (b, o) :: L) := by
  refine ⟨h.os, h.tape, h.output, h.im, fun k x hk => ?_, ?_, fun k x hk => ?_⟩
  · rcases List.mem_cons.1 hk with e | hk
    · cases e; exact hb
    · exact h.own k x hk
  · show (b :: keys L).Nodup
    exact List.nodup_cons.2 ⟨hl, h.nodup⟩
  · rcases List.mem_cons.1 hk with e | hk
    · cases e; exact hi
    · exact h.apart k x hk

theorem Sat.alloc {K w : World} {I : Im} {L : Own} (h : Sat K w I L) (o : Obj) : Sat K (w.alloc o) I (some (w.heap.size, o) :: L) :=
  (h.later (w' := w.alloc o) rfl rfl rfl (fun _ _ hb => heap_alloc_old hb)).take (heap_alloc_new w o) h.fresh_im (fun hm => by
    obtain ⟨x, hx⟩ := mem_keys.1 hm
    have := lt_of_heap (h.own _ _ hx); omega)

theorem keys_sublist {L L' : Own} (h : L'.Sublist L) : (keys L').Sublist (keys L) := h.filterMap _
theorem keys_perm {L L' : Own} (h : L.Perm L') : (keys L).Perm (keys L') := h.filterMap _

/-- what is owned may be given away for good -/
theorem Sat.give {K w : World} {I : Im} {L : Own} {b : Nat} {o : Obj} (h : Sat K w I (some (b, o) :: L)) : Sat K w (I.add b o) L := by
  have hn : (b :: keys L).Nodup := h.nodup
  have hn' := List.nodup_cons.1 hn
  refine ⟨h.os, h.tape, h.output, fun k x hk => ?_, fun k x hk => h.own k x (List.mem_cons_of_mem _ hk), hn'.2, fun k x hk => ?_⟩
  · simp only [Im.add] at hk
    split at hk
    · rename_i e; subst e; cases hk; exact h.own _ _ (List.mem_cons_self ..)
    · exact h.im k x hk
  · simp only [Im.add]
    split
    · rename_i e; subst e; exact absurd (mem_keys.2 ⟨x, hk⟩) hn'.1
    · exact h.apart k x (List.mem_cons_of_mem _ hk)
theorem Im.le_add {I : Im} {b : Nat} {o : Obj} (h : I b = none) : I.le (I.add b o) := fun k x hk => by
  simp only [Im.add]
  split
  · rename_i e; subst e; rw [h] at hk; cases hk
  · exact hk
theorem Im.add_self (I : Im) (b : Nat) (o : Obj) : (I.add b o) b = some o := by simp [Im.add]

theorem Sat.perm {K w : World} {I : Im} {L L' : Own} (h : Sat K w I L) (hp : L.Perm L') : Sat K w I L' :=
  ⟨h.os, h.tape, h.output, h.im, fun b o hm => h.own b o (hp.mem_iff.2 hm), (keys_perm hp).nodup_iff.1 h.nodup, fun b o hm => h.apart b o (hp.mem_iff.2 hm)⟩

theorem Sat.drop {K w : World} {I : Im} {L L' : Own} (h : Sat K w I L) (hs : L'.Sublist L) : Sat K w I L' :=
  ⟨h.os, h.tape, h.output, h.im, fun b o hm => h.own b o (hs.subset hm), (keys_sublist hs).nodup h.nodup, fun b o hm => h.apart b o (hs.subset hm)⟩

theorem Sat.empty {K w : World} {I : Im} {L : Own} (h : Sat K w I L) : Sat K w I (Option.none :: L) :=
  ⟨h.os, h.tape, h.output, h.im, fun b o hm => h.own b o (by simpa using hm), h.nodup, fun b o hm => h.apart b o (by simpa using hm)⟩

/-- the place number i, taken to the front -/
theorem perm_front : ∀ {L : Own} {i : Nat} {x : Option (Nat × Obj)}, L[i]? = some x → L.Perm (x :: L.eraseIdx i)
  | [], _, _, h => by simp at h
  | y :: L, 0, x, h => by simp at h; subst h; exact .refl _
  | y :: L, i + 1, x, h => by
    have := perm_front (L := L) (i := i) (x := x) (by simpa using h)
    exact (this.cons y).trans (.swap x y _)
theorem perm_set : ∀ {L : Own} {i : Nat} {x : Option (Nat × Obj)}, L[i]? = some x → ∀ y, (y :: L.eraseIdx i).Perm (L.set i y)
  | [], _, _, h, _ => by simp at h
  | z :: L, 0, x, h, y => by simp [List.eraseIdx, List.set]
  | z :: L, i + 1, x, h, y => by
    have := perm_set (L := L) (i := i) (x := x) (by simpa using h) y
    exact (List.Perm.swap z y _).trans (this.cons z)

/-- the owned block at place i holds something else -/
theorem Sat.put {K w w' : World} {I : Im} {L : Own} {i : Nat} {b : Nat} {o o' : Obj} (h : Sat K w I L) (hi : L[i]? = some (some (b, o)))
    (ho : w'.os = w.os) (ht : w'.tape = w.tape) (hu : w'.output = w.output)
    (h1 : w'.heap[b]? = some o') (h2 : ∀ k, k ≠ b → w'.heap[k]? = w.heap[k]?) : Sat K w' I (L.set i (some (b, o'))) := by
  refine Sat.perm ?_ (perm_set hi _)
  have h0 := h.perm (perm_front hi)
  have hn : (b :: keys (L.eraseIdx i)).Nodup := h0.nodup
  have hn' := List.nodup_cons.1 hn
  refine ⟨ho.trans h.os, ht.trans h.tape, hu.trans h.output, fun k x hk => ?_, fun k x hk => ?_, hn, fun k x hk => ?_⟩
  · have : k ≠ b := fun e => by subst e; rw [h0.apart _ _ (List.mem_cons_self ..)] at hk; cases hk
    rw [h2 k this]; exact h.im k x hk
  · rcases List.mem_cons.1 hk with e | hk
    · cases e; exact h1
    · have hne : k ≠ b := fun e => hn'.1 (e ▸ mem_keys.2 ⟨x, hk⟩)
      rw [h2 k hne]; exact h0.own k x (List.mem_cons_of_mem _ hk)
  · rcases List.mem_cons.1 hk with e | hk
    · cases e; exact h0.apart _ _ (List.mem_cons_self ..)
    · exact h0.apart k x (List.mem_cons_of_mem _ hk)

/-- the place number i is let go, a new block takes it -/
theorem Sat.renew {K w w' : World} {I : Im} {L : Own} {i : Nat} {x : Option (Nat × Obj)} {o : Obj} (h : Sat K w I L) (hi : L[i]? = some x) (hw : w' = w.alloc o) : Sat K w' I (L.set i (some (w.heap.size, o))) := by
  subst hw
  refine Sat.perm ?_ (perm_set hi _)
  exact ((h.perm (perm_front hi)).drop (List.sublist_cons_self _ _)).alloc o

/-! the least number with a property -/
noncomputable def least (p : Nat → Prop) : Nat := Classical.epsilon fun m => p m ∧ ∀ k, p k → m ≤ k
theorem least_spec {p : Nat → Prop} (h : ∃ k, p k) : p (least p) ∧ ∀ k, p k → least p ≤ k := by
  have : ∃ m, p m ∧ ∀ k, p k → m ≤ k := by
    obtain ⟨k, hk⟩ := h
    induction k using Nat.strongRecOn with
    | _ k ih =>
      by_cases hs : ∃ j, j < k ∧ p j
      · obtain ⟨j, hj, hpj⟩ := hs; exact ih j hj hpj
      · exact ⟨k, hk, fun j hj => Nat.le_of_not_lt fun hlt => hs ⟨j, hlt, hj⟩⟩
  exact Classical.epsilon_spec this
theorem least_mem {p : Nat → Prop} (h : ∃ k, p k) : p (least p) := (least_spec h).1
theorem least_le {p : Nat → Prop} {k : Nat} (h : p k) : least p ≤ k := (least_spec ⟨k, h⟩).2 k h

/-! one operation -/
def Step (P : Program) (r : Option Nat) (K : World) (n : Nat) (ds : List Deferred) (o : Oper) (E : Env) (I : Im) (L : Own) (Post : Value → Im → Own → Prop) : Prop :=
  ∀ (a : Act) (w : World) (Q : Exit → Act → World → Prop) (N : Act → World → Prop), Holds a n ds E → Sat K w I L →
    (∀ v w' I' L', Sat K w' I' L' → Post v I' L' → N (a.put o.dst v) w') → o.wpIn (FW r) 0 P a w N Q

/-- the operation only reads, and yields v -/
def Reads (P : Program) (o : Oper) (E : Env) (I : Im) (L : Own) (v : Value) : Prop :=
  ∀ (K : World) (n : Nat) (ds : List Deferred) (a : Act) (w : World), Holds a n ds E → Sat K w I L → (execOp a.eval o).run P w = .ok (.value v) w

def plainOp (o : Oper) : Bool := match o.op with | .defer _ => false | _ => true
theorem semAt_plain (r : Option Nat) (o : Oper) (ρ : Operand → Value) (h : plainOp o = true) : o.semAt r ρ = execOp ρ o := by
  unfold Oper.semAt
  unfold plainOp at h
  cases r <;> cases ho : o.op <;> simp_all

theorem Reads.step {P : Program} {r : Option Nat} {K : World} {n : Nat} {ds : List Deferred} {o : Oper} {E : Env} {I : Im} {L : Own} {v : Value} (hp : plainOp o = true) (h : Reads P o E I L v) :
    Step P r K n ds o E I L (fun v' I' L' => v' = v ∧ I' = I ∧ L' = L) := by
  intro a w Q N hH hS hN
  refine ⟨fun _ _ => trivial, ?_⟩
  rw [show (FW r).round = r from rfl, semAt_plain r o _ hp, h K n ds a w hH hS]
  exact hN v w I L hS ⟨rfl, rfl, rfl⟩

/-- the operation runs to a value, or to nothing -/
def Runs (P : Program) (o : Oper) (E : Env) (I : Im) (L : Own) (Post : Value → Im → Own → Prop) : Prop :=
  ∀ (K : World) (n : Nat) (ds : List Deferred) (a : Act) (w : World), Holds a n ds E → Sat K w I L →
    ∃ v w' I' L', ((execOp a.eval o).run P w = .ok (.value v) w' ∨ ((execOp a.eval o).run P w = .ok .skip w' ∧ v = undef)) ∧ Sat K w' I' L' ∧ Post v I' L'

theorem Runs.step {P : Program} {r : Option Nat} {K : World} {n : Nat} {ds : List Deferred} {o : Oper} {E : Env} {I : Im} {L : Own} {Post : Value → Im → Own → Prop} (hp : plainOp o = true) (h : Runs P o E I L Post) :
    Step P r K n ds o E I L Post := by
  intro a w Q N hH hS hN
  refine ⟨fun _ _ => trivial, ?_⟩
  obtain ⟨v, w', I', L', hr, hS', hP⟩ := h K n ds a w hH hS
  rw [show (FW r).round = r from rfl, semAt_plain r o _ hp]
  rcases hr with hr | ⟨hr, rfl⟩
  · rw [hr]; exact hN v w' I' L' hS' hP
  · rw [hr]; exact hN undef w' I' L' hS' hP

/-! calls -/
def Enters (P : Program) (f : FuncId) : Prop := ∀ (args : Array Value) (w : World), (callFunc f args).run P w = .ok (.enter f args) w
theorem enters_of {P : Program} {f : FuncId} (h : (match P.funcs[f]? with | some fn => fn.name != "runtime.NumGoroutine" && fn.body.isSome | none => false) = true) : Enters P f := by
  intro args w
  unfold callFunc
  cases hf : P.funcs[f]? with
  | none => simp [hf] at h
  | some fn =>
    simp only [hf, Bool.and_eq_true, bne_iff_ne, ne_eq] at h
    obtain ⟨h1, h2⟩ := h
    cases hb : fn.body with
    | none => simp [hb] at h2
    | some c => simp [hf, h1, hb]

/-- a function's contract: it gives and takes owned blocks, and whatever else is owned stays -/
def FSo (P : Program) (f : FuncId) (args : List Value) (I : Im) (L : Own) (Post : Value → Im → Own → Prop) : Prop :=
  ∀ (K w : World) (Lf : Own), Sat K w I (L ++ Lf) →
    Calls P f args.toArray w fun e w' => ∃ v I' L', e = .returned v ∧ I.le I' ∧ Sat K w' I' (L' ++ Lf) ∧ Post v I' L'
/-- the plain contract: nothing owned comes in, nothing owned goes out -/
def FC (P : Program) (f : FuncId) (args : List Value) (I : Im) (Post : Value → Im → Prop) : Prop :=
  FSo P f args I [] (fun v I' L' => L' = [] ∧ Post v I')

theorem FSo.mono {P : Program} {f : FuncId} {args : List Value} {I : Im} {L : Own} {Post Post' : Value → Im → Own → Prop} (h : FSo P f args I L Post) (hp : ∀ v I' L', I.le I' → Post v I' L' → Post' v I' L') : FSo P f args I L Post' :=
  fun K w Lf hS => (h K w Lf hS).mono fun _ _ ⟨v, I', L', he, hi, hs, hq⟩ => ⟨v, I', L', he, hi, hs, hp v I' L' hi hq⟩

def EvalsTo (E : Env) : List Operand → List Value → Prop
  | [], [] => True
  | x :: xs, v :: vs => ev E x = some v ∧ EvalsTo E xs vs
  | _, _ => False

theorem EvalsTo.map {a : Act} {n : Nat} {ds : List Deferred} {E : Env} (hH : Holds a n ds E) : ∀ {xs : List Operand} {vs : List Value}, EvalsTo E xs vs → xs.map a.eval = vs
  | [], [], _ => rfl
  | x :: xs, v :: vs, h => by simp [hH.ev h.1, EvalsTo.map hH h.2]
  | [], _ :: _, h => h.elim
  | _ :: _, [], h => h.elim

theorem Step.call {P : Program} {r : Option Nat} {K : World} {n : Nat} {ds : List Deferred} {dst : Option Tmp} {ty : TypeId} {pos : String} {after : Array Edge} {g : Option (Nat × Bool)} {E : Env} {I : Im} {L Lf : Own}
    {fo : Operand} {f : FuncId} {fi ca : Array Value} {args : List Operand} {tys : Array TypeId} {vs : List Value} {Post : Value → Im → Own → Prop}
    (hfo : ev E fo = some (.func (.func f) fi ca)) (hf : Enters P f) (hargs : EvalsTo E args vs) (hc : FSo P f (fi.toList ++ vs ++ ca.toList) I L Post) :
    Step P r K n ds { dst, op := .call { callee := .value fo, args := args.toArray, argTypes := tys }, type := ty, pos, after, guard := g } E I (L ++ Lf)
      (fun v I' L' => ∃ L1, I.le I' ∧ Post v I' L1 ∧ L' = L1 ++ Lf) := by
  intro a w Q N hH hS hN
  refine ⟨fun _ _ => trivial, ?_⟩
  rw [show (FW r).round = r from rfl, semAt_plain r _ _ rfl]
  have hrun : (execOp a.eval { dst, op := .call { callee := .value fo, args := args.toArray, argTypes := tys }, type := ty, pos, after, guard := g }).run P w
      = .ok (.enter f (fi.toList ++ vs ++ ca.toList).toArray) w := by
    have hm : (args.toArray.map a.eval) = vs.toArray := by rw [List.map_toArray, EvalsTo.map hH hargs]
    simp only [execOp, resolve, Deferred.ofValue, hH.ev hfo, hm, Sem.run_bind, Sem.run_pure, Result.andThen_ok, invoke]
    have e : (fi ++ vs.toArray ++ ca) = (fi.toList ++ vs ++ ca.toList).toArray := by simp
    rw [e, hf]
  rw [hrun]
  refine ⟨fun h => by simp [FW] at h, ?_⟩
  have hcall := hc K w Lf hS
  have h2 : CallsIn (FW r) 0 P f (fi.toList ++ vs ++ ca.toList).toArray w fun e w' => ∃ v I' L', e = .returned v ∧ I.le I' ∧ Sat K w' I' (L' ++ Lf) ∧ Post v I' L' := callsIn_wide.2 hcall
  refine h2.mono ?_
  rintro e w' ⟨v, I', L1, rfl, hle, hS', hP⟩
  exact hN v w' I' (L1 ++ Lf) hS' ⟨L1, hle, hP, rfl⟩

/-! a region in the text's order -/
def XO (P : Program) (r : Option Nat) (K : World) (n : Nat) (ds : List Deferred) (ops : Array Oper) (Q : Exit → Act → World → Prop) (l : List Oper) (E : Env) (I : Im) (L : Own) : Prop :=
  ∀ a w, Holds a n ds E → Sat K w I L → wpListIn (FW r) 0 P ops Q l a w
def XC (P : Program) (r : Option Nat) (K : World) (n : Nat) (ds : List Deferred) (c : Code) (Q : Exit → Act → World → Prop) (E : Env) (I : Im) (L : Own) : Prop :=
  ∀ a w, Holds a n ds E → Sat K w I L → c.wpIn (FW r) 0 P Q a w
def XQ (K : World) (n : Nat) (ds : List Deferred) (Q : Exit → Act → World → Prop) (e : Exit) (E : Env) (I : Im) (L : Own) : Prop :=
  ∀ a w, Holds a n ds E → Sat K w I L → Q e a w

/-- the frame behind an operation -/
def push (d : Option Tmp) (v : Value) (E : Env) : Env := match d with | some d => (d, v) :: E | none => E
def fits (d : Option Tmp) (n : Nat) : Bool := match d with | some d => Nat.ble (d + 1) n | none => true
theorem Holds.push {a : Act} {n : Nat} {ds : List Deferred} {E : Env} {d : Option Tmp} {v : Value} (h : Holds a n ds E) (hd : fits d n = true) : Holds (a.put d v) n ds (push d v E) := by
  cases d with
  | none => exact h
  | some d => exact h.put (Nat.le_of_ble_eq_true hd)

section
variable {P : Program} {r : Option Nat} {K : World} {n : Nat} {ds : List Deferred} {ops : Array Oper} {Q : Exit → Act → World → Prop} {l : List Oper} {o : Oper} {E E' : Env} {I : Im} {L L' : Own}

def boolOf : Value → Option Bool | .bool c => some c | _ => none
/-- whether the operation is carried out: its guard's slot is known -/
def Wants (ops : Array Oper) (o : Oper) (E : Env) (b : Bool) : Prop :=
  match o.guard with
  | none => b = true
  | some (j, want) => ∃ d v, (ops[j]?).bind (·.dst) = some d ∧ find E d = some v ∧ b = (boolOf v == some want)

theorem Wants.wanted {b : Bool} {a : Act} (hH : Holds a n ds E) (h : Wants ops o E b) : Region.wanted o (yielded ops a.tmps) = b := by
  unfold Wants at h
  unfold Region.wanted
  cases hg : o.guard with
  | none => simp only [hg] at h; simp [h]
  | some jw =>
    obtain ⟨j, want⟩ := jw
    simp only [hg] at h ⊢
    obtain ⟨d, v, h1, h2, h3⟩ := h
    have : yielded ops a.tmps j = boolOf v := by
      unfold yielded
      rw [h1]
      simp only [Option.bind_some, hH.slot d _ h2]
      cases v <;> rfl
    rw [this, h3]

theorem XO.step {Post : Value → Im → Own → Prop} (hw : Wants ops o E true) (hd : fits o.dst n = true) (hs : Step P r K n ds o E I L Post)
    (hk : ∀ v I' L', Post v I' L' → XO P r K n ds ops Q l (push o.dst v E) I' L') : XO P r K n ds ops Q (o :: l) E I L := by
  intro a w hH hS
  unfold wpListIn
  rw [if_pos (hw.wanted hH)]
  exact hs a w Q _ hH hS fun v w' I' L' hS' hP => hk v I' L' hP _ _ (hH.push hd) hS'

theorem XO.read {v : Value} (hp : plainOp o = true) (hw : Wants ops o E true) (hd : fits o.dst n = true) (hs : Reads P o E I L v)
    (hk : XO P r K n ds ops Q l (push o.dst v E) I L) : XO P r K n ds ops Q (o :: l) E I L :=
  XO.step hw hd (Reads.step hp hs) (by rintro v' I' L' ⟨rfl, rfl, rfl⟩; exact hk)

theorem XO.skip (hw : Wants ops o E false) (hd : fits o.dst n = true) (hk : XO P r K n ds ops Q l (push o.dst undef E) I L) : XO P r K n ds ops Q (o :: l) E I L := by
  intro a w hH hS
  unfold wpListIn
  have := hw.wanted hH
  rw [if_neg (by rw [this]; simp)]
  exact ⟨fun _ _ => trivial, hk _ _ (hH.push hd) hS⟩

theorem XO.nil (h : XQ K n ds Q .normal E I L) : XO P r K n ds ops Q [] E I L := fun a w hH hS => h a w hH hS
theorem XO.weaken (hs : SubL E E') (h : XO P r K n ds ops Q l E' I L) : XO P r K n ds ops Q l E I L := fun a w hH hS => h a w (hH.weaken hs) hS
theorem XO.perm (hp : L.Perm L') (h : XO P r K n ds ops Q l E I L') : XO P r K n ds ops Q l E I L := fun a w hH hS => h a w hH (hS.perm hp)
theorem XO.drop (hp : L'.Sublist L) (h : XO P r K n ds ops Q l E I L') : XO P r K n ds ops Q l E I L := fun a w hH hS => h a w hH (hS.drop hp)

/-- a slot that holds a truth value: both ways -/
theorem XO.split {d : Nat} {b : Bool} (hf : find E d = some (.bool b)) (ht : b = true → XO P r K n ds ops Q l ((d, .bool true) :: E) I L)
    (hn : b = false → XO P r K n ds ops Q l ((d, .bool false) :: E) I L) : XO P r K n ds ops Q l E I L := by
  have key : ∀ c, b = c → SubL E ((d, .bool c) :: E) ∨ True := fun _ _ => .inr trivial
  intro a w hH hS
  have hh : ∀ c, b = c → Holds a n ds ((d, .bool c) :: E) := fun c hc => ⟨hH.size, hH.defers, fun t v ht => by
    rw [find_cons] at ht
    by_cases e : d = t
    · subst e; simp at ht; subst ht; rw [← hc]; exact hH.slot d _ hf
    · rw [if_neg e] at ht; exact hH.slot t v ht⟩
  cases hb : b
  · exact hn hb a w (hh false hb) hS
  · exact ht hb a w (hh true hb) hS

/-! code -/
variable {x y c : Code}
theorem XC.seq (h : XC P r K n ds x (Exit.then (y.wpIn (FW r) 0 P Q) Q) E I L) : XC P r K n ds (.seq x y) Q E I L := fun a w hH hS => wpIn_seq (h a w hH hS)
theorem XC.skip (h : XQ K n ds Q .normal E I L) : XC P r K n ds .skip Q E I L := fun a w hH hS => wpIn_skip (h a w hH hS)
theorem XC.ret (h : XQ K n ds Q .ret E I L) : XC P r K n ds .ret Q E I L := fun a w hH hS => wpIn_ret (h a w hH hS)
theorem XC.exit {id : Nat} (h : XQ K n ds Q (.exit id) E I L) : XC P r K n ds (.exit id) Q E I L := fun a w hH hS => wpIn_exit (h a w hH hS)
theorem XC.block {id : Nat} (h : XC P r K n ds c (Exit.inBlock id Q) E I L) : XC P r K n ds (.block id c) Q E I L := fun a w hH hS => wpIn_block (h a w hH hS)
theorem XC.region {id : Nat} {l : List Oper} (h : XO P r K n ds l.toArray Q l E I L) : XC P r K n ds (.region id l.toArray false) Q E I L := fun a w hH hS => wpIn_region_lit (h a w hH hS)
theorem XC.cond {s : Operand} {b : Bool} (hs : ev E s = some (.bool b)) (ht : b = true → XC P r K n ds x Q E I L) (hf : b = false → XC P r K n ds y Q E I L) :
    XC P r K n ds (.cond s x y) Q E I L := fun a w hH hS => wpIn_cond_split (hH.ev hs) (fun h => ht h a w hH hS) (fun h => hf h a w hH hS)
theorem XC.weaken (hs : SubL E E') (h : XC P r K n ds c Q E' I L) : XC P r K n ds c Q E I L := fun a w hH hS => h a w (hH.weaken hs) hS
theorem XC.perm (hp : L.Perm L') (h : XC P r K n ds c Q E I L') : XC P r K n ds c Q E I L := fun a w hH hS => h a w hH (hS.perm hp)
theorem XC.drop (hp : L'.Sublist L) (h : XC P r K n ds c Q E I L') : XC P r K n ds c Q E I L := fun a w hH hS => h a w hH (hS.drop hp)

/-- a loop: the state at each round's head is one of a family -/
theorem XC.loop {ι : Type} (Ef : ι → Env) (If : ι → Im) (Lf : ι → Own) (p : ι → Prop) (μ : ι → Nat) (i₀ : ι) (h₀ : p i₀) (hE : SubL E (Ef i₀)) (hI : If i₀ = I) (hL : L.Perm (Lf i₀))
    (round : ∀ i, p i → XC P r K n ds c (Exit.then (fun a w => ∃ j, p j ∧ μ j < μ i ∧ Holds a n ds (Ef j) ∧ Sat K w (If j) (Lf j)) Q) (Ef i) (If i) (Lf i)) :
    XC P r K n ds (.loop c) Q E I L := by
  intro a w hH hS
  let M : Act → World → Nat → Prop := fun a w k => ∃ i, μ i = k ∧ p i ∧ Holds a n ds (Ef i) ∧ Sat K w (If i) (Lf i)
  refine wpIn_loop (fun a w => ∃ k, M a w k) (fun a w => least (M a w)) ⟨_, i₀, rfl, h₀, hH.weaken hE, by rw [hI]; exact hS.perm hL⟩ ?_
  intro a w hM
  obtain ⟨i, hi, hp, hH, hS⟩ := least_mem hM
  refine wpIn_mono (round i hp a w hH hS) ?_
  intro e a' w' hq
  cases e with
  | normal =>
    obtain ⟨j, hpj, hlt, hHj, hSj⟩ := hq
    have hMj : M a' w' (μ j) := ⟨j, rfl, hpj, hHj, hSj⟩
    exact ⟨⟨_, hMj⟩, by have := least_le hMj; omega⟩
  | _ => exact hq

theorem XQ.then_normal {y : Code} (h : XC P r K n ds y Q E I L) : XQ K n ds (Exit.then (y.wpIn (FW r) 0 P Q) Q) .normal E I L := fun a w hH hS => h a w hH hS
theorem XQ.then_ret {N : Act → World → Prop} (h : XQ K n ds Q .ret E I L) : XQ K n ds (Exit.then N Q) .ret E I L := h
theorem XQ.then_exit {N : Act → World → Prop} {id : Nat} (h : XQ K n ds Q (.exit id) E I L) : XQ K n ds (Exit.then N Q) (.exit id) E I L := h
theorem XQ.block_normal {id : Nat} (h : XQ K n ds Q .normal E I L) : XQ K n ds (Exit.inBlock id Q) .normal E I L := h
theorem XQ.block_ret {id : Nat} (h : XQ K n ds Q .ret E I L) : XQ K n ds (Exit.inBlock id Q) .ret E I L := h
theorem XQ.block_exit {id : Nat} (h : XQ K n ds Q .normal E I L) : XQ K n ds (Exit.inBlock id Q) (.exit id) E I L := fun a w hH hS => by simp only [Exit.inBlock, if_true]; exact h a w hH hS
theorem XQ.block_out {id id' : Nat} (hne : Nat.beq id' id = false) (h : XQ K n ds Q (.exit id') E I L) : XQ K n ds (Exit.inBlock id Q) (.exit id') E I L := fun a w hH hS => by
  have : ¬ id' = id := fun e => by subst e; simp at hne
  simp only [Exit.inBlock, this, if_false]; exact h a w hH hS
theorem XQ.back {ι : Type} {Ef : ι → Env} {If : ι → Im} {Lf : ι → Own} {p : ι → Prop} {μ : ι → Nat} {m : Nat} (j : ι) (hp : p j) (hm : μ j < m) (hE : SubL E (Ef j)) (hI : If j = I) (hL : L.Perm (Lf j)) :
    XQ K n ds (Exit.then (fun a w => ∃ j, p j ∧ μ j < m ∧ Holds a n ds (Ef j) ∧ Sat K w (If j) (Lf j)) Q) .normal E I L :=
  fun a w hH hS => ⟨j, hp, hm, hH.weaken hE, by rw [hI]; exact hS.perm hL⟩
end

end Go.Xe
namespace Go.Xe
open Go Go.RowKit

/-! what the program's tables say of a type -/
def kindOf (P : Program) (t : TypeId) : Option Bool := (P.underlying t).map fun d => match d with | .struct _ | .array _ _ => true | _ => false
def szOf (P : Program) (t : TypeId) : Option Nat := (P.info? t).map (·.size)
def zeroOf (P : Program) (t : TypeId) : Option Value := (P.info? t).bind (·.zero)
def bytesOf (P : Program) (t : TypeId) : Option Nat := (P.info? t).map (·.bytes)

section
variable {P : Program} {w : World} {t : TypeId}
theorem run_sizeOf {n : Nat} (h : szOf P t = some n) : (sizeOf t).run P w = .ok n w := by
  unfold szOf at h
  cases hi : P.info? t with
  | none => simp [hi] at h
  | some i => simp [hi] at h; simp [sizeOf, typeInfo, hi, h]
theorem run_isAgg {b : Bool} (h : kindOf P t = some b) : (isAgg t).run P w = .ok b w := by
  unfold kindOf at h
  cases hu : P.underlying t with
  | none => simp [hu] at h
  | some d =>
    simp only [hu, Option.map_some, Option.some.injEq] at h
    simp only [isAgg, underlying, Sem.run_bind, run_program, Result.andThen_ok, hu, Sem.run_pure]
    cases d <;> simp_all
theorem run_zeroValue {v : Value} (h : zeroOf P t = some v) : (zeroValue t).run P w = .ok v w := by
  unfold zeroOf at h
  cases hi : P.info? t with
  | none => simp [hi] at h
  | some i => simp [hi] at h; simp [zeroValue, typeInfo, hi, h]
theorem run_under {d : TypeDesc} (h : P.underlying t = some d) : (underlying t).run P w = .ok d w := by simp [underlying, h]
end

/-! reading memory -/
/-- the unchanging part holds v at the k-th cell behind a -/
def At (I : Im) (a : Option Addr) (k : Nat) (v : Value) : Prop := ∃ b off c e fr, a = some ⟨b, off, none⟩ ∧ I b = some (.cells c e fr) ∧ c[off + k]? = some v
theorem At.mono {I I' : Im} {a : Option Addr} {k : Nat} {v : Value} (hle : I.le I') (h : At I a k v) : At I' a k v :=
  let ⟨b, off, c, e, fr, h1, h2, h3⟩ := h; ⟨b, off, c, e, fr, h1, hle _ _ h2, h3⟩
theorem At.isSome {I : Im} {a : Option Addr} {k : Nat} {v : Value} (h : At I a k v) : a.isSome = true := by obtain ⟨b, off, c, e, fr, rfl, _⟩ := h; rfl
def slot (a : Option Addr) (k : Nat) : Option Addr := a.map (·.add k)
theorem add_plain (b o k : Nat) : (⟨b, o, none⟩ : Addr).add k = ⟨b, o + k, none⟩ := by unfold Addr.add; split <;> simp_all
theorem slot_some (b o k : Nat) : slot (some ⟨b, o, none⟩) k = some ⟨b, o + k, none⟩ := by simp [slot, add_plain]

/-- the owned part holds v at the k-th cell of block b -/
def OwnAt (L : Own) (b k : Nat) (v : Value) : Prop := ∃ c e fr, some (b, Obj.cells c e fr) ∈ L ∧ c[k]? = some v
theorem OwnAt.of {L : Own} {b k : Nat} {v : Value} {c : Array Value} {e : TypeId} {fr : Nat × Nat} (i : Nat) (h : L[i]? = some (some (b, .cells c e fr))) (hc : c.toList[k]? = some v) : OwnAt L b k v :=
  ⟨c, e, fr, List.mem_of_getElem? h, by simpa using hc⟩

theorem Sat.ownAt {K w : World} {I : Im} {L : Own} {b k : Nat} {v : Value} (hS : Sat K w I L) (h : OwnAt L b k v) : w.cell? ⟨b, k, none⟩ = some v := by
  obtain ⟨c, e, fr, hm, hc⟩ := h
  simp [World.cell?, hS.own _ _ hm, hc]
theorem Sat.at_ {K w : World} {I : Im} {L : Own} {a : Option Addr} {k : Nat} {v : Value} (hS : Sat K w I L) (h : At I a k v) : ∃ x, slot a k = some x ∧ w.cell? x = some v := by
  obtain ⟨b, off, c, e, fr, rfl, hb, hc⟩ := h
  exact ⟨_, slot_some b off k, by simp [World.cell?, hS.im _ _ hb, hc]⟩

section
variable {P : Program} {dst : Option Tmp} {ty : TypeId} {pos : String} {after : Array Edge} {guard : Option (Nat × Bool)} {E : Env} {I : Im} {L : Own}

theorem Reads.move {x : Operand} {v : Value} (h : ev E x = some v) : Reads P { dst, op := .move x, type := ty, pos, after, guard } E I L v :=
  fun _ _ _ a w hH _ => by simp [execOp, hH.ev h]
theorem Reads.assign {x : Operand} {v : Value} (h : ev E x = some v) : Reads P { dst, op := .assign x, type := ty, pos, after, guard } E I L v :=
  fun _ _ _ a w hH _ => by simp [execOp, hH.ev h]
theorem Reads.pick_true {c x y : Operand} {v : Value} (hc : ev E c = some (.bool true)) (h : ev E x = some v) : Reads P { dst, op := .pick c x y, type := ty, pos, after, guard } E I L v :=
  fun _ _ _ a w hH _ => by simp [execOp, hH.ev hc, hH.ev h, asBool]
theorem Reads.pick_false {c x y : Operand} {v : Value} (hc : ev E c = some (.bool false)) (h : ev E y = some v) : Reads P { dst, op := .pick c x y, type := ty, pos, after, guard } E I L v :=
  fun _ _ _ a w hH _ => by simp [execOp, hH.ev hc, hH.ev h, asBool]
theorem Reads.extract {x : Operand} {vs : Array Value} {i : Nat} {v : Value} (hx : ev E x = some (.tuple vs)) (hv' : vs.toList[i]? = some v) : Reads P { dst, op := .extract x i, type := ty, pos, after, guard } E I L v :=
  fun _ _ _ a w hH _ => by
    have hv : vs[i]? = some v := by simpa using hv'
    simp [execOp, hH.ev hx, Instr.extract, hv]

/-- arithmetic on two integers, before it is cut to size -/
theorem Reads.arith {op : BinOp} {xt yt : TypeId} {x y : Operand} {k : IntKind} {m n : Int} {v : Value} (hx : ev E x = some (.int k m)) (hy : ev E y = some (.int k n))
    (hop : (match op with | .add => some (m + n) | .sub => some (m - n) | .mul => some (m * n) | _ => none).map (fun z => Value.int k (k.wrap z)) = some v) :
    Reads P { dst, op := .binOp op xt x y yt, type := ty, pos, after, guard } E I L v :=
  fun _ _ _ a w hH _ => by cases op <;> simp at hop <;> subst hop <;> simp [execOp, hH.ev hx, hH.ev hy, binOp, eqGuard, Op.intArith]
theorem wrap_in {m : Int} (h : -9223372036854775808 ≤ m ∧ m ≤ 9223372036854775807) : IntKind.i64.wrap m = m := by rw [IntKind.wrap_i64]; omega
theorem Reads.add {xt yt : TypeId} {x y : Operand} {m n : Int} (hx : ev E x = some (.int .i64 m)) (hy : ev E y = some (.int .i64 n)) (hr : -9223372036854775808 ≤ m + n ∧ m + n ≤ 9223372036854775807) :
    Reads P { dst, op := .binOp .add xt x y yt, type := ty, pos, after, guard } E I L (.int .i64 (m + n)) := Reads.arith hx hy (by simp [wrap_in hr])
theorem Reads.sub {xt yt : TypeId} {x y : Operand} {m n : Int} (hx : ev E x = some (.int .i64 m)) (hy : ev E y = some (.int .i64 n)) (hr : -9223372036854775808 ≤ m - n ∧ m - n ≤ 9223372036854775807) :
    Reads P { dst, op := .binOp .sub xt x y yt, type := ty, pos, after, guard } E I L (.int .i64 (m - n)) := Reads.arith hx hy (by simp [wrap_in hr])
theorem Reads.mul {xt yt : TypeId} {x y : Operand} {m n : Int} (hx : ev E x = some (.int .i64 m)) (hy : ev E y = some (.int .i64 n)) (hr : -9223372036854775808 ≤ m * n ∧ m * n ≤ 9223372036854775807) :
    Reads P { dst, op := .binOp .mul xt x y yt, type := ty, pos, after, guard } E I L (.int .i64 (m * n)) := Reads.arith hx hy (by simp [wrap_in hr])
theorem Reads.neg {xt : TypeId} {x : Operand} {m : Int} (hx : ev E x = some (.int .i64 m)) (hr : -9223372036854775807 ≤ m ∧ m ≤ 9223372036854775807) :
    Reads P { dst, op := .unOp .neg xt x, type := ty, pos, after, guard } E I L (.int .i64 (-m)) :=
  fun _ _ _ a w hH _ => by
    have : IntKind.i64.wrap (-m) = -m := wrap_in (by omega)
    simp [execOp, hH.ev hx, Op.unary, Op.intArith, this]
theorem Reads.not {xt : TypeId} {x : Operand} {b : Bool} (hx : ev E x = some (.bool b)) :
    Reads P { dst, op := .unOp .not xt x, type := ty, pos, after, guard } E I L (.bool (!b)) := fun _ _ _ a w hH _ => by simp [execOp, hH.ev hx, Op.unary]
/-- the quotient and the rest by a positive number -/
theorem Reads.quo {xt yt : TypeId} {x y : Operand} {m n : Int} (hx : ev E x = some (.int .i64 m)) (hy : ev E y = some (.int .i64 n)) (hm : 0 ≤ m ∧ m ≤ 9223372036854775807) (hn : 1 ≤ n) :
    Reads P { dst, op := .binOp .quo xt x y yt, type := ty, pos, after, guard } E I L (.int .i64 (m / n)) :=
  fun _ _ _ a w hH _ => by
    have h1 : m.tdiv n = m / n := Int.tdiv_eq_ediv_of_nonneg hm.1
    have h2 : IntKind.i64.wrap (m / n) = m / n := wrap_in ⟨by have := Int.ediv_nonneg hm.1 (by omega : 0 ≤ n); omega, by have := Int.ediv_le_self n hm.1; omega⟩
    have h3 : ¬ n = 0 := by omega
    simp [execOp, hH.ev hx, hH.ev hy, binOp, eqGuard, Op.intDiv, h1, h2, h3]
theorem Reads.rem {xt yt : TypeId} {x y : Operand} {m n : Int} (hx : ev E x = some (.int .i64 m)) (hy : ev E y = some (.int .i64 n)) (hm : 0 ≤ m) (hn : 1 ≤ n) :
    Reads P { dst, op := .binOp .rem xt x y yt, type := ty, pos, after, guard } E I L (.int .i64 (m % n)) :=
  fun _ _ _ a w hH _ => by
    have h1 : m.tmod n = m % n := Int.tmod_eq_emod_of_nonneg hm
    have h3 : ¬ n = 0 := by omega
    simp [execOp, hH.ev hx, hH.ev hy, binOp, eqGuard, Op.intDiv, h1, h3]

/-- two integers are compared -/
def cmpInt (op : BinOp) (m n : Int) : Bool :=
  match op with
  | .eql => m == n | .neq => m != n | .lss => decide (m < n) | .leq => decide (m ≤ n) | .gtr => decide (m > n) | .geq => decide (m ≥ n) | _ => false
def isCmp : BinOp → Bool | .eql | .neq | .lss | .leq | .gtr | .geq => true | _ => false
theorem Reads.cmp {op : BinOp} {xt yt : TypeId} {x y : Operand} {k : IntKind} {m n : Int} (hop : isCmp op = true) (hx : ev E x = some (.int k m)) (hy : ev E y = some (.int k n)) :
    Reads P { dst, op := .binOp op xt x y yt, type := ty, pos, after, guard } E I L (.bool (cmpInt op m n)) :=
  fun _ _ _ a w hH _ => by cases op <;> simp [isCmp] at hop <;> simp [execOp, hH.ev hx, hH.ev hy, binOp, eqGuard, Op.intCmp, cmpInt]

/-! addresses and loads -/
theorem Reads.field_at {s : TypeId} {x : Operand} {f : Nat} {fs : Array Field} {fd : Field} {b o n off : Nat} (hu : P.underlying s = some (.struct fs)) (hf : fs[f]? = some fd) (hn : szOf P fd.type = some (n + 1)) (hoff : fd.offset = off)
    (hx : ev E x = some (.pointer (some ⟨b, o, none⟩))) : Reads P { dst, op := .fieldAddr s x f, type := ty, pos, after, guard } E I L (.pointer (some ⟨b, o + off, none⟩)) :=
  fun _ _ _ a w hH _ => by
    subst hoff
    simp [execOp, hH.ev hx, Instr.fieldAt, run_under hu, hf, Instr.sureAddr, fieldPlace, run_sizeOf hn, add_plain]
theorem Reads.field_slot {s : TypeId} {x : Operand} {f : Nat} {fs : Array Field} {fd : Field} {p : Option Addr} {k n off : Nat} (hu : P.underlying s = some (.struct fs)) (hf : fs[f]? = some fd) (hn : szOf P fd.type = some (n + 1)) (hoff : fd.offset = off)
    (hx : ev E x = some (.pointer (slot p k))) (hp : ∃ b o, p = some ⟨b, o, none⟩) : Reads P { dst, op := .fieldAddr s x f, type := ty, pos, after, guard } E I L (.pointer (slot p (k + off))) :=
  fun _ _ _ a w hH _ => by
    subst hoff
    obtain ⟨b, o, rfl⟩ := hp
    rw [slot_some] at hx
    simp [execOp, hH.ev hx, Instr.fieldAt, run_under hu, hf, Instr.sureAddr, fieldPlace, run_sizeOf hn, add_plain, slot_some, Nat.add_assoc]

theorem Reads.load_own {t : TypeId} {x : Operand} {b o : Nat} {v : Value} (hk : kindOf P t = some false) (hx : ev E x = some (.pointer (some ⟨b, o, none⟩))) (hc : OwnAt L b o v) :
    Reads P { dst, op := .load t x, type := ty, pos, after, guard } E I L v :=
  fun _ _ _ a w hH hS => by
    simp [execOp, hH.ev hx, Instr.loadAt, Instr.sureAddr, loadVar, run_isAgg hk, hS.ownAt hc]
theorem Reads.load_at {t : TypeId} {x : Operand} {p : Option Addr} {k : Nat} {v : Value} (hk : kindOf P t = some false) (hx : ev E x = some (.pointer (slot p k))) (hc : At I p k v) :
    Reads P { dst, op := .load t x, type := ty, pos, after, guard } E I L v :=
  fun _ _ _ a w hH hS => by
    obtain ⟨y, hy, hc⟩ := hS.at_ hc
    rw [hy] at hx
    simp [execOp, hH.ev hx, Instr.loadAt, Instr.sureAddr, loadVar, run_isAgg hk, hc]
theorem Reads.load_agg_own {t : TypeId} {x : Operand} {b o : Nat} {vs : List Value} (hk : kindOf P t = some true) (hs : szOf P t = some vs.length) (hx : ev E x = some (.pointer (some ⟨b, o, none⟩)))
    (hc : ∀ j v, vs[j]? = some v → OwnAt L b (o + j) v) : Reads P { dst, op := .load t x, type := ty, pos, after, guard } E I L (.agg vs.toArray) :=
  fun _ _ _ a w hH hS => by
    have hl := run_loadCells_list (P := P) w ⟨b, o, none⟩ vs (fun j v hj => by rw [add_plain]; exact hS.ownAt (hc j v hj))
    simp [execOp, hH.ev hx, Instr.loadAt, Instr.sureAddr, loadVar, run_isAgg hk, run_sizeOf hs, hl]
theorem Reads.load_agg_at {t : TypeId} {x : Operand} {p : Option Addr} {k : Nat} {vs : List Value} (hk : kindOf P t = some true) (hs : szOf P t = some vs.length) (hx : ev E x = some (.pointer (slot p k)))
    (hp : ∃ b o, p = some ⟨b, o, none⟩) (hc : ∀ j v, vs[j]? = some v → At I p (k + j) v) : Reads P { dst, op := .load t x, type := ty, pos, after, guard } E I L (.agg vs.toArray) :=
  fun _ _ _ a w hH hS => by
    obtain ⟨b, o, rfl⟩ := hp
    have hl := run_loadCells_list (P := P) w ⟨b, o + k, none⟩ vs (fun j v hj => by
      obtain ⟨y, hy, hc'⟩ := hS.at_ (hc j v hj)
      rw [slot_some] at hy
      rw [add_plain]
      cases hy
      simpa [Nat.add_assoc] using hc')
    rw [slot_some] at hx
    simp [execOp, hH.ev hx, Instr.loadAt, Instr.sureAddr, loadVar, run_isAgg hk, run_sizeOf hs, hl]

/-- an owned block, read whole -/
def WholeAt (L : Own) (b : Nat) (c : Array Value) : Prop := ∃ e fr, some (b, Obj.cells c e fr) ∈ L
theorem WholeAt.of {L : Own} {b : Nat} {c : Array Value} {e : TypeId} {fr : Nat × Nat} (i : Nat) (h : L[i]? = some (some (b, .cells c e fr))) : WholeAt L b c := ⟨e, fr, List.mem_of_getElem? h⟩
theorem Reads.load_whole {t : TypeId} {x : Operand} {b m : Nat} {c : Array Value} (hk : kindOf P t = some true) (hs : szOf P t = some m) (hx : ev E x = some (.pointer (some ⟨b, 0, none⟩))) (hc : WholeAt L b c) (hm : c.size = m) :
    Reads P { dst, op := .load t x, type := ty, pos, after, guard } E I L (.agg c) := by
  have := Reads.load_agg_own (P := P) (dst := dst) (ty := ty) (pos := pos) (after := after) (guard := guard) (E := E) (I := I) (L := L) (vs := c.toList) hk (by rw [hs, ← hm]; simp) hx (fun j v hj => by
    obtain ⟨e, fr, h⟩ := hc
    exact ⟨c, e, fr, h, by simpa using hj⟩)
  simpa using this
theorem Reads.index_own {t e : TypeId} {x ix : Operand} {b o n cap s q : Nat} {i : Int} {k : IntKind} (hu : P.underlying t = some (.slice e)) (hs : szOf P e = some s)
    (hx : ev E x = some (.slice (some ⟨b, o, none⟩) n cap)) (hi : ev E ix = some (.int k i)) (hr : 0 ≤ i ∧ i < n) (hq : o + i.toNat * s = q) :
    Reads P { dst, op := .indexAddr t x ix, type := ty, pos, after, guard } E I L (.pointer (some ⟨b, q, none⟩)) :=
  fun _ _ _ a w hH _ => by
    subst hq
    simp [execOp, hH.ev hx, hH.ev hi, Instr.indexAt, asIntOf, run_under hu, hr, run_sizeOf hs, add_plain]
theorem Reads.index_slot {t e : TypeId} {x ix : Operand} {p : Option Addr} {n cap s q : Nat} {i : Int} {k : IntKind} (hu : P.underlying t = some (.slice e)) (hs : szOf P e = some s)
    (hx : ev E x = some (.slice p n cap)) (hi : ev E ix = some (.int k i)) (hr : 0 ≤ i ∧ i < n) (hp : p.isSome = true) (hq : i.toNat * s = q) :
    Reads P { dst, op := .indexAddr t x ix, type := ty, pos, after, guard } E I L (.pointer (slot p q)) :=
  fun _ _ _ a w hH _ => by
    subst hq
    obtain ⟨A, rfl⟩ := Option.isSome_iff_exists.1 hp
    simp [execOp, hH.ev hx, hH.ev hi, Instr.indexAt, asIntOf, run_under hu, hr, run_sizeOf hs, slot]

theorem Reads.len_slice {t : TypeId} {x : Operand} {e : TypeId} {p : Option Addr} {n cap : Nat} (hu : P.underlying t = some (.slice e)) (hx : ev E x = some (.slice p n cap)) :
    Reads P { dst, op := .call { callee := .builtin .len, args := #[x], argTypes := #[t] }, type := ty, pos, after, guard } E I L (.int .i64 n) :=
  fun _ _ _ a w hH _ => by simp [execOp, hH.ev hx, resolve, invoke, builtin, Builtin.len_, run_under hu, goInt]
theorem Reads.len_string {t : TypeId} {x : Operand} {s : ByteArray} (hu : P.underlying t = some .string) (hx : ev E x = some (.string s)) :
    Reads P { dst, op := .call { callee := .builtin .len, args := #[x], argTypes := #[t] }, type := ty, pos, after, guard } E I L (.int .i64 s.size) :=
  fun _ _ _ a w hH _ => by simp [execOp, hH.ev hx, resolve, invoke, builtin, Builtin.len_, run_under hu, goInt]
theorem Reads.min {t u : TypeId} {x y : Operand} {k : IntKind} {m n : Int} (hx : ev E x = some (.int k m)) (hy : ev E y = some (.int k n)) :
    Reads P { dst, op := .call { callee := .builtin .min, args := #[x, y], argTypes := #[t, u] }, type := ty, pos, after, guard } E I L (.int k (Min.min m n)) :=
  fun _ _ _ a w hH _ => by
    have : (if n < m then n else m) = Min.min m n := by simp only [Int.min_def]; split <;> split <;> omega
    simp [execOp, hH.ev hx, hH.ev hy, resolve, invoke, builtin, Builtin.min_, Builtin.min2, this]
theorem Reads.makeFunc {fn : Fn} {fi ca : List Operand} {fv cv : List Value} (hf : EvalsTo E fi fv) (hc : EvalsTo E ca cv) :
    Reads P { dst, op := .makeFunc fn fi.toArray ca.toArray, type := ty, pos, after, guard } E I L (.func fn fv.toArray cv.toArray) :=
  fun _ _ _ a w hH _ => by simp [execOp, Instr.makeFunc, EvalsTo.map hH hf, EvalsTo.map hH hc]

/-! operations that make memory, or write it -/
theorem Runs.box {t : TypeId} {x : Operand} {v : Value} (hx : ev E x = some v) :
    Runs P { dst, op := .box t x, type := ty, pos, after, guard } E I L (fun u I' L' => ∃ b, u = .pointer (some ⟨b, 0, none⟩) ∧ I' = I ∧ L' = some (b, .cells v.cells t (0, 0)) :: L) :=
  fun _ _ _ a w hH hS => ⟨_, _, I, _, .inl (by simp [execOp, hH.ev hx, Instr.box, newVar, newRow]), hS.alloc (.cells v.cells t), _, rfl, rfl, rfl⟩
theorem Runs.alloc {t : TypeId} {z : Value} (hz : zeroOf P t = some z) :
    Runs P { dst, op := .alloc t, type := ty, pos, after, guard } E I L (fun u I' L' => ∃ b, u = .pointer (some ⟨b, 0, none⟩) ∧ I' = I ∧ L' = some (b, .cells z.cells t (0, 0)) :: L) :=
  fun _ _ _ a w hH hS => ⟨_, _, I, _, .inl (by simp [execOp, Instr.alloc, run_zeroValue hz, newVar, newRow]), hS.alloc (.cells z.cells t), _, rfl, rfl, rfl⟩

end
end Go.Xe
namespace Go.Xe
open Go Go.RowKit

section
variable {P : Program} {dst : Option Tmp} {ty : TypeId} {pos : String} {after : Array Edge} {guard : Option (Nat × Bool)} {E : Env} {I : Im} {L : Own}

/-- a whole row of cells is written -/
theorem Sat.setRow {K w : World} {I : Im} {L : Own} {i b : Nat} {c c' : Array Value} {e : TypeId} {fr : Nat × Nat} (h : Sat K w I L) (hi : L[i]? = some (some (b, .cells c e fr))) :
    Sat K (w.setRow b c') I (L.set i (some (b, .cells c' e fr))) :=
  h.put hi rfl rfl rfl (setRow_heap w b c c' e fr (h.own _ _ (List.mem_of_getElem? hi))) (fun k hk => setRow_other w b k c' hk)

theorem Runs.store {t : TypeId} {x y : Operand} {b o : Nat} {v : Value} {c : Array Value} {e : TypeId} (i : Nat) (hs : szOf P t = some 1) (hx : ev E x = some (.pointer (some ⟨b, o, none⟩))) (hy : ev E y = some v)
    (h1 : v.oneCell' = true) (hi : L[i]? = some (some (b, .cells c e (0, 0)))) (ho : o < c.size) :
    Runs P { dst, op := .store t x y, type := ty, pos, after, guard } E I L (fun u I' L' => u = undef ∧ I' = I ∧ L' = L.set i (some (b, .cells (c.setIfInBounds o v) e (0, 0)))) := by
  intro K n ds a w hH hS
  have hb := hS.own _ _ (List.mem_of_getElem? hi)
  have hcell : w.cell? ⟨b, o, none⟩ = some c[o] := by simp [World.cell?, hb, ho]
  have hfro : w.frozen? ⟨b, o, none⟩ = false := by simp [World.frozen?, hb]
  have hc : v.cells = #[v] := by cases v <;> simp_all [Value.oneCell', Value.cells]
  have hst : (Go.store ⟨b, o, none⟩ v).run P w = .ok () (w.setRow b (c.setIfInBounds o v)) := by
    rw [run_store P w _ v _ h1, hcell]; simp [hfro, setCell_eq_setRow w b o c e (0, 0) v hb]
  refine ⟨undef, _, I, _, .inr ⟨?_, rfl⟩, hS.setRow hi, rfl, rfl, rfl⟩
  simp [execOp, hH.ev hx, hH.ev hy, Instr.storeAt, Instr.sureAddr, storeVar, run_sizeOf hs, hc, storeCells, add_plain, hst]

/-- a struct or an array is stored -/
theorem Runs.store_agg {t : TypeId} {x y : Operand} {b o : Nat} {vs : List Value} {c : Array Value} {e : TypeId} (i : Nat) (hs : szOf P t = some vs.length) (hx : ev E x = some (.pointer (some ⟨b, o, none⟩))) (hy : ev E y = some (.agg vs.toArray))
    (h1 : ∀ v ∈ vs, v.oneCell' = true) (hi : L[i]? = some (some (b, .cells c e (0, 0)))) (ho : o + vs.length ≤ c.size) :
    Runs P { dst, op := .store t x y, type := ty, pos, after, guard } E I L (fun u I' L' => u = undef ∧ I' = I ∧ L' = L.set i (some (b, .cells (c.toList.take o ++ vs ++ c.toList.drop (o + vs.length)).toArray e (0, 0)))) := by
  intro K n ds a w hH hS
  have hb := hS.own _ _ (List.mem_of_getElem? hi)
  have hst := run_storeCells_at P b o e vs 0 c w hb (by simpa using ho) h1
  refine ⟨undef, _, I, _, .inr ⟨?_, rfl⟩, hS.setRow hi, rfl, rfl, rfl⟩
  simp [execOp, hH.ev hx, hH.ev hy, Instr.storeAt, Instr.sureAddr, storeVar, run_sizeOf hs, Value.cells, hst]

/-- where n cells can be read: in the unchanging part, or in the owned one -/
def Readable (I : Im) (L : Own) (p : Option Addr) (cs : List Value) : Prop :=
  cs = [] ∨ (∀ j v, cs[j]? = some v → At I p j v) ∨ (∃ b o, p = some ⟨b, o, none⟩ ∧ ∀ j v, cs[j]? = some v → OwnAt L b (o + j) v)

theorem Readable.first {K w : World} {p : Option Addr} {cs : List Value} (hS : Sat K w I L) (h : Readable I L p cs) (s m n c : Nat) (hl : cs.length = m * s) :
    (Builtin.firstCells s m (.slice p n c)).run P w = .ok cs.toArray w := by
  rcases h with rfl | h | ⟨b, o, rfl, h⟩
  · have : m * s = 0 := by simpa using hl.symm
    cases p with
    | none => simp [Builtin.firstCells]
    | some A => simp [Builtin.firstCells, this, loadCells, loadCellsFrom]
  · by_cases hc : cs = []
    · subst hc
      have : m * s = 0 := by simpa using hl.symm
      cases p with
      | none => simp [Builtin.firstCells]
      | some A => simp [Builtin.firstCells, this, loadCells, loadCellsFrom]
    · obtain ⟨v0, hv0⟩ : ∃ v, cs[0]? = some v := by
        cases cs with
        | nil => exact absurd rfl hc
        | cons v r => exact ⟨v, rfl⟩
      obtain ⟨b, off, c0, e, fr, rfl, _⟩ := h 0 v0 hv0
      have := run_loadCells_list (P := P) w ⟨b, off, none⟩ cs (fun j v hj => by
        obtain ⟨y, hy, hc'⟩ := hS.at_ (h j v hj)
        rw [slot_some] at hy
        rw [add_plain]; cases hy; exact hc')
      rw [hl] at this
      simpa [Builtin.firstCells] using this
  · have := run_loadCells_list (P := P) w ⟨b, o, none⟩ cs (fun j v hj => by rw [add_plain]; exact hS.ownAt (h j v hj))
    rw [hl] at this
    simpa [Builtin.firstCells] using this

/-- what an append is given to append -/
inductive News (P : Program) (I : Im) (L : Own) (s : Nat) (tx : TypeId) : Value → Nat → List Value → Prop where
  | slice {e' : TypeId} {p : Option Addr} {m c : Nat} {cs : List Value} (hu : P.underlying tx = some (.slice e')) (hr : Readable I L p cs) (hl : cs.length = m * s) (h1 : ∀ v ∈ cs, v.oneCell' = true) : News P I L s tx (.slice p m c) m cs
  | string {b : ByteArray} (hu : P.underlying tx = some .string) (hs : s = 1) : News P I L s tx (.string b) b.size (byteCells b)

theorem News.src {K w : World} {s : Nat} {tx : TypeId} {x : Value} {m : Nat} {cs : List Value} (hS : Sat K w I L) (h : News P I L s tx x m cs) : Src P s tx x m cs w := by
  cases h with
  | slice hu hr hl h1 => exact ⟨.inl ⟨_, hu⟩, fun _ => rfl, hr.first hS s m m _ hl, hr.first hS.drew s m m _ hl, hl, h1⟩
  | string hu hs => subst hs; exact Src.ofString w hu _

/-- the facts on an element's type -/
structure Elem (P : Program) (e : TypeId) (s : Nat) (z : Value) (by_ : Nat) : Prop where
  size : szOf P e = some s
  zero : zeroOf P e = some z
  bytes : bytesOf P e = some by_
  cells : z.cells.size = s
theorem Elem.info {e : TypeId} {s : Nat} {z : Value} {by_ : Nat} (h : Elem P e s z by_) : ∃ i, P.info? e = some i ∧ i.size = s ∧ i.zero = some z ∧ i.bytes = by_ := by
  obtain ⟨h1, h2, h3, _⟩ := h
  unfold szOf at h1; unfold zeroOf at h2; unfold bytesOf at h3
  cases hi : P.info? e with
  | none => simp [hi] at h1
  | some i => simp [hi] at h1 h2 h3; exact ⟨i, rfl, h1, h2, h3⟩

theorem grownCap_le (w : World) (need old : Nat) (e : TypeId) : need ≤ grownCap w need old e := by
  show need ≤ need + _ % _; omega

/-- an owned, growing slice -/
structure Vec where
  blk : Option (Nat × Array Value)
  len : Nat
  cap : Nat
@[reducible] def Vec.addr (V : Vec) : Option Addr := V.blk.map fun p => ⟨p.1, 0, none⟩
@[reducible] def Vec.val (V : Vec) : Value := .slice V.addr V.len V.cap
def Vec.ent (V : Vec) (e : TypeId) : Option (Nat × Obj) := V.blk.map fun p => (p.1, .cells p.2 e (0, 0))
structure Vec.Is (V : Vec) (s : Nat) (cs : List Value) : Prop where
  len : cs.length = V.len * s
  le : V.len ≤ V.cap
  none : V.blk = Option.none → V.cap = 0
  some : ∀ b c, V.blk = Option.some (b, c) → c.size = V.cap * s ∧ c.toList.take (V.len * s) = cs
def Vec.nil : Vec := ⟨none, 0, 0⟩
theorem Vec.nil_is (s : Nat) : Vec.nil.Is s [] := ⟨by simp [Vec.nil], by simp [Vec.nil], fun _ => rfl, fun _ _ h => by simp [Vec.nil] at h⟩

theorem Vec.Is.readable {V : Vec} {s : Nat} {cs : List Value} {e : TypeId} (h : V.Is s cs) (hL : V.ent e ∈ L) : Readable I L V.addr cs := by
  cases hb : V.blk with
  | none =>
    refine .inl ?_
    have h1 := h.none hb
    have h2 := h.le
    have h3 := h.len
    have : V.len = 0 := by omega
    rw [this] at h3
    exact List.length_eq_zero_iff.1 (by simpa using h3)
  | some p =>
    obtain ⟨b, c⟩ := p
    obtain ⟨h1, h2⟩ := h.some b c hb
    refine .inr (.inr ⟨b, 0, by simp [Vec.addr, hb], fun j v hj => ⟨c, e, (0, 0), by simpa [Vec.ent, hb] using hL, ?_⟩⟩)
    rw [← h2, List.getElem?_take] at hj
    split at hj
    · simpa using hj
    · cases hj

theorem Runs.append {t tx e : TypeId} {x y : Operand} {V : Vec} {u : Value} {m s by_ : Nat} {z : Value} {cs news : List Value} (k : Nat) (hu : P.underlying t = some (.slice e)) (he : Elem P e s z by_)
    (hx : ev E x = some V.val) (hy : ev E y = some u) (hV : V.Is s cs) (hk : L[k]? = some (V.ent e)) (hn : News P I L s tx u m news) (hb : (V.len + m) * by_ ≤ 140737488355328) (h63 : V.len + m ≤ 9223372036854775807) :
    Runs P { dst, op := .call { callee := .builtin .append, args := #[x, y], argTypes := #[t, tx] }, type := ty, pos, after, guard } E I L
      (fun r I' L' => ∃ V' : Vec, r = V'.val ∧ I' = I ∧ L' = L.set k (V'.ent e) ∧ V'.Is s (cs ++ news) ∧ V'.len = V.len + m) := by
  intro K n ds a w hH hS
  obtain ⟨i, hi, rfl, hz, rfl⟩ := he.info
  have hsrc := hn.src hS
  have hrun : (execOp a.eval { dst, op := .call { callee := .builtin .append, args := #[x, y], argTypes := #[t, tx] }, type := ty, pos, after, guard }).run P w
      = ((Builtin.append_ #[t, tx] ty #[V.val, u]).run P w).andThen fun v w' => .ok (.value v) w' := by
    simp [execOp, hH.ev hx, hH.ev hy, resolve, invoke, builtin]
  by_cases hg : V.len + m ≤ V.cap
  · cases hbk : V.blk with
    | none =>
      have h0 := hV.none hbk
      have hm : m = 0 := by omega
      have hl0 : V.len = 0 := by omega
      have hnl : news = [] := List.length_eq_zero_iff.1 (by rw [hsrc.newsLen, hm]; simp)
      have hcl : cs = [] := List.length_eq_zero_iff.1 (by rw [hV.len, hl0]; simp)
      have hval : V.val = .slice none 0 0 := by simp [Vec.val, Vec.addr, hbk, hl0, h0]
      have hset : L.set k (V.ent e) = L := by
        obtain ⟨h1, h2⟩ := List.getElem?_eq_some_iff.1 hk
        rw [← h2]; exact List.set_getElem_self h1
      refine ⟨.slice none 0 0, w, I, _, .inl ?_, hS, V, hval.symm, rfl, hset.symm, ?_, by omega⟩
      · have hl := hsrc.len w
        have hcz := hsrc.cells
        rw [hrun, hval]
        rcases hsrc.kind with ⟨e', hk⟩ | hk <;> simp [Builtin.append_, run_underlying hu, run_underlying hk, run_sizeOf he.size, hl, hm] <;> simp [hm] at hcz <;> simp [hcz]
      · rw [hnl, hcl]; exact ⟨by simp [hl0], by omega, hV.none, fun b c h => by rw [hbk] at h; cases h⟩
    | some p =>
      obtain ⟨b, c⟩ := p
      obtain ⟨hc1, hc2⟩ := hV.some b c hbk
      have hent : L[k]? = some (some (b, .cells c e (0, 0))) := by rw [hk]; simp [Vec.ent, hbk]
      have hheap := hS.own b (.cells c e (0, 0)) (List.mem_of_getElem? hent)
      have hnl := hsrc.newsLen
      have hfit : V.len * i.size + news.length ≤ c.size := by rw [hnl, ← Nat.add_mul, hc1]; exact Nat.mul_le_mul_right _ hg
      have hst := run_storeCells_at P b (V.len * i.size) e news 0 c w hheap (by simpa using hfit) hsrc.one
      simp only [Nat.add_zero] at hst
      refine ⟨.slice V.addr (V.len + m) V.cap, w.setRow b (c.toList.take (V.len * i.size) ++ news ++ c.toList.drop (V.len * i.size + news.length)).toArray, I, _, .inl ?_,
        hS.setRow hent, ⟨some (b, (c.toList.take (V.len * i.size) ++ news ++ c.toList.drop (V.len * i.size + news.length)).toArray), V.len + m, V.cap⟩, ?_, rfl, ?_, ?_, rfl⟩
      · have hl := hsrc.len w
        have hva : V.val = .slice (some ⟨b, 0, none⟩) V.len V.cap := by simp [Vec.val, Vec.addr, hbk]
        have hva2 : V.addr = some ⟨b, 0, none⟩ := by simp [Vec.addr, hbk]
        rw [hrun, hva, hva2]
        rcases hsrc.kind with ⟨e', hk⟩ | hk <;> simp [Builtin.append_, run_underlying hu, run_underlying hk, run_sizeOf he.size, hl, hg, hsrc.cells, add_plain, hst]
      · simp [Vec.val, Vec.addr, hbk]
      · rfl
      · refine ⟨by rw [List.length_append, hV.len, hnl, Nat.add_mul], hg, fun h => by simp at h, fun b' c' h => ?_⟩
        simp only [Option.some.injEq, Prod.mk.injEq] at h
        obtain ⟨-, rfl⟩ := h
        have hlt : (c.toList.take (V.len * i.size)).length = V.len * i.size := by rw [hc2]; exact hV.len
        constructor
        · simp only [List.size_toArray, List.length_append, hlt, List.length_drop, Array.length_toList]; omega
        · rw [List.toList_toArray, List.take_append_of_le_length (by rw [List.length_append, hlt, hnl, Nat.add_mul]; omega), hc2]
          rw [List.take_of_length_le (by rw [List.length_append, hV.len, hnl, Nat.add_mul]; omega)]
  · have hold := (hV.readable (I := I) (L := L) (e := e) (List.mem_of_getElem? hk)).first (P := P) hS.drew i.size V.len V.len V.cap hV.len
    have hgr := run_append_grow_src w t tx ty e i z hu hi hz V.addr V.len V.cap cs hold u m news hsrc (by omega) (by omega) (growslice_fits (by omega) hb)
    have hcap := grownCap_le w (V.len + m) V.cap e
    generalize grownCap w (V.len + m) V.cap e = cap' at hgr hcap
    refine ⟨_, _, I, _, .inl (by rw [hrun, hgr]; rfl), hS.drew.renew hk rfl, ⟨some (w.heap.size, (cs ++ news).toArray ++ Builtin.zeroCells z.cells (cap' - (V.len + m))), V.len + m, cap'⟩, rfl, rfl, rfl, ?_, rfl⟩
    have hcl : (cs ++ news).length = (V.len + m) * i.size := by rw [List.length_append, hV.len, hsrc.newsLen, Nat.add_mul]
    refine ⟨hcl, hcap, fun h => by simp at h, fun b c h => ?_⟩
    simp only [Option.some.injEq, Prod.mk.injEq] at h
    obtain ⟨-, rfl⟩ := h
    constructor
    · simp only [Array.size_append, List.size_toArray, hcl, Builtin.zeroCells, Array.size_map, Array.size_range, he.cells]
      rw [← Nat.add_mul]; congr 1; omega
    · show List.take ((V.len + m) * i.size) _ = _
      rw [Array.toList_append, List.take_append_of_le_length (by show _ ≤ (cs ++ news).length; omega), ← hcl]
      exact List.take_of_length_le (Nat.le_refl _)
end
end Go.Xe
namespace Go.Xe
open Go Go.RowKit

/-! no panic is taken in -/
def NoP (Q : Exit → Act → World → Prop) : Exit → Act → World → Prop
  | .panic _, _, _ => False
  | .outgrown, _, _ => False
  | e, a, w => Q e a w
theorem NoP.imp {Q : Exit → Act → World → Prop} : ∀ (e : Exit) (a : Act) (w : World), NoP Q e a w → Q e a w := fun e a w h => by
  cases e <;> first | exact h | exact (h : False).elim

section
variable {P : Program} {r : Option Nat} {ops : Array Oper} {Q : Exit → Act → World → Prop}

/-- operation number i comes up -/
def opw (P : Program) (r : Option Nat) (ops : Array Oper) (Q : Exit → Act → World → Prop) (i : Nat) (N : Act → World → Prop) (a : Act) (w : World) : Prop :=
  match ops[i]? with
  | none => N a w
  | some o => if Region.wanted o (yielded ops a.tmps) then o.wpIn (FW r) 0 P a w N (NoP Q) else N (a.put o.dst undef) w

theorem opw_in {i : Nat} {N : Act → World → Prop} {a : Act} {w : World} (h : opw P r ops Q i N a w) : wpOpIn (FW r) 0 P ops (NoP Q) i N a w := by
  unfold opw at h
  unfold wpOpIn
  cases ho : ops[i]? with
  | none => simpa [ho] using h
  | some o =>
    simp only [ho] at h ⊢
    split
    · rename_i hw; simpa [hw] using h
    · rename_i hw; simp only [hw] at h; exact ⟨fun _ _ => trivial, h⟩

theorem opw_mono {i : Nat} {N N' : Act → World → Prop} {a : Act} {w : World} (hn : ∀ a w, N a w → N' a w) (h : opw P r ops Q i N a w) : opw P r ops Q i N' a w := by
  unfold opw at *
  split
  · rename_i ho; simp only [ho] at h; exact hn _ _ h
  · rename_i o ho
    simp only [ho] at h
    split
    · rename_i hw; simp only [hw, if_true] at h; exact Oper.wpIn_mono hn h
    · rename_i hw; simp only [hw] at h; exact hn _ _ h

def AnyH (P : Program) (r : Option Nat) (ops : Array Oper) (Q : Exit → Act → World → Prop) (last : Option Nat) (S : World → Prop) : Nat → Array Bool → Act → World → Prop
  | 0, listed, a, w => Region.ready .any ops listed = [] ∧ Q .normal a w
  | k + 1, listed, a, w => (Region.ready .any ops listed = [] → Q .normal a w) ∧
      ∀ i ∈ Region.ready .any ops listed, opw P r ops Q i (fun a' w' => (last = some i ∨ S w') ∧ AnyH P r ops Q last S k (listed.setIfInBounds i true) a' w') a w

theorem AnyH.any {last : Option Nat} {S : World → Prop} : ∀ (k : Nat) (listed : Array Bool) (a : Act) (w : World), AnyH P r ops Q last S k listed a w → wpAnyIn (FW r) 0 P .any ops (NoP Q) k listed a w
  | 0, _, _, _, h => h
  | k + 1, _, _, _, h => ⟨h.1, fun i hi => wpOpIn_mono (fun _ _ h' => AnyH.any k _ _ _ h'.2) (opw_in (h.2 i hi))⟩

theorem AnyH.mono {last : Option Nat} {S S' : World → Prop} (hs : ∀ w, S' w → S w) : ∀ (k : Nat) (listed : Array Bool) (a : Act) (w : World), AnyH P r ops Q last S' k listed a w → AnyH P r ops Q last S k listed a w
  | 0, _, _, _, h => h
  | k + 1, _, _, _, h => ⟨h.1, fun i hi => opw_mono (fun _ _ h' => ⟨h'.1.imp id (hs _), AnyH.mono hs k _ _ _ h'.2⟩) (h.2 i hi)⟩

theorem yieldsIf_opw {S : World → Prop} {i : Nat} {o : Oper} {v : Value} {a : Act} {w : World} {N : Act → World → Prop} (hp : plainOp o = true) (hi : ops[i]? = some o) (hy : YieldsIf P ops S o v a) (hS : S w) (h : N (a.put o.dst v) w) :
    opw P r ops Q i N a w := by
  unfold opw
  simp only [hi]
  rcases hy with ⟨hw, hv⟩ | ⟨hw, rfl⟩
  · simp only [hw, if_true]
    refine ⟨fun _ _ => trivial, ?_⟩
    rw [show (FW r).round = r from rfl, semAt_plain r o _ hp, hv w hS]
    exact h
  · simp only [hw, Bool.false_eq_true, if_false]; exact h

/-- an operation apart from oi goes as well before it as behind it -/
theorem opw_put {S : World → Prop} {j : Nat} {oi oj : Oper} {v : Value} (hpj : plainOp oj = true) (hj : ops[j]? = some oj) (hap : oi.apart ops oj = true) (hsi : ∀ cs b, oi.op ≠ .select cs b) (hsj : ∀ cs b, oj.op ≠ .select cs b)
    {N : Act → World → Prop} {a : Act} {w : World} (hy : YieldsIf P ops S oi v a) (h : opw P r ops Q j N (a.put oi.dst v) w) :
    opw P r ops Q j (fun a' w' => YieldsIf P ops S oi v a' ∧ N (a'.put oi.dst v) w') a w := by
  obtain ⟨h1, h2, h3⟩ := Oper.apart_spec hap
  have keep : ∀ u, YieldsIf P ops S oi v (a.put oj.dst u) := fun u => hy.of_same (execOp_put oi hsi a oj.dst u h3) (wanted_put oi a oj.dst u h3)
  unfold opw at *
  simp only [hj] at *
  rw [wanted_put oj a oi.dst v h1] at h
  split
  · rename_i hw
    simp only [hw, if_true] at h
    obtain ⟨-, h⟩ := h
    refine ⟨fun _ _ => trivial, ?_⟩
    rw [show (FW r).round = r from rfl, semAt_plain r oj _ hpj] at h ⊢
    rw [execOp_put oj hsj a oi.dst v h1] at h
    generalize (execOp a.eval oj).run P w = x at *
    cases x with
    | ok y w' =>
      cases y <;> simp only [Oper.uponIn] at h ⊢
      case value u => exact ⟨keep u, by rw [← Act.put_comm a v u h2]; exact h⟩
      case skip => exact ⟨keep _, by rw [← Act.put_comm a v undef h2]; exact h⟩
      case defer d =>
        have k1 : YieldsIf P ops S oi v { a with defers := d :: a.defers } := hy.of_same rfl rfl
        refine ⟨k1.of_same (execOp_put oi hsi _ oj.dst undef h3) (wanted_put oi _ oj.dst undef h3), ?_⟩
        rw [← Act.put_comm _ v undef h2, ← Act.put_defers]
        exact h
      case enter f args =>
        refine ⟨h.1, h.2.mono fun e w'' he => ?_⟩
        cases e with
        | returned u => exact ⟨keep u, by rw [← Act.put_comm a v u h2]; exact he⟩
        | panicked c => exact he
        | outgrown => exact he
      case row row args => exact ⟨h.1, h.2.mono fun u w'' he => ⟨keep u, by rw [← Act.put_comm a v u h2]; exact he⟩⟩
      case round l f tmps assign body =>
        refine ⟨h.1, h.2.mono fun e w'' he => ?_⟩
        cases e with
        | returned u => exact ⟨keep u, by rw [← Act.put_comm a v u h2]; exact he⟩
        | panicked c => exact he
        | outgrown => exact he
    | halt x w' => cases x <;> simp only [Oper.uponIn] at h ⊢ <;> exact h
  · rename_i hw
    simp only [hw] at h
    exact ⟨keep _, by rw [← Act.put_comm a v undef h2]; exact h⟩

def allPlain (ops : Array Oper) : Bool := ops.all plainOp
theorem allPlain_at (h : allPlain ops = true) {j : Nat} {o : Oper} (ho : ops[j]? = some o) : plainOp o = true := Array.all_eq_true_iff_forall_mem.1 h o (Array.mem_of_getElem? ho)

/-- the last operation, if it is said which one, waits for all others -/
def lastB (ops : Array Oper) : Option Nat → Bool
  | none => true
  | some n => decide (n + 1 = ops.size) && Region.sinkB .any ops n && Region.chainB .any ops n
def LastInv (ops : Array Oper) (last : Option Nat) (listed : Array Bool) : Prop := ∀ n, last = some n → HeadInv .any ops n listed

theorem LastInv.set {last : Option Nat} {listed : Array Bool} {j : Nat} (h : LastInv ops last listed) (hj : j ∈ Region.ready .any ops listed) (hl : lastB ops last = true) (hne : last ≠ some j) : LastInv ops last (listed.setIfInBounds j true) := by
  intro n hn
  subst hn
  simp only [lastB, Bool.and_eq_true, decide_eq_true_eq] at hl
  have hlt : j < ops.size := by
    obtain ⟨_, o, ho, _⟩ := mem_ready.1 hj
    exact (Array.getElem?_eq_some_iff.1 ho).1
  have : j ≠ n := fun e => hne (by rw [e])
  exact (h n rfl).set hj (by omega)

theorem LastInv.not {last : Option Nat} {listed : Array Bool} {i j : Nat} (h : LastInv ops last listed) (hl : lastB ops last = true) (hi : i ∈ Region.ready .any ops listed) (hj : j ∈ Region.ready .any ops listed) (hne : j ≠ i) : last ≠ some j := by
  intro e
  subst e
  have hinv := h j rfl
  simp only [lastB, Bool.and_eq_true, decide_eq_true_eq] at hl
  obtain ⟨⟨h1, h2⟩, h3⟩ := hl
  obtain ⟨hun, o, ho, _⟩ := mem_ready.1 hi
  have hlt : i < ops.size := (Array.getElem?_eq_some_iff.1 ho).1
  exact tail_waits h2 h3 (by omega) hinv (j - i) i rfl (by omega) hun j (Nat.le_refl _) hj

theorem AnyH.first {last : Option Nat} {S : World → Prop} (hl : lastB ops last = true) (hpl : allPlain ops = true) (hsel : Region.noSelect ops = true) {i : Nat} {oi : Oper} {v : Value} (hi : ops[i]? = some oi) :
    ∀ (k : Nat) (listed : Array Bool) (a : Act) (w : World), LastInv ops last listed →
      (∀ j oj, ops[j]? = some oj → j ≠ i → listed.getD j true = false → (∀ e ∈ oj.after, Region.binds .any e = true → e.on ≠ i) → oi.apart ops oj = true) →
      i ∈ Region.ready .any ops listed → YieldsIf P ops S oi v a → S w →
      AnyH P r ops Q last S k (listed.setIfInBounds i true) (a.put oi.dst v) w → AnyH P r ops Q last S (k + 1) listed a w := by
  have hs := fun j o cs b ho => Region.noSelect_spec hsel j o cs b ho
  intro k
  induction k with
  | zero =>
    intro listed a w _ _ hr hy hS H
    refine ⟨fun h => (by rw [h] at hr; cases hr), fun j hj => ?_⟩
    by_cases hji : j = i
    · subst hji; exact yieldsIf_opw (allPlain_at hpl hi) hi hy hS ⟨.inr hS, H⟩
    · have := ready_mono hj hji
      rw [H.1] at this
      cases this
  | succ k ih =>
    intro listed a w hinv hfree hr hy hS H
    refine ⟨fun h => (by rw [h] at hr; cases hr), fun j hj => ?_⟩
    by_cases hji : j = i
    · subst hji; exact yieldsIf_opw (allPlain_at hpl hi) hi hy hS ⟨.inr hS, H⟩
    · have h1 := H.2 j (ready_mono hj hji)
      obtain ⟨hjun, oj, hoj, hall⟩ := mem_ready.1 hj
      have hlast := hinv.not hl hr hj hji
      have hnot : ∀ e ∈ oj.after, Region.binds .any e = true → e.on ≠ i := fun e he hb heq => by
        have h1 := hall e he hb
        have h0 := (mem_ready.1 hr).1
        rw [heq] at h1
        rcases Nat.lt_or_ge i listed.size with h' | h'
        · simp [h'] at h0 h1; rw [h0] at h1; cases h1
        · simp [Array.getElem?_eq_none h'] at h1
      have h2 := opw_put (allPlain_at hpl hoj) hoj (hfree j oj hoj hji hjun hnot) (fun cs b => hs i oi cs b hi) (fun cs b => hs j oj cs b hoj) hy h1
      have hfree' : ∀ m om, ops[m]? = some om → m ≠ i → (listed.setIfInBounds j true).getD m true = false →
          (∀ e ∈ om.after, Region.binds .any e = true → e.on ≠ i) → oi.apart ops om = true := fun m om hm hmi hun hno => by
        refine hfree m om hm hmi ?_ hno
        by_cases hjm : j = m
        · subst hjm; exact hjun
        · rw [getD_set_ne true hjm] at hun; exact hun
      refine opw_mono (fun a' w' h3 => ?_) h2
      obtain ⟨h3, h4, h5⟩ := h3
      have hS' : S w' := h4.resolve_left hlast
      refine ⟨.inr hS', ih (listed.setIfInBounds j true) a' w' (hinv.set hj hl hlast) hfree' (ready_mono hr (Ne.symm hji)) h3 hS' ?_⟩
      rw [Array.setIfInBounds_comm _ _ hji]
      exact h5

/-! one order for all; where several effects may come up, all of them in turn -/
inductive Sched where
  | done
  | pure (i : Nat) (k : Sched)
  | eff (i : Nat) (k : Sched)
  | alt (i : Nat) (k : Sched) (rest : Sched)
def Sched.heads : Sched → List Nat
  | .eff i _ => [i]
  | .alt i _ r => i :: r.heads
  | _ => []
def Sched.isDone : Sched → Bool | .done => true | _ => false
def Sched.brB (f : Sched → Array Bool → Bool) (last : Option Nat) (listed : Array Bool) : Sched → Bool
  | .eff i σ => (!(last == some i) || σ.isDone) && f σ (listed.setIfInBounds i true)
  | .alt i σ r => ((!(last == some i) || σ.isDone) && f σ (listed.setIfInBounds i true)) && r.brB f last listed
  | _ => false
def canonB (ops : Array Oper) (last : Option Nat) : Nat → Sched → Array Bool → Bool
  | 0, .done, listed => (Region.ready .any ops listed).isEmpty
  | k + 1, .pure i σ, listed => (Region.ready .any ops listed).contains i && Region.free .any ops listed i && !(last == some i) && canonB ops last k σ (listed.setIfInBounds i true)
  | k + 1, .eff i σ, listed => !(Region.ready .any ops listed).isEmpty && (Region.ready .any ops listed).all (fun j => (Sched.eff i σ).heads.contains j) && (Sched.eff i σ).brB (canonB ops last k) last listed
  | k + 1, .alt i σ r, listed => !(Region.ready .any ops listed).isEmpty && (Region.ready .any ops listed).all (fun j => (Sched.alt i σ r).heads.contains j) && (Sched.alt i σ r).brB (canonB ops last k) last listed
  | _, _, _ => false

def RunC (P : Program) (r : Option Nat) (ops : Array Oper) (Q : Exit → Act → World → Prop) (last : Option Nat) : Sched → (World → Prop) → Act → World → Prop
  | .done, _, a, w => Q .normal a w
  | .pure i σ, S, a, w => ∃ o v, ops[i]? = some o ∧ YieldsIf P ops S o v a ∧ RunC P r ops Q last σ S (a.put o.dst v) w
  | .eff i σ, S, a, w => opw P r ops Q i (fun a' w' => ∃ S' : World → Prop, (∀ x, S' x → S x) ∧ (last = some i ∨ S' w') ∧ RunC P r ops Q last σ S' a' w') a w
  | .alt i σ rest, S, a, w => opw P r ops Q i (fun a' w' => ∃ S' : World → Prop, (∀ x, S' x → S x) ∧ (last = some i ∨ S' w') ∧ RunC P r ops Q last σ S' a' w') a w ∧ RunC P r ops Q last rest S a w

theorem RunC.branch {last : Option Nat} {f : Sched → Array Bool → Bool} {listed : Array Bool} {S : World → Prop} {a : Act} {w : World} {j : Nat} : ∀ (σ : Sched), σ.brB f last listed = true → j ∈ σ.heads → RunC P r ops Q last σ S a w →
    ∃ σ', (!(last == some j) || σ'.isDone) = true ∧ f σ' (listed.setIfInBounds j true) = true ∧ opw P r ops Q j (fun a' w' => ∃ S' : World → Prop, (∀ x, S' x → S x) ∧ (last = some j ∨ S' w') ∧ RunC P r ops Q last σ' S' a' w') a w
  | .done, h, _, _ => by simp [Sched.brB] at h
  | .pure i σ, h, _, _ => by simp [Sched.brB] at h
  | .eff i σ, h, hj, hr => by
    simp only [Sched.heads, List.mem_singleton] at hj
    subst hj
    simp only [Sched.brB, Bool.and_eq_true] at h
    exact ⟨σ, h.1, h.2, hr⟩
  | .alt i σ rest, h, hj, hr => by
    simp only [Sched.brB, Bool.and_eq_true] at h
    simp only [Sched.heads, List.mem_cons] at hj
    rcases hj with rfl | hj
    · exact ⟨σ, h.1.1, h.1.2, hr.1⟩
    · exact RunC.branch rest h.2 hj hr.2

theorem AnyH.of_branch {last : Option Nat} (hl : lastB ops last = true) {k : Nat} {σ : Sched} {S : World → Prop} {listed : Array Bool} {a : Act} {w : World}
    (ih : ∀ (σ : Sched) (S : World → Prop) (listed : Array Bool) (a : Act) (w : World), canonB ops last k σ listed = true → LastInv ops last listed → S w → RunC P r ops Q last σ S a w → AnyH P r ops Q last S k listed a w)
    (ih0 : ∀ (σ : Sched) (S : World → Prop) (listed : Array Bool) (a : Act) (w : World), σ.isDone = true → canonB ops last k σ listed = true → RunC P r ops Q last σ S a w → AnyH P r ops Q last S k listed a w)
    (hc : (!(Region.ready .any ops listed).isEmpty && (Region.ready .any ops listed).all (fun j => σ.heads.contains j) && σ.brB (canonB ops last k) last listed) = true)
    (hinv : LastInv ops last listed) (hh : RunC P r ops Q last σ S a w) : AnyH P r ops Q last S (k + 1) listed a w := by
  simp only [Bool.and_eq_true] at hc
  obtain ⟨⟨h1, h2⟩, h3⟩ := hc
  refine ⟨fun h0 => (by rw [h0] at h1; simp at h1), fun j hj => ?_⟩
  have hjh : j ∈ σ.heads := by simpa using List.all_eq_true.1 h2 j hj
  obtain ⟨σ', h4, h5, h6⟩ := RunC.branch σ h3 hjh hh
  refine opw_mono (fun a' w' h' => ?_) h6
  obtain ⟨S', hs, h7, h8⟩ := h'
  by_cases hlast : last = some j
  · simp only [hlast, beq_self_eq_true, Bool.not_true, Bool.false_or] at h4
    exact ⟨.inl hlast, AnyH.mono hs _ _ _ _ (ih0 σ' S' _ _ w' h4 h5 h8)⟩
  · have hS' := h7.resolve_left hlast
    exact ⟨.inr (hs _ hS'), AnyH.mono hs _ _ _ _ (ih σ' S' _ _ w' h5 (hinv.set hj hl hlast) hS' h8)⟩

theorem RunC.done_any {last : Option Nat} : ∀ (k : Nat) (σ : Sched) (S : World → Prop) (listed : Array Bool) (a : Act) (w : World), σ.isDone = true → canonB ops last k σ listed = true → RunC P r ops Q last σ S a w → AnyH P r ops Q last S k listed a w
  | 0, .done, S, listed, a, w, _, hc, h => ⟨by simpa [canonB] using hc, h⟩
  | 0, .pure .., _, _, _, _, hd, _, _ => by simp [Sched.isDone] at hd
  | 0, .eff .., _, _, _, _, hd, _, _ => by simp [Sched.isDone] at hd
  | 0, .alt .., _, _, _, _, hd, _, _ => by simp [Sched.isDone] at hd
  | k + 1, .done, _, _, _, _, _, hc, _ => by simp [canonB] at hc
  | k + 1, .pure .., _, _, _, _, hd, _, _ => by simp [Sched.isDone] at hd
  | k + 1, .eff .., _, _, _, _, hd, _, _ => by simp [Sched.isDone] at hd
  | k + 1, .alt .., _, _, _, _, hd, _, _ => by simp [Sched.isDone] at hd

theorem RunC.any {last : Option Nat} (hl : lastB ops last = true) (hpl : allPlain ops = true) (hsel : Region.noSelect ops = true) :
    ∀ (k : Nat) (σ : Sched) (S : World → Prop) (listed : Array Bool) (a : Act) (w : World), canonB ops last k σ listed = true → LastInv ops last listed → S w → RunC P r ops Q last σ S a w → AnyH P r ops Q last S k listed a w
  | 0, .done, S, listed, a, w, hc, _, _, h => ⟨by simpa [canonB] using hc, h⟩
  | 0, .pure .., _, _, _, _, hc, _, _, _ => by simp [canonB] at hc
  | 0, .eff .., _, _, _, _, hc, _, _, _ => by simp [canonB] at hc
  | 0, .alt .., _, _, _, _, hc, _, _, _ => by simp [canonB] at hc
  | k + 1, .done, _, _, _, _, hc, _, _, _ => by simp [canonB] at hc
  | k + 1, .pure i σ, S, listed, a, w, hc, hinv, hS, hh => by
    obtain ⟨o, v, ho, hy, h⟩ := hh
    simp only [canonB, Bool.and_eq_true] at hc
    obtain ⟨⟨⟨h1, h2⟩, h3⟩, h4⟩ := hc
    have hr : i ∈ Region.ready .any ops listed := by simpa using h1
    exact AnyH.first hl hpl hsel ho k listed a w hinv (Region.free_spec ho h2) hr hy hS
      (RunC.any hl hpl hsel k σ S _ _ w h4 (hinv.set hr hl (by simpa using h3)) hS h)
  | k + 1, .eff i σ, S, listed, a, w, hc, hinv, hS, h =>
    AnyH.of_branch hl (RunC.any hl hpl hsel k) (RunC.done_any k) (by simpa only [canonB] using hc) hinv h
  | k + 1, .alt i σ rest, S, listed, a, w, hc, hinv, hS, h =>
    AnyH.of_branch hl (RunC.any hl hpl hsel k) (RunC.done_any k) (by simpa only [canonB] using hc) hinv h

/-- what is asked of a region's text, once -/
def drawB (ops : Array Oper) (last : Option Nat) (σ : Sched) : Bool :=
  lastB ops last && allPlain ops && Region.noSelect ops && canonB ops last ops.size σ (Array.replicate ops.size false)

theorem wpIn_draw {id : Nat} {l : List Oper} {last : Option Nat} {σ : Sched} {S : World → Prop} {a : Act} {w : World} (hm : P.follows .mixedOrders = true) (hB : drawB l.toArray last σ = true) (hS : S w.drew)
    (h : RunC P r l.toArray Q last σ S a w.drew) : (Code.region id l.toArray true).wpIn (FW r) 0 P Q a w := by
  simp only [drawB, Bool.and_eq_true] at hB
  obtain ⟨⟨⟨h1, h2⟩, h3⟩, h5⟩ := hB
  refine wpIn_mono (Q := NoP Q) (wpIn_region_any hm ?_) NoP.imp
  have hinv : LastInv l.toArray last (Array.replicate l.toArray.size false) := by
    intro n hn
    refine ⟨by simp, fun j oj hj hl => ?_, fun t ht ht' => ?_⟩
    · rw [getD_replicate_false] at hl; cases hl
    · have : t < l.toArray.size := ht'
      simp [Array.getD] at this ⊢
      exact this
  exact AnyH.any _ _ _ _ (RunC.any h1 h2 h3 _ σ S _ a w.drew h5 hinv hS h)
end
end Go.Xe
namespace Go.Xe
open Go Go.RowKit

section
variable {P : Program} {r : Option Nat} {K : World} {n : Nat} {ds : List Deferred} {ops : Array Oper} {Q : Exit → Act → World → Prop} {last : Option Nat} {σ : Sched} {E E' : Env} {I : Im} {L L' Ls : Own}

/-- a region in its one order; Ls: the owned part that stays as it is -/
def XR (P : Program) (r : Option Nat) (K : World) (n : Nat) (ds : List Deferred) (ops : Array Oper) (Q : Exit → Act → World → Prop) (last : Option Nat) (σ : Sched) (E : Env) (I : Im) (L Ls : Own) : Prop :=
  ∀ a w, Holds a n ds E → Sat K w I L → RunC P r ops Q last σ (fun x => Sat K x I Ls) a w

theorem XC.draw {id : Nat} {l : List Oper} (hm : P.follows .mixedOrders = true) (last : Option Nat) (σ : Sched) (Ls : Own) (hB : drawB l.toArray last σ = true) (hs : Ls.Sublist L) (h : XR P r K n ds l.toArray Q last σ E I L Ls) :
    XC P r K n ds (.region id l.toArray true) Q E I L := fun a _ hH hS => wpIn_draw hm hB (hS.drew.drop hs) (h a _ hH hS.drew)

theorem XR.nil (h : XQ K n ds Q .normal E I L) : XR P r K n ds ops Q last .done E I L Ls := fun a w hH hS => h a w hH hS
theorem XR.weaken (hs : SubL E E') (h : XR P r K n ds ops Q last σ E' I L Ls) : XR P r K n ds ops Q last σ E I L Ls := fun a w hH hS => h a w (hH.weaken hs) hS
theorem XR.perm (hp : L.Perm L') (h : XR P r K n ds ops Q last σ E I L' Ls) : XR P r K n ds ops Q last σ E I L Ls := fun a w hH hS => h a w hH (hS.perm hp)

theorem XR.read {i : Nat} {o : Oper} {v : Value} (ho : ops[i]? = some o) (hw : Wants ops o E true) (hd : fits o.dst n = true) (hs : Reads P o E I Ls v)
    (hk : XR P r K n ds ops Q last σ (push o.dst v E) I L Ls) : XR P r K n ds ops Q last (.pure i σ) E I L Ls := by
  intro a w hH hS
  exact ⟨o, v, ho, .inl ⟨hw.wanted hH, fun x hx => hs K n ds a x hH hx⟩, hk _ _ (hH.push hd) hS⟩
theorem XR.skip {i : Nat} {o : Oper} (ho : ops[i]? = some o) (hw : Wants ops o E false) (hd : fits o.dst n = true)
    (hk : XR P r K n ds ops Q last σ (push o.dst undef E) I L Ls) : XR P r K n ds ops Q last (.pure i σ) E I L Ls := by
  intro a w hH hS
  exact ⟨o, undef, ho, .inr ⟨hw.wanted hH, rfl⟩, hk _ _ (hH.push hd) hS⟩
/-- an effect that is not carried out -/
theorem XR.skipe {i : Nat} {o : Oper} (ho : ops[i]? = some o) (hw : Wants ops o E false) (hd : fits o.dst n = true) (hs : Ls.Sublist L)
    (hk : XR P r K n ds ops Q last σ (push o.dst undef E) I L Ls) : XR P r K n ds ops Q last (.eff i σ) E I L Ls := by
  intro a w hH hS
  show opw P r ops Q i _ a w
  unfold opw
  simp only [ho]
  rw [if_neg (by rw [hw.wanted hH]; simp)]
  exact ⟨_, fun _ h => h, .inr (hS.drop hs), hk _ _ (hH.push hd) hS⟩

theorem Sat.back {w : World} {I' : Im} (h : Sat K w I' L) (hle : I.le I') : Sat K w I L :=
  ⟨h.os, h.tape, h.output, fun b o hb => h.im b o (hle b o hb), h.own, h.nodup, fun b o hm => by
    cases e : I b with
    | none => rfl
    | some o' => have := hle b o' e; rw [h.apart b o hm] at this; cases this⟩

theorem XR.step {i : Nat} {o : Oper} {Post : Value → Im → Own → Prop} (ho : ops[i]? = some o) (hw : Wants ops o E true) (hd : fits o.dst n = true) (hs : Step P r K n ds o E I L Post)
    (hk : ∀ v I' L', Post v I' L' → I.le I' ∧ (last = some i ∨ Ls.Sublist L') ∧ XR P r K n ds ops Q last σ (push o.dst v E) I' L' Ls) : XR P r K n ds ops Q last (.eff i σ) E I L Ls := by
  intro a w hH hS
  show opw P r ops Q i _ a w
  unfold opw
  simp only [ho]
  rw [if_pos (hw.wanted hH)]
  refine hs a w _ _ hH hS fun v w' I' L' hS' hP => ?_
  obtain ⟨h1, h2, h3⟩ := hk v I' L' hP
  exact ⟨fun x => Sat K x I' Ls, fun x hx => hx.back h1, h2.imp id (fun hsub => hS'.drop hsub), h3 _ _ (hH.push hd) hS'⟩

theorem XR.split {d : Nat} {b : Bool} (hf : find E d = some (.bool b)) (ht : b = true → XR P r K n ds ops Q last σ ((d, .bool true) :: E) I L Ls)
    (hn : b = false → XR P r K n ds ops Q last σ ((d, .bool false) :: E) I L Ls) : XR P r K n ds ops Q last σ E I L Ls := by
  intro a w hH hS
  have hh : ∀ c, b = c → Holds a n ds ((d, .bool c) :: E) := fun c hc => ⟨hH.size, hH.defers, fun t v ht => by
    rw [find_cons] at ht
    by_cases e : d = t
    · subst e; simp at ht; subst ht; rw [← hc]; exact hH.slot d _ hf
    · rw [if_neg e] at ht; exact hH.slot t v ht⟩
  cases hb : b
  · exact hn hb a w (hh false hb) hS
  · exact ht hb a w (hh true hb) hS
end

/-! functions -/
def argEnv : Nat → List Value → Env
  | _, [] => []
  | i, v :: vs => (i, v) :: argEnv (i + 1) vs
theorem argEnv_find : ∀ (vs : List Value) (i t : Nat) (v : Value), find (argEnv i vs) t = some v → i ≤ t ∧ vs[t - i]? = some v
  | [], _, _, _, h => by simp [argEnv, find] at h
  | u :: vs, i, t, v, h => by
    simp only [argEnv] at h
    rw [find_cons] at h
    by_cases e : i = t
    · subst e; simp at h; subst h; simp
    · rw [if_neg e] at h
      obtain ⟨h1, h2⟩ := argEnv_find vs (i + 1) t v h
      refine ⟨by omega, ?_⟩
      rw [show t - i = (t - (i + 1)) + 1 by omega, List.getElem?_cons_succ]; exact h2

def RetPost (K : World) (I : Im) (Lf : Own) (Post : Value → Im → Own → Prop) (e : Ending) (w' : World) : Prop :=
  ∃ v I' L', e = .returned v ∧ I.le I' ∧ Sat K w' I' (L' ++ Lf) ∧ Post v I' L'

theorem FSo.intro {P : Program} {f : FuncId} {fn : Func} {c : Code} {n : Nat} {args : List Value} {I : Im} {L : Own} {Post : Value → Im → Own → Prop} (hf : P.funcs[f]? = some fn) (hb : fn.body = some c) (hnt : fn.ntmps = n) (hn : Nat.ble args.length n = true)
    (h : ∀ K Lf, XC P none K n [] c (bodyPost P fn (RetPost K I Lf Post)) (argEnv 0 args) I (L ++ Lf)) : FSo P f args I L Post := by
  subst hnt
  intro K w Lf hS
  refine (callsIn_wide (n := 0)).1 (callsIn_of_wp (F := FW none) hf hb trivial (h K Lf _ _ ⟨?_, rfl, ?_⟩ hS))
  · have := Nat.le_of_ble_eq_true hn
    simp; omega
  · intro t v ht
    obtain ⟨_, h2⟩ := argEnv_find args 0 t v ht
    simp only [Nat.sub_zero] at h2
    have hlt : t < args.length := (List.getElem?_eq_some_iff.1 h2).1
    rw [Array.getElem?_append_left (by simpa using hlt)]
    simpa using h2

section
variable {P : Program} {K : World} {n : Nat} {E : Env} {I I₀ : Im} {L Lf : Own} {fn : Func} {Post : Value → Im → Own → Prop}
theorem XQ.done1 {t : Tmp} {v : Value} (hr : fn.results = #[.tmp t]) (hv : find E t = some v) (hI : I₀.le I) (hP : Post v I L) :
    XQ K n [] (bodyPost P fn (RetPost K I₀ Lf Post)) .ret E I (L ++ Lf) := fun a w hH hS =>
  ⟨hH.defers, v, by simp [results, hr, hH.slot t v hv], v, I, L, rfl, hI, hS, hP⟩
theorem XQ.done2 {t u : Tmp} {v x : Value} (hr : fn.results = #[.tmp t, .tmp u]) (hv : find E t = some v) (hx : find E u = some x) (hI : I₀.le I) (hP : Post (.tuple #[v, x]) I L) :
    XQ K n [] (bodyPost P fn (RetPost K I₀ Lf Post)) .ret E I (L ++ Lf) := fun a w hH hS =>
  ⟨hH.defers, .tuple #[v, x], by simp [results, hr, hH.slot t v hv, hH.slot u x hx], _, I, L, rfl, hI, hS, hP⟩
theorem XQ.done3 {t u s : Tmp} {v x y : Value} (hr : fn.results = #[.tmp t, .tmp u, .tmp s]) (hv : find E t = some v) (hx : find E u = some x) (hy : find E s = some y) (hI : I₀.le I) (hP : Post (.tuple #[v, x, y]) I L) :
    XQ K n [] (bodyPost P fn (RetPost K I₀ Lf Post)) .ret E I (L ++ Lf) := fun a w hH hS =>
  ⟨hH.defers, .tuple #[v, x, y], by simp [results, hr, hH.slot t v hv, hH.slot u x hx, hH.slot s y hy], _, I, L, rfl, hI, hS, hP⟩
theorem XQ.done0 (hr : fn.results = #[]) (hI : I₀.le I) (hP : Post (.tuple #[]) I L) :
    XQ K n [] (bodyPost P fn (RetPost K I₀ Lf Post)) .ret E I (L ++ Lf) := fun a w hH hS =>
  ⟨hH.defers, .tuple #[], by simp [results, hr], _, I, L, rfl, hI, hS, hP⟩
theorem XQ.done_normal {Q : Ending → World → Prop} (h : XQ K n [] (bodyPost P fn Q) .ret E I L) : XQ K n [] (bodyPost P fn Q) .normal E I L := h
/-- what is owned is handed over, and stays as it is from now on -/
theorem XQ.give {Q : Exit → Act → World → Prop} {ds : List Deferred} {e : Exit} {b : Nat} {o : Obj} (h : I b = none → XQ K n ds Q e E (I.add b o) L) : XQ K n ds Q e E I (some (b, o) :: L) :=
  fun a w hH hS => h (hS.apart b o (List.mem_cons_self ..)) a w hH hS.give
theorem XQ.perm {Q : Exit → Act → World → Prop} {ds : List Deferred} {e : Exit} {L' : Own} (hp : L.Perm L') (h : XQ K n ds Q e E I L') : XQ K n ds Q e E I L := fun a w hH hS => h a w hH (hS.perm hp)
theorem XQ.drop {Q : Exit → Act → World → Prop} {ds : List Deferred} {e : Exit} {L' : Own} (hp : L'.Sublist L) (h : XQ K n ds Q e E I L') : XQ K n ds Q e E I L := fun a w hH hS => h a w hH (hS.drop hp)
end
section
variable {P : Program} {r : Option Nat} {K : World} {n : Nat} {ds : List Deferred} {ops : Array Oper} {Q : Exit → Act → World → Prop} {l : List Oper} {E : Env} {I : Im} {L : Own} {c : Code}
theorem XO.give {b : Nat} {o : Obj} (h : I b = none → XO P r K n ds ops Q l E (I.add b o) L) : XO P r K n ds ops Q l E I (some (b, o) :: L) := fun a w hH hS => h (hS.apart b o (List.mem_cons_self ..)) a w hH hS.give
theorem XC.give {b : Nat} {o : Obj} (h : I b = none → XC P r K n ds c Q E (I.add b o) L) : XC P r K n ds c Q E I (some (b, o) :: L) := fun a w hH hS => h (hS.apart b o (List.mem_cons_self ..)) a w hH hS.give
end
end Go.Xe
namespace Go.Xe
open Go Go.RowKit
section
variable {P : Program} {r : Option Nat} {K : World} {n : Nat} {ds : List Deferred} {ops : Array Oper} {Q : Exit → Act → World → Prop} {last : Option Nat} {σ : Sched} {E : Env} {I : Im} {L Ls : Own} {c : Code}
/-- several effects may come up: each of them in turn -/
theorem XR.alt {i : Nat} {rest : Sched} (h1 : XR P r K n ds ops Q last (.eff i σ) E I L Ls) (h2 : XR P r K n ds ops Q last rest E I L Ls) : XR P r K n ds ops Q last (.alt i σ rest) E I L Ls := fun a w hH hS => ⟨h1 a w hH hS, h2 a w hH hS⟩
/-- several ways through c end in one family of states -/
theorem XC.join {ι : Type} (Ef : ι → Env) (If : ι → Im) (Lf : ι → Own) (p : ι → Prop) (h1 : XC P r K n ds c (Exit.then (fun a w => ∃ j, p j ∧ Holds a n ds (Ef j) ∧ Sat K w (If j) (Lf j)) Q) E I L)
    (h2 : ∀ j, p j → XQ K n ds Q .normal (Ef j) (If j) (Lf j)) : XC P r K n ds c Q E I L := fun a w hH hS => by
  refine wpIn_mono (h1 a w hH hS) ?_
  intro e a' w' hq
  cases e with
  | normal => obtain ⟨j, hp, hHj, hSj⟩ := hq; exact h2 j hp a' w' hHj hSj
  | _ => exact hq
theorem XQ.joined {ι : Type} {Ef : ι → Env} {If : ι → Im} {Lf : ι → Own} {p : ι → Prop} (j : ι) (hp : p j) (hE : SubL E (Ef j)) (hI : If j = I) (hL : L.Perm (Lf j)) :
    XQ K n ds (Exit.then (fun a w => ∃ j, p j ∧ Holds a n ds (Ef j) ∧ Sat K w (If j) (Lf j)) Q) .normal E I L := fun a w hH hS => ⟨j, hp, hH.weaken hE, by rw [hI]; exact hS.perm hL⟩
end
end Go.Xe
namespace Go.Xe
open Go Go.RowKit

section
variable {P : Program} {r : Option Nat} {K : World} {n : Nat} {ds : List Deferred} {ops : Array Oper} {Q : Exit → Act → World → Prop} {l : List Oper} {last : Option Nat} {σ : Sched}
  {E : Env} {I : Im} {L Lf Ls : Own} {d : Tmp} {op : Op} {ty : TypeId} {pos : String} {after : Array Edge} {g : Option (Nat × Bool)} {v : Value}

/-- a guard that is known -/
theorem wn : Wants ops ⟨some d, op, ty, pos, after, none⟩ E true := rfl
theorem wn0 : Wants ops ⟨none, op, ty, pos, after, none⟩ E true := rfl
theorem wg {dst : Option Tmp} {j : Nat} {want c : Bool} {t : Tmp} {b : Bool} (h1 : (ops[j]?).bind (·.dst) = some t) (h2 : find E t = some (.bool c)) (h3 : b = (c == want)) : Wants ops ⟨dst, op, ty, pos, after, some (j, want)⟩ E b := ⟨t, .bool c, h1, h2, h3⟩
/-- a guard whose slot has not been written -/
theorem wgu {dst : Option Tmp} {j : Nat} {want : Bool} {t : Tmp} (h1 : (ops[j]?).bind (·.dst) = some t) (h2 : find E t = some undef) : Wants ops ⟨dst, op, ty, pos, after, some (j, want)⟩ E false := ⟨t, undef, h1, h2, rfl⟩

theorem XO.rd (hw : Wants ops ⟨some d, op, ty, pos, after, g⟩ E true) (hd : Nat.ble (d + 1) n = true) (hp : plainOp ⟨some d, op, ty, pos, after, g⟩ = true) (hs : Reads P ⟨some d, op, ty, pos, after, g⟩ E I L v)
    (hk : XO P r K n ds ops Q l ((d, v) :: E) I L) : XO P r K n ds ops Q (⟨some d, op, ty, pos, after, g⟩ :: l) E I L := XO.read hp hw hd hs hk
theorem XO.s (hw : Wants ops ⟨some d, op, ty, pos, after, g⟩ E false) (hd : Nat.ble (d + 1) n = true)
    (hk : XO P r K n ds ops Q l ((d, undef) :: E) I L) : XO P r K n ds ops Q (⟨some d, op, ty, pos, after, g⟩ :: l) E I L := XO.skip hw hd hk
theorem XO.e {Post : Value → Im → Own → Prop} (hw : Wants ops ⟨some d, op, ty, pos, after, g⟩ E true) (hd : Nat.ble (d + 1) n = true) (hs : Step P r K n ds ⟨some d, op, ty, pos, after, g⟩ E I L Post)
    (hk : ∀ v I' L', Post v I' L' → XO P r K n ds ops Q l ((d, v) :: E) I' L') : XO P r K n ds ops Q (⟨some d, op, ty, pos, after, g⟩ :: l) E I L := XO.step hw hd hs hk
theorem XO.e0 {Post : Value → Im → Own → Prop} (hw : Wants ops ⟨none, op, ty, pos, after, g⟩ E true) (hs : Step P r K n ds ⟨none, op, ty, pos, after, g⟩ E I L Post)
    (hk : ∀ v I' L', Post v I' L' → XO P r K n ds ops Q l E I' L') : XO P r K n ds ops Q (⟨none, op, ty, pos, after, g⟩ :: l) E I L := XO.step hw rfl hs hk

theorem XR.rd {i : Nat} (ho : ops[i]? = some ⟨some d, op, ty, pos, after, g⟩) (hw : Wants ops ⟨some d, op, ty, pos, after, g⟩ E true) (hd : Nat.ble (d + 1) n = true) (hs : Reads P ⟨some d, op, ty, pos, after, g⟩ E I Ls v)
    (hk : XR P r K n ds ops Q last σ ((d, v) :: E) I L Ls) : XR P r K n ds ops Q last (.pure i σ) E I L Ls := XR.read ho hw hd hs hk
theorem XR.s {i : Nat} (ho : ops[i]? = some ⟨some d, op, ty, pos, after, g⟩) (hw : Wants ops ⟨some d, op, ty, pos, after, g⟩ E false) (hd : Nat.ble (d + 1) n = true)
    (hk : XR P r K n ds ops Q last σ ((d, undef) :: E) I L Ls) : XR P r K n ds ops Q last (.pure i σ) E I L Ls := XR.skip ho hw hd hk
theorem XR.se {i : Nat} (ho : ops[i]? = some ⟨some d, op, ty, pos, after, g⟩) (hw : Wants ops ⟨some d, op, ty, pos, after, g⟩ E false) (hd : Nat.ble (d + 1) n = true) (hsub : Ls.Sublist L)
    (hk : XR P r K n ds ops Q last σ ((d, undef) :: E) I L Ls) : XR P r K n ds ops Q last (.eff i σ) E I L Ls := XR.skipe ho hw hd hsub hk
theorem XR.e {i : Nat} {Post : Value → Im → Own → Prop} (ho : ops[i]? = some ⟨some d, op, ty, pos, after, g⟩) (hw : Wants ops ⟨some d, op, ty, pos, after, g⟩ E true) (hd : Nat.ble (d + 1) n = true)
    (hs : Step P r K n ds ⟨some d, op, ty, pos, after, g⟩ E I L Post)
    (hk : ∀ v I' L', Post v I' L' → I.le I' ∧ (last = some i ∨ Ls.Sublist L') ∧ XR P r K n ds ops Q last σ ((d, v) :: E) I' L' Ls) : XR P r K n ds ops Q last (.eff i σ) E I L Ls := XR.step ho hw hd hs hk
theorem XR.e0 {i : Nat} {Post : Value → Im → Own → Prop} (ho : ops[i]? = some ⟨none, op, ty, pos, after, g⟩) (hw : Wants ops ⟨none, op, ty, pos, after, g⟩ E true)
    (hs : Step P r K n ds ⟨none, op, ty, pos, after, g⟩ E I L Post)
    (hk : ∀ v I' L', Post v I' L' → I.le I' ∧ (last = some i ∨ Ls.Sublist L') ∧ XR P r K n ds ops Q last σ E I' L' Ls) : XR P r K n ds ops Q last (.eff i σ) E I L Ls := XR.step ho hw rfl hs hk

/-! effects, one by one -/
theorem XO.box {t : TypeId} {x : Operand} (hw : Wants ops ⟨some d, .box t x, ty, pos, after, g⟩ E true) (hd : Nat.ble (d + 1) n = true) (hx : ev E x = some v)
    (hk : ∀ b, XO P r K n ds ops Q l ((d, .pointer (some ⟨b, 0, none⟩)) :: E) I (some (b, .cells v.cells t (0, 0)) :: L)) : XO P r K n ds ops Q (⟨some d, .box t x, ty, pos, after, g⟩ :: l) E I L :=
  XO.e hw hd (Runs.step rfl (Runs.box hx)) (by rintro u I' L' ⟨b, rfl, rfl, rfl⟩; exact hk b)
theorem XO.box_agg {t : TypeId} {x : Operand} {cs : Array Value} (hw : Wants ops ⟨some d, .box t x, ty, pos, after, g⟩ E true) (hd : Nat.ble (d + 1) n = true) (hx : ev E x = some (.agg cs))
    (hk : ∀ b, XO P r K n ds ops Q l ((d, .pointer (some ⟨b, 0, none⟩)) :: E) I (some (b, .cells cs t (0, 0)) :: L)) : XO P r K n ds ops Q (⟨some d, .box t x, ty, pos, after, g⟩ :: l) E I L := XO.box hw hd hx hk
theorem XO.box1 {t : TypeId} {x : Operand} (hw : Wants ops ⟨some d, .box t x, ty, pos, after, g⟩ E true) (hd : Nat.ble (d + 1) n = true) (hx : ev E x = some v) (hv : v.cells = #[v])
    (hk : ∀ b, XO P r K n ds ops Q l ((d, .pointer (some ⟨b, 0, none⟩)) :: E) I (some (b, .cells #[v] t (0, 0)) :: L)) : XO P r K n ds ops Q (⟨some d, .box t x, ty, pos, after, g⟩ :: l) E I L := XO.box hw hd hx (by rw [hv]; exact hk)
theorem XO.alloc {t : TypeId} {z : Value} {cs : Array Value} (hw : Wants ops ⟨some d, .alloc t, ty, pos, after, g⟩ E true) (hd : Nat.ble (d + 1) n = true) (hz : zeroOf P t = some z) (hc : z.cells = cs)
    (hk : ∀ b, XO P r K n ds ops Q l ((d, .pointer (some ⟨b, 0, none⟩)) :: E) I (some (b, .cells cs t (0, 0)) :: L)) : XO P r K n ds ops Q (⟨some d, .alloc t, ty, pos, after, g⟩ :: l) E I L :=
  XO.e hw hd (Runs.step rfl (Runs.alloc hz)) (by subst hc; rintro u I' L' ⟨b, rfl, rfl, rfl⟩; exact hk b)
theorem XO.store {t : TypeId} {x y : Operand} {b o : Nat} {c : Array Value} {e : TypeId} (i : Nat) (hw : Wants ops ⟨none, .store t x y, ty, pos, after, g⟩ E true) (hs : szOf P t = some 1) (hx : ev E x = some (.pointer (some ⟨b, o, none⟩))) (hy : ev E y = some v)
    (h1 : v.oneCell' = true) (hi : L[i]? = some (some (b, .cells c e (0, 0)))) (ho : o < c.size)
    (hk : XO P r K n ds ops Q l E I (L.set i (some (b, .cells (c.setIfInBounds o v) e (0, 0))))) : XO P r K n ds ops Q (⟨none, .store t x y, ty, pos, after, g⟩ :: l) E I L :=
  XO.e0 hw (Runs.step rfl (Runs.store i hs hx hy h1 hi ho)) (by rintro u I' L' ⟨rfl, rfl, rfl⟩; exact hk)
theorem XO.store_agg {t : TypeId} {x y : Operand} {b o : Nat} {vs : List Value} {c : Array Value} {e : TypeId} (i : Nat) (hw : Wants ops ⟨none, .store t x y, ty, pos, after, g⟩ E true) (hs : szOf P t = some vs.length) (hx : ev E x = some (.pointer (some ⟨b, o, none⟩)))
    (hy : ev E y = some (.agg vs.toArray)) (h1 : ∀ v ∈ vs, v.oneCell' = true) (hi : L[i]? = some (some (b, .cells c e (0, 0)))) (ho : o + vs.length ≤ c.size)
    (hk : XO P r K n ds ops Q l E I (L.set i (some (b, .cells (c.toList.take o ++ vs ++ c.toList.drop (o + vs.length)).toArray e (0, 0))))) : XO P r K n ds ops Q (⟨none, .store t x y, ty, pos, after, g⟩ :: l) E I L :=
  XO.e0 hw (Runs.step rfl (Runs.store_agg i hs hx hy h1 hi ho)) (by rintro u I' L' ⟨rfl, rfl, rfl⟩; exact hk)
theorem XO.append {t tx e : TypeId} {x y : Operand} {V : Vec} {u : Value} {m s by_ : Nat} {z : Value} {cs news : List Value} (k : Nat) (hw : Wants ops ⟨some d, .call { callee := .builtin .append, args := #[x, y], argTypes := #[t, tx] }, ty, pos, after, g⟩ E true)
    (hd : Nat.ble (d + 1) n = true) (hu : P.underlying t = some (.slice e)) (he : Elem P e s z by_)
    (hx : ev E x = some V.val) (hy : ev E y = some u) (hV : V.Is s cs) (hL : L[k]? = some (V.ent e)) (hn : News P I L s tx u m news) (hb : (V.len + m) * by_ ≤ 140737488355328) (h63 : V.len + m ≤ 9223372036854775807)
    (hk : ∀ V' : Vec, V'.Is s (cs ++ news) → V'.len = V.len + m → XO P r K n ds ops Q l ((d, V'.val) :: E) I (L.set k (V'.ent e))) :
    XO P r K n ds ops Q (⟨some d, .call { callee := .builtin .append, args := #[x, y], argTypes := #[t, tx] }, ty, pos, after, g⟩ :: l) E I L :=
  XO.e hw hd (Runs.step rfl (Runs.append k hu he hx hy hV hL hn hb h63)) (by rintro r I' L' ⟨V', rfl, rfl, rfl, h1, h2⟩; exact hk V' h1 h2)
/-- a call of a function that neither takes nor gives what is owned -/
theorem XO.call {f : FuncId} {args : List Operand} {tys : Array TypeId} {vs : List Value} {Post : Value → Im → Prop}
    (hw : Wants ops ⟨some d, .call { callee := .value (.func f), args := args.toArray, argTypes := tys }, ty, pos, after, g⟩ E true) (hd : Nat.ble (d + 1) n = true) (hf : Enters P f) (hc : FC P f vs I Post) (hargs : EvalsTo E args vs)
    (hk : ∀ v I', I.le I' → Post v I' → XO P r K n ds ops Q l ((d, v) :: E) I' L) : XO P r K n ds ops Q (⟨some d, .call { callee := .value (.func f), args := args.toArray, argTypes := tys }, ty, pos, after, g⟩ :: l) E I L := by
  refine XO.e hw hd (Step.call (L := []) (Lf := L) (fi := #[]) (ca := #[]) (Post := fun v I' L' => L' = [] ∧ Post v I') rfl hf hargs (by simpa [FC] using hc)) ?_
  rintro v I' L' ⟨L1, hle, ⟨rfl, hp⟩, rfl⟩
  exact hk v I' hle hp
theorem XR.call {i : Nat} {f : FuncId} {args : List Operand} {tys : Array TypeId} {vs : List Value} {Post : Value → Im → Prop}
    (ho : ops[i]? = some ⟨some d, .call { callee := .value (.func f), args := args.toArray, argTypes := tys }, ty, pos, after, g⟩)
    (hw : Wants ops ⟨some d, .call { callee := .value (.func f), args := args.toArray, argTypes := tys }, ty, pos, after, g⟩ E true) (hd : Nat.ble (d + 1) n = true) (hf : Enters P f) (hc : FC P f vs I Post) (hargs : EvalsTo E args vs) (hsub : Ls.Sublist L)
    (hk : ∀ v I', I.le I' → Post v I' → XR P r K n ds ops Q last σ ((d, v) :: E) I' L Ls) : XR P r K n ds ops Q last (.eff i σ) E I L Ls := by
  refine XR.e ho hw hd (Step.call (L := []) (Lf := L) (fi := #[]) (ca := #[]) (Post := fun v I' L' => L' = [] ∧ Post v I') rfl hf hargs (by simpa [FC] using hc)) ?_
  rintro v I' L' ⟨L1, hle, ⟨rfl, hp⟩, rfl⟩
  exact ⟨hle, .inr hsub, hk v I' hle hp⟩
/-- a call that only computes -/
theorem XO.callp {f : FuncId} {args : List Operand} {tys : Array TypeId} {vs : List Value}
    (hw : Wants ops ⟨some d, .call { callee := .value (.func f), args := args.toArray, argTypes := tys }, ty, pos, after, g⟩ E true) (hd : Nat.ble (d + 1) n = true) (hf : Enters P f) (hc : FC P f vs I (fun u I' => u = v ∧ I' = I)) (hargs : EvalsTo E args vs)
    (hk : XO P r K n ds ops Q l ((d, v) :: E) I L) : XO P r K n ds ops Q (⟨some d, .call { callee := .value (.func f), args := args.toArray, argTypes := tys }, ty, pos, after, g⟩ :: l) E I L :=
  XO.call hw hd hf hc hargs (by rintro u I' _ ⟨rfl, rfl⟩; exact hk)
theorem XR.callp {i : Nat} {f : FuncId} {args : List Operand} {tys : Array TypeId} {vs : List Value}
    (ho : ops[i]? = some ⟨some d, .call { callee := .value (.func f), args := args.toArray, argTypes := tys }, ty, pos, after, g⟩)
    (hw : Wants ops ⟨some d, .call { callee := .value (.func f), args := args.toArray, argTypes := tys }, ty, pos, after, g⟩ E true) (hd : Nat.ble (d + 1) n = true) (hf : Enters P f) (hc : FC P f vs I (fun u I' => u = v ∧ I' = I)) (hargs : EvalsTo E args vs) (hsub : Ls.Sublist L)
    (hk : XR P r K n ds ops Q last σ ((d, v) :: E) I L Ls) : XR P r K n ds ops Q last (.eff i σ) E I L Ls :=
  XR.call ho hw hd hf hc hargs hsub (by rintro u I' _ ⟨rfl, rfl⟩; exact hk)
theorem XR.store {t : TypeId} {x y : Operand} {b o : Nat} {c : Array Value} {e : TypeId} (j : Nat) {i : Nat} (ho' : ops[i]? = some ⟨none, .store t x y, ty, pos, after, g⟩) (hw : Wants ops ⟨none, .store t x y, ty, pos, after, g⟩ E true) (hs : szOf P t = some 1)
    (hx : ev E x = some (.pointer (some ⟨b, o, none⟩))) (hy : ev E y = some v) (h1 : v.oneCell' = true) (hi : L[j]? = some (some (b, .cells c e (0, 0)))) (ho : o < c.size)
    (hsub : last = some i ∨ Ls.Sublist (L.set j (some (b, .cells (c.setIfInBounds o v) e (0, 0)))))
    (hk : XR P r K n ds ops Q last σ E I (L.set j (some (b, .cells (c.setIfInBounds o v) e (0, 0)))) Ls) : XR P r K n ds ops Q last (.eff i σ) E I L Ls :=
  XR.e0 ho' hw (Runs.step rfl (Runs.store j hs hx hy h1 hi ho)) (by rintro u I' L' ⟨rfl, rfl, rfl⟩; exact ⟨Im.le_refl _, hsub, hk⟩)
end
end Go.Xe
