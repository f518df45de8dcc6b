/- The rules for regions that draw their order, for functions' beginnings and ends, and for handing memory over: over the small logic of XXe. No program is named here. -/
import Derived.Test.YtlgfpieokaegiaaXd
namespace Go.Xe
open Go Go.RowKit

section
variable {P : Program} {r : Option Nat} {K : World} {n : Nat} {ds : List Deferred} {ops : Array Oper} {Q : Exit → Act → World → Prop} {last : Option Nat} {σ : Sched} {E E' : Env} {I : Im} {L L' Ls : Own}

/-- a region in its one order; Ls: the owned part that stays as it is -/
def XR (P : Program) (r : Option Nat) (K : World) (n : Nat) (ds : List Deferred) (ops : Array Oper) (Q : Exit → Act → World → Prop) (last : Option Nat) (σ : Sched) (E : Env) (I : Im) (L Ls : Own) : Prop :=
  ∀ a w, Holds a n ds E → Sat K w I L → RunC P r ops Q last σ (fun x => Sat K x I Ls) a w

theorem XC.draw {id : Nat} {l : List Oper} (hm : P.follows .mixedOrders = true) (last : Option Nat) (σ : Sched) (Ls : Own) (hB : drawB l.toArray last σ = true) (hs : Ls.Sublist L) (h : XR P r K n ds l.toArray Q last σ E I L Ls) :
    XC P r K n ds (.region id l.toArray true) Q E I L := fun a _ hH hS => wpIn_draw hm hB (hS.drew.drop hs) (h a _ hH hS.drew)

theorem XR.nil (h : XQ K n ds Q .normal E I L) : XR P r K n ds ops Q last .done E I L Ls := fun a w hH hS => h a w hH hS
theorem XR.weaken (hs : SubL E E') (h : XR P r K n ds ops Q last σ E' I L Ls) : XR P r K n ds ops Q last σ E I L Ls := fun a w hH hS => h a w (hH.weaken hs) hS
theorem XR.perm (hp : L.Perm L') (h : XR P r K n ds ops Q last σ E I L' Ls) : XR P r K n ds ops Q last σ E I L Ls := fun a w hH hS => h a w hH (hS.perm hp)

theorem XR.read {i : Nat} {o : Oper} {v : Value} (ho : ops[i]? = some o) (hw : Wants ops o E true) (hd : fits o.dst n = true) (hs : Reads P o E I Ls v)
    (hk : XR P r K n ds ops Q last σ (push o.dst v E) I L Ls) : XR P r K n ds ops Q last (.pure i σ) E I L Ls := by
  intro a w hH hS
  exact ⟨o, v, ho, .inl ⟨hw.wanted hH, fun x hx => hs K n ds a x hH hx⟩, hk _ _ (hH.push hd) hS⟩
theorem XR.skip {i : Nat} {o : Oper} (ho : ops[i]? = some o) (hw : Wants ops o E false) (hd : fits o.dst n = true)
    (hk : XR P r K n ds ops Q last σ (push o.dst undef E) I L Ls) : XR P r K n ds ops Q last (.pure i σ) E I L Ls := by
  intro a w hH hS
  exact ⟨o, undef, ho, .inr ⟨hw.wanted hH, rfl⟩, hk _ _ (hH.push hd) hS⟩
/-- an effect that is not carried out -/
theorem XR.skipe {i : Nat} {o : Oper} (ho : ops[i]? = some o) (hw : Wants ops o E false) (hd : fits o.dst n = true) (hs : Ls.Sublist L)
    (hk : XR P r K n ds ops Q last σ (push o.dst undef E) I L Ls) : XR P r K n ds ops Q last (.eff i σ) E I L Ls := by
  intro a w hH hS
  show opw P r ops Q i _ a w
  unfold opw
  simp only [ho]
  rw [if_neg (by rw [hw.wanted hH]; simp)]
  exact ⟨_, fun _ h => h, .inr (hS.drop hs), hk _ _ (hH.push hd) hS⟩

theorem Sat.back {w : World} {I' : Im} (h : Sat K w I' L) (hle : I.le I') : Sat K w I L :=
  ⟨h.os, h.tape, h.output, fun b o hb => h.im b o (hle b o hb), h.own, h.nodup, fun b o hm => by
    cases e : I b with
    | none => rfl
    | some o' => have := hle b o' e; rw [h.apart b o hm] at this; cases this⟩

theorem XR.step {i : Nat} {o : Oper} {Post : Value → Im → Own → Prop} (ho : ops[i]? = some o) (hw : Wants ops o E true) (hd : fits o.dst n = true) (hs : Step P r K n ds o E I L Post)
    (hk : ∀ v I' L', Post v I' L' → I.le I' ∧ (last = some i ∨ Ls.Sublist L') ∧ XR P r K n ds ops Q last σ (push o.dst v E) I' L' Ls) : XR P r K n ds ops Q last (.eff i σ) E I L Ls := by
  intro a w hH hS
  show opw P r ops Q i _ a w
  unfold opw
  simp only [ho]
  rw [if_pos (hw.wanted hH)]
  refine hs a w _ _ hH hS fun v w' I' L' hS' hP => ?_
  obtain ⟨h1, h2, h3⟩ := hk v I' L' hP
  exact ⟨fun x => Sat K x I' Ls, fun x hx => hx.back h1, h2.imp id (fun hsub => hS'.drop hsub), h3 _ _ (hH.push hd) hS'⟩

theorem XR.split {d : Nat} {b : Bool} (hf : find E d = some (.bool b)) (ht : b = true → XR P r K n ds ops Q last σ ((d, .bool true) :: E) I L Ls)
    (hn : b = false → XR P r K n ds ops Q last σ ((d, .bool false) :: E) I L Ls) : XR P r K n ds ops Q last σ E I L Ls := by
  intro a w hH hS
  have hh : ∀ c, b = c → Holds a n ds ((d, .bool c) :: E) := fun c hc => ⟨hH.size, hH.defers, fun t v ht => by
    rw [find_cons] at ht
    by_cases e : d = t
    · subst e; simp at ht; subst ht; rw [← hc]; exact hH.slot d _ hf
    · rw [if_neg e] at ht; exact hH.slot t v ht⟩
  cases hb : b
  · exact hn hb a w (hh false hb) hS
  · exact ht hb a w (hh true hb) hS
end

/-! functions -/
def argEnv : Nat → List Value → Env
  | _, [] => []
  | i, v :: vs => (i, v) :: argEnv (i + 1) vs
theorem argEnv_find : ∀ (vs : List Value) (i t : Nat) (v : Value), find (argEnv i vs) t = some v → i ≤ t ∧ vs[t - i]? = some v
  | [], _, _, _, h => by simp [argEnv, find] at h
  | u :: vs, i, t, v, h => by
    simp only [argEnv] at h
    rw [find_cons] at h
    by_cases e : i = t
    · subst e; simp at h; subst h; simp
    · rw [if_neg e] at h
      obtain ⟨h1, h2⟩ := argEnv_find vs (i + 1) t v h
      refine ⟨by omega, ?_⟩
      rw [show t - i = (t - (i + 1)) + 1 by omega, List.getElem?_cons_succ]; exact h2

def RetPost (K : World) (I : Im) (Lf : Own) (Post : Value → Im → Own → Prop) (e : Ending) (w' : World) : Prop :=
  ∃ v I' L', e = .returned v ∧ I.le I' ∧ Sat K w' I' (L' ++ Lf) ∧ Post v I' L'

theorem FSo.intro {P : Program} {f : FuncId} {fn : Func} {c : Code} {n : Nat} {args : List Value} {I : Im} {L : Own} {Post : Value → Im → Own → Prop} (hf : P.funcs[f]? = some fn) (hb : fn.body = some c) (hnt : fn.ntmps = n) (hn : Nat.ble args.length n = true)
    (h : ∀ K Lf, XC P none K n [] c (bodyPost P fn (RetPost K I Lf Post)) (argEnv 0 args) I (L ++ Lf)) : FSo P f args I L Post := by
  subst hnt
  intro K w Lf hS
  refine (callsIn_wide (n := 0)).1 (callsIn_of_wp (F := FW none) hf hb trivial (h K Lf _ _ ⟨?_, rfl, ?_⟩ hS))
  · have := Nat.le_of_ble_eq_true hn
    simp; omega
  · intro t v ht
    obtain ⟨_, h2⟩ := argEnv_find args 0 t v ht
    simp only [Nat.sub_zero] at h2
    have hlt : t < args.length := (List.getElem?_eq_some_iff.1 h2).1
    rw [Array.getElem?_append_left (by simpa using hlt)]
    simpa using h2

section
variable {P : Program} {K : World} {n : Nat} {E : Env} {I I₀ : Im} {L Lf : Own} {fn : Func} {Post : Value → Im → Own → Prop}
theorem XQ.done1 {t : Tmp} {v : Value} (hr : fn.results = #[.tmp t]) (hv : find E t = some v) (hI : I₀.le I) (hP : Post v I L) :
    XQ K n [] (bodyPost P fn (RetPost K I₀ Lf Post)) .ret E I (L ++ Lf) := fun a w hH hS =>
  ⟨hH.defers, v, by simp [results, hr, hH.slot t v hv], v, I, L, rfl, hI, hS, hP⟩
theorem XQ.done2 {t u : Tmp} {v x : Value} (hr : fn.results = #[.tmp t, .tmp u]) (hv : find E t = some v) (hx : find E u = some x) (hI : I₀.le I) (hP : Post (.tuple #[v, x]) I L) :
    XQ K n [] (bodyPost P fn (RetPost K I₀ Lf Post)) .ret E I (L ++ Lf) := fun a w hH hS =>
  ⟨hH.defers, .tuple #[v, x], by simp [results, hr, hH.slot t v hv, hH.slot u x hx], _, I, L, rfl, hI, hS, hP⟩
theorem XQ.done3 {t u s : Tmp} {v x y : Value} (hr : fn.results = #[.tmp t, .tmp u, .tmp s]) (hv : find E t = some v) (hx : find E u = some x) (hy : find E s = some y) (hI : I₀.le I) (hP : Post (.tuple #[v, x, y]) I L) :
    XQ K n [] (bodyPost P fn (RetPost K I₀ Lf Post)) .ret E I (L ++ Lf) := fun a w hH hS =>
  ⟨hH.defers, .tuple #[v, x, y], by simp [results, hr, hH.slot t v hv, hH.slot u x hx, hH.slot s y hy], _, I, L, rfl, hI, hS, hP⟩
theorem XQ.done0 (hr : fn.results = #[]) (hI : I₀.le I) (hP : Post (.tuple #[]) I L) :
    XQ K n [] (bodyPost P fn (RetPost K I₀ Lf Post)) .ret E I (L ++ Lf) := fun a w hH hS =>
  ⟨hH.defers, .tuple #[], by simp [results, hr], _, I, L, rfl, hI, hS, hP⟩
theorem XQ.done_normal {Q : Ending → World → Prop} (h : XQ K n [] (bodyPost P fn Q) .ret E I L) : XQ K n [] (bodyPost P fn Q) .normal E I L := h
/-- what is owned is handed over, and stays as it is from now on -/
theorem XQ.give {Q : Exit → Act → World → Prop} {ds : List Deferred} {e : Exit} {b : Nat} {o : Obj} (h : I b = none → XQ K n ds Q e E (I.add b o) L) : XQ K n ds Q e E I (some (b, o) :: L) :=
  fun a w hH hS => h (hS.apart b o (List.mem_cons_self ..)) a w hH hS.give
theorem XQ.perm {Q : Exit → Act → World → Prop} {ds : List Deferred} {e : Exit} {L' : Own} (hp : L.Perm L') (h : XQ K n ds Q e E I L') : XQ K n ds Q e E I L := fun a w hH hS => h a w hH (hS.perm hp)
theorem XQ.drop {Q : Exit → Act → World → Prop} {ds : List Deferred} {e : Exit} {L' : Own} (hp : L'.Sublist L) (h : XQ K n ds Q e E I L') : XQ K n ds Q e E I L := fun a w hH hS => h a w hH (hS.drop hp)
end
section
variable {P : Program} {r : Option Nat} {K : World} {n : Nat} {ds : List Deferred} {ops : Array Oper} {Q : Exit → Act → World → Prop} {l : List Oper} {E : Env} {I : Im} {L : Own} {c : Code}
theorem XO.give {b : Nat} {o : Obj} (h : I b = none → XO P r K n ds ops Q l E (I.add b o) L) : XO P r K n ds ops Q l E I (some (b, o) :: L) := fun a w hH hS => h (hS.apart b o (List.mem_cons_self ..)) a w hH hS.give
theorem XC.give {b : Nat} {o : Obj} (h : I b = none → XC P r K n ds c Q E (I.add b o) L) : XC P r K n ds c Q E I (some (b, o) :: L) := fun a w hH hS => h (hS.apart b o (List.mem_cons_self ..)) a w hH hS.give
end
end Go.Xe
namespace Go.Xe
open Go Go.RowKit
section
variable {P : Program} {r : Option Nat} {K : World} {n : Nat} {ds : List Deferred} {ops : Array Oper} {Q : Exit → Act → World → Prop} {last : Option Nat} {σ : Sched} {E : Env} {I : Im} {L Ls : Own} {c : Code}
/-- several effects may come up: each of them in turn -/
theorem XR.alt {i : Nat} {rest : Sched} (h1 : XR P r K n ds ops Q last (.eff i σ) E I L Ls) (h2 : XR P r K n ds ops Q last rest E I L Ls) : XR P r K n ds ops Q last (.alt i σ rest) E I L Ls := fun a w hH hS => ⟨h1 a w hH hS, h2 a w hH hS⟩
/-- several ways through c end in one family of states -/
theorem XC.join {ι : Type} (Ef : ι → Env) (If : ι → Im) (Lf : ι → Own) (p : ι → Prop) (h1 : XC P r K n ds c (Exit.then (fun a w => ∃ j, p j ∧ Holds a n ds (Ef j) ∧ Sat K w (If j) (Lf j)) Q) E I L)
    (h2 : ∀ j, p j → XQ K n ds Q .normal (Ef j) (If j) (Lf j)) : XC P r K n ds c Q E I L := fun a w hH hS => by
  refine wpIn_mono (h1 a w hH hS) ?_
  intro e a' w' hq
  cases e with
  | normal => obtain ⟨j, hp, hHj, hSj⟩ := hq; exact h2 j hp a' w' hHj hSj
  | _ => exact hq
theorem XQ.joined {ι : Type} {Ef : ι → Env} {If : ι → Im} {Lf : ι → Own} {p : ι → Prop} (j : ι) (hp : p j) (hE : SubL E (Ef j)) (hI : If j = I) (hL : L.Perm (Lf j)) :
    XQ K n ds (Exit.then (fun a w => ∃ j, p j ∧ Holds a n ds (Ef j) ∧ Sat K w (If j) (Lf j)) Q) .normal E I L := fun a w hH hS => ⟨j, hp, hH.weaken hE, by rw [hI]; exact hS.perm hL⟩
end
end Go.Xe
