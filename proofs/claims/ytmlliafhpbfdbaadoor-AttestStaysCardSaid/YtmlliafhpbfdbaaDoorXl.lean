/- A range over a function, a call of yield, the end of a function that holds such a loop, results that lie in cells: over the small logic of XXe. No program is named here. -/
import Derived.Test.YtmlliafhpbfdbaaDoorXb
import Derived.RangeFuncRecord
namespace Go.Xe
open Go Go.RowKit

/-! the loop's record -/
def lp (r : Loop) (s : LoopState) (p : Option Code) : Obj := .loop { r with state := s, pending := p }
structure RecOk (n : Nat) (r : Loop) (ps : Array Tmp) (assign body : Code) (E : Env) : Prop where
  size : r.tmps.size = n
  slot : ∀ t v, find E t = some v → r.tmps[t]? = some v
  params : r.params = ps
  assign : r.assign = assign
  body : r.body = body

theorem Sat.putObj {K w : World} {I : Im} {L : Own} {i b : Nat} {o : Obj} (o' : Obj) (h : Sat K w I L) (hi : L[i]? = some (some (b, o))) : Sat K (w.putObj b o') I (L.set i (some (b, o'))) :=
  h.put hi rfl rfl rfl (World.putObj_heap_same (lt_of_heap (h.own _ _ (List.mem_of_getElem? hi)))) (fun _ hk => World.putObj_heap_other hk)

/-- a yield's contract: one round -/
def YS (P : Program) (l : Nat) (args : List Value) (I : Im) (L : Own) (Post : Bool → Im → Own → Prop) : Prop :=
  ∀ (K w : World) (Lf : Own), Sat K w I (L ++ Lf) → ∃ f tmps assign body, (Instr.yield l args.toArray).run P w = .ok (.round l f tmps assign body) w ∧
    ∀ r, RoundIn (FW r) 0 P l f tmps assign body w fun e w' => ∃ b I' L', e = .returned (.bool b) ∧ I.le I' ∧ Sat K w' I' (L' ++ Lf) ∧ Post b I' L'

theorem YS.mono {P : Program} {l : Nat} {args : List Value} {I : Im} {L : Own} {Post Post' : Bool → Im → Own → Prop} (h : YS P l args I L Post) (hp : ∀ b I' L', I.le I' → Post b I' L' → Post' b I' L') : YS P l args I L Post' :=
  fun K w Lf hS => let ⟨f, t, a, b, h1, h2⟩ := h K w Lf hS
    ⟨f, t, a, b, h1, fun r => (h2 r).mono fun _ _ ⟨b, I', L', he, hi, hs, hq⟩ => ⟨b, I', L', he, hi, hs, hp b I' L' hi hq⟩⟩

theorem Step.yield {P : Program} {r : Option Nat} {K : World} {n : Nat} {ds : List Deferred} {dst : Option Tmp} {ty : TypeId} {pos : String} {after : Array Edge} {g : Option (Nat × Bool)} {E : Env} {I : Im} {L Lf : Own}
    {fo : Operand} {l : Nat} {args : List Operand} {tys : Array TypeId} {vs : List Value} {Post : Bool → Im → Own → Prop}
    (hfo : ev E fo = some (.func (.yield l) #[] #[])) (hargs : EvalsTo E args vs) (hc : YS P l vs I L Post) :
    Step P r K n ds { dst, op := .call { callee := .value fo, args := args.toArray, argTypes := tys }, type := ty, pos, after, guard := g } E I (L ++ Lf)
      (fun v I' L' => ∃ b L1, v = .bool b ∧ I.le I' ∧ Post b I' L1 ∧ L' = L1 ++ Lf) := by
  intro a w Q N hH hS hN
  refine ⟨fun _ _ => trivial, ?_⟩
  rw [show (FW r).round = r from rfl, semAt_plain r _ _ rfl]
  obtain ⟨f, tmps, assign, body, hy, hr⟩ := hc K w Lf hS
  have hrun : (execOp a.eval { dst, op := .call { callee := .value fo, args := args.toArray, argTypes := tys }, type := ty, pos, after, guard := g }).run P w = .ok (.round l f tmps assign body) w := by
    have hm : (args.toArray.map a.eval) = vs.toArray := by rw [List.map_toArray, EvalsTo.map hH hargs]
    simp only [execOp, resolve, Deferred.ofValue, hH.ev hfo, hm, Sem.run_bind, Sem.run_pure, Result.andThen_ok, invoke]
    simpa using hy
  rw [hrun]
  refine ⟨fun h => by simp [FW] at h, ?_⟩
  refine (hr r).mono ?_
  rintro e w' ⟨b, I', L1, rfl, hle, hS', hP⟩
  exact hN (.bool b) w' I' (L1 ++ Lf) hS' ⟨b, L1, rfl, hle, hP, rfl⟩

/-! one round, seen from the caller -/
/-- behind the assignment to the loop's left sides -/
def BeginPost (P : Program) (l : Nat) (body : Code) (R : Ending → World → Prop) : Exit → Act → World → Prop :=
  Exit.then (fun a₁ w₁ => ∃ w₂, (Instr.beginRound l).run P w₁ = .ok () w₂ ∧ body.wpIn (FW (some l)) 0 P (roundPost P l R) a₁ w₂) (fun _ _ _ => False)
def YRet (K : World) (I : Im) (Lf : Own) (Post : Bool → Im → Own → Prop) (e : Ending) (w' : World) : Prop :=
  ∃ b I' L', e = .returned (.bool b) ∧ I.le I' ∧ Sat K w' I' (L' ++ Lf) ∧ Post b I' L'

/-- parameters over a frame -/
def bindEnv : List Tmp → List Value → Env → Env
  | p :: ps, v :: vs, E => bindEnv ps vs ((p, v) :: E)
  | _, _, E => E
theorem bind_foldl {n : Nat} : ∀ (ps : List Tmp) (vs : List Value) (E : Env) (t : Array Value), t.size = n → (∀ k v, find E k = some v → t[k]? = some v) → ps.all (fun p => Nat.ble (p + 1) n) = true →
    ((ps.zip vs).foldl (fun tmps (p, a) => tmps.setIfInBounds p a) t).size = n ∧ ∀ k v, find (bindEnv ps vs E) k = some v → ((ps.zip vs).foldl (fun tmps (p, a) => tmps.setIfInBounds p a) t)[k]? = some v
  | [], vs, E, t, h, h2, _ => ⟨by simpa using h, by simpa [bindEnv] using h2⟩
  | p :: ps, [], E, t, h, h2, _ => ⟨by simpa using h, by simpa [bindEnv] using h2⟩
  | p :: ps, v :: vs, E, t, h, h2, h3 => by
    simp only [List.all_cons, Bool.and_eq_true] at h3
    have hp := Nat.le_of_ble_eq_true h3.1
    refine bind_foldl ps vs ((p, v) :: E) (t.setIfInBounds p v) (by simpa using h) (fun k u hk => ?_) h3.2
    rw [find_cons] at hk
    by_cases e : p = k
    · subst e; simp at hk; subst hk; have : p < t.size := Nat.lt_of_lt_of_eq hp h.symm
      simp [this]
    · rw [if_neg e] at hk; rw [Array.getElem?_setIfInBounds_ne e]; exact h2 k u hk

theorem YS.intro {P : Program} {l n : Nat} {rc : Loop} {ps : Array Tmp} {assign body : Code} {E : Env} {vs : List Value} {I : Im} {L : Own} {Post : Bool → Im → Own → Prop} (hR : RecOk n rc ps assign body E) (hlen : vs.length = ps.size)
    (hps : ps.toList.all (fun p => Nat.ble (p + 1) n) = true)
    (h : ∀ K Lf, XC P (some l) K n [] assign (BeginPost P l body (YRet K I Lf Post)) (bindEnv ps.toList vs E) I (some (l, lp rc .ready none) :: (L ++ Lf))) :
    YS P l vs I (some (l, lp rc .ready none) :: L) Post := by
  intro K w Lf hS
  have hheap := hS.own l _ (List.mem_cons_self ..)
  obtain ⟨h1, h2⟩ := bind_foldl (n := n) ps.toList vs E rc.tmps hR.size hR.slot hps
  refine ⟨rc.fn, ((ps.toList.zip vs).foldl (fun tmps (p, a) => tmps.setIfInBounds p a) rc.tmps), assign, body, ?_, fun r => ?_⟩
  · rw [run_yield hheap (by simp [hlen, hR.params])]
    simp only [hR.assign, hR.body, hR.params]
    congr 1
    congr 1
    have e1 : (ps.zip vs.toArray) = (ps.toList.zip vs).toArray := by
      apply Array.ext'
      simp
    rw [e1, List.foldl_toArray]
  · refine roundIn_of_wpIn trivial ?_
    exact h K Lf _ w ⟨h1, rfl, h2⟩ hS

section
variable {P : Program} {K : World} {n : Nat} {ds : List Deferred} {E : Env} {I I₀ : Im} {L Lf : Own} {l : Nat} {rc : Loop} {body : Code} {R : Ending → World → Prop} {Post : Bool → Im → Own → Prop}
theorem XQ.begin (h : XC P (some l) K n ds body (roundPost P l R) E I (some (l, lp rc .busy none) :: L)) : XQ K n ds (BeginPost P l body R) .normal E I (some (l, lp rc .ready none) :: L) := fun a _w hH hS =>
  ⟨_, run_beginRound (hS.own _ _ (List.mem_cons_self ..)) rfl, h a _ hH (hS.putObj (i := 0) _ rfl)⟩
theorem XQ.round_normal (hI : I₀.le I) (hP : Post true I (some (l, lp rc .ready none) :: L)) : XQ K n ds (roundPost P l (YRet K I₀ Lf Post)) .normal E I (some (l, lp rc .busy none) :: (L ++ Lf)) := fun _a _w _hH hS =>
  ⟨_, _, run_endRound none (hS.own _ _ (List.mem_cons_self ..)), true, I, _, rfl, hI, (hS.putObj (i := 0) _ rfl), hP⟩
theorem XQ.round_ret (hI : I₀.le I) (hP : Post false I (some (l, lp rc .done (some .ret)) :: L)) : XQ K n ds (roundPost P l (YRet K I₀ Lf Post)) .ret E I (some (l, lp rc .busy none) :: (L ++ Lf)) := fun _a _w _hH hS =>
  ⟨_, _, run_endRound (some .ret) (hS.own _ _ (List.mem_cons_self ..)), false, I, _, rfl, hI, (hS.putObj (i := 0) _ rfl), hP⟩
theorem XQ.round_exit {id : Nat} (hI : I₀.le I) (hP : Post false I (some (l, lp rc .done (some (.exit id))) :: L)) : XQ K n ds (roundPost P l (YRet K I₀ Lf Post)) (.exit id) E I (some (l, lp rc .busy none) :: (L ++ Lf)) := fun _a _w _hH hS =>
  ⟨_, _, run_endRound (some (.exit id)) (hS.own _ _ (List.mem_cons_self ..)), false, I, _, rfl, hI, (hS.putObj (i := 0) _ rfl), hP⟩
end

/-! the statement -/
def mark (D : Nat) : Deferred := { target := .collected D, args := #[] }

theorem XC.rangeFunc {P : Program} {K : World} {n : Nat} {ds : List Deferred} {Q : Exit → Act → World → Prop} {E : Env} {I : Im} {L L1 Lf : Own} {g : Operand} {ps : Array Tmp} {assign body : Code} {f : FuncId} {fi ca : Array Value}
    (hg : ev E g = some (.func (.func f) fi ca)) (hf : Enters P f) (hL : L.Perm (L1 ++ Lf))
    (h : ∀ l D rc, RecOk n rc ps assign body E → ∃ Post, FSo P f (fi.toList ++ [.func (.yield l) #[] #[]] ++ ca.toList) I (some (l, lp rc .ready none) :: some (D, .deferred (some [])) :: L1) Post ∧
      ∀ v I' L', I.le I' → Post v I' L' → ∃ s p L2, L'.Perm (some (l, lp rc s p) :: L2) ∧ s ≠ .busy ∧
        (match p with | none => XQ K n (mark D :: ds) Q .normal E I' (L2 ++ Lf) | some c => XC P none K n (mark D :: ds) c Q E I' (L2 ++ Lf))) :
    XC P none K n ds (.rangeFunc g ps assign body) Q E I L := by
  intro a w hH hS
  refine wpIn_rangeFunc fun fn _ => ?_
  let rc : Loop := { state := .ready, pending := none, fn, tmps := a.tmps, params := ps, assign, body, defers := w.heap.size }
  have hS0 := hS.perm hL
  have hS1 := hS0.alloc (.deferred (some []))
  have hS2 := hS1.alloc (.loop rc)
  rw [World.size_alloc] at hS2
  obtain ⟨Post, hc, hk⟩ := h (w.heap.size + 1) w.heap.size rc ⟨hH.size, hH.slot, rfl, rfl, rfl⟩
  let W2 := (w.alloc (.deferred (some []))).alloc (.loop rc)
  refine ⟨w.heap.size + 1, [mark w.heap.size], W2, ⟨.fn (.func f) ca, fi ++ #[Value.func (.yield (w.heap.size + 1)) #[] #[]]⟩, W2, f, (fi.toList ++ [Value.func (.yield (w.heap.size + 1)) #[] #[]] ++ ca.toList).toArray, W2, run_enterLoop_outer fn a.tmps ps assign body, ?_, fun _ _ => trivial, ?_, fun h => by simp [FW] at h, ?_⟩
  · have e1 : (rangeCall g (w.heap.size + 1)).args.map a.eval = #[Value.func (.yield (w.heap.size + 1)) #[] #[]] := by simp [Act.eval]
    simp only [resolve, e1, hH.ev hg, Deferred.ofValue, Sem.run_pure]
  · simp only [invoke]
    rw [show fi ++ #[Value.func (.yield (w.heap.size + 1)) #[] #[]] ++ ca = (fi.toList ++ [Value.func (.yield (w.heap.size + 1)) #[] #[]] ++ ca.toList).toArray by simp]
    exact hf _ _
  · have h2 := (callsIn_wide (n := 0 - 1)).2 (hc K _ Lf hS2)
    refine CallsIn.mono (F := FW none) h2 ?_
    rintro e w3 ⟨v, I', L', rfl, hle, hS3, hP⟩
    obtain ⟨s, p, L2, hp2, hs, hcont⟩ := hk v I' L' hle hP
    replace hS3 := hS3.perm (hp2.append_right Lf)
    have hH' : Holds { a with defers := [mark w.heap.size] ++ a.defers } n (mark w.heap.size :: ds) E := ⟨hH.size, by simp [hH.defers], hH.slot⟩
    refine ⟨p, _, run_endLoop (hS3.own _ _ (List.mem_cons_self ..)) hs, ?_⟩
    have hS4 := (hS3.putObj (i := 0) (.loop { rc with state := .exhausted, pending := p }) rfl)
    have hS5 : Sat K _ I' (L2 ++ Lf) := hS4.drop (List.sublist_cons_self _ _)
    cases p with
    | none => exact hcont _ _ hH' hS5
    | some c => exact hcont _ _ hH' hS5

theorem FSo.perm {P : Program} {f : FuncId} {args : List Value} {I : Im} {L L' : Own} {Post : Value → Im → Own → Prop} (hp : L'.Perm L) (h : FSo P f args I L Post) : FSo P f args I L' Post := fun K w Lf hS => h K w Lf (hS.perm (hp.append_right Lf))

/-! the end of a function that holds such loops -/
theorem FSo.introM {P : Program} {f : FuncId} {fn : Func} {c : Code} {n : Nat} {args : List Value} {I : Im} {L : Own} {Post : Value → Im → Own → Prop} (hf : P.funcs[f]? = some fn) (hb : fn.body = some c) (hnt : fn.ntmps = n) (hn : Nat.ble args.length n = true)
    (h : ∀ K Lf, XC P none K n [] c (bodyPostM (FW none) 0 P fn (RetPost K I Lf Post)) (argEnv 0 args) I (L ++ Lf)) : FSo P f args I L Post := by
  subst hnt
  intro K w Lf hS
  refine (callsIn_wide (n := 0)).1 (callsIn_of_wp_marks (F := FW none) hf hb trivial (h K Lf _ _ ⟨?_, rfl, ?_⟩ hS))
  · have := Nat.le_of_ble_eq_true hn
    simp; omega
  · intro t v ht
    obtain ⟨_, h2⟩ := argEnv_find args 0 t v ht
    simp only [Nat.sub_zero] at h2
    have hlt : t < args.length := (List.getElem?_eq_some_iff.1 h2).1
    rw [Array.getElem?_append_left (by simpa using hlt)]
    simpa using h2

section
variable {P : Program} {K : World} {n : Nat} {ds : List Deferred} {E : Env} {I I₀ : Im} {L Lf : Own} {fn : Func} {Post : Value → Im → Own → Prop} {R : Ending → World → Prop} {e : Exit} {D : Nat}
theorem XQ.ofM (h : XQ K n [] (bodyPost P fn R) .ret E I L) : XQ K n [] (bodyPostM (FW none) 0 P fn R) .ret E I L := fun a w hH hS => by
  obtain ⟨h1, h2⟩ := h a w hH hS
  show LeavesInM _ _ _ _ _ _ a.defers _ _
  rw [h1]; exact h2
theorem XQ.doneM_normal (h : XQ K n ds (bodyPostM (FW none) 0 P fn R) .ret E I L) : XQ K n ds (bodyPostM (FW none) 0 P fn R) .normal E I L := h
theorem XQ.unmark (i : Nat) (hi : L[i]? = some (some (D, .deferred (some [])))) (h : XQ K n ds (bodyPostM (FW none) 0 P fn R) .ret E I (L.eraseIdx i)) : XQ K n (mark D :: ds) (bodyPostM (FW none) 0 P fn R) .ret E I L := fun a w hH hS => by
  show LeavesInM _ _ _ _ _ _ a.defers _ _
  rw [hH.defers]
  refine ⟨by simp, .inl ⟨D, _, rfl, run_takeDeferred (hS.own _ _ (List.mem_of_getElem? hi)), ?_⟩⟩
  have hS' := hS.putObj (.deferred none) hi
  have hS2 : Sat K (w.putObj D (.deferred none)) I (L.eraseIdx i) := (hS'.perm (perm_set hi _).symm).drop (List.sublist_cons_self _ _)
  exact h { tmps := a.tmps, defers := ds } _ ⟨hH.size, rfl, hH.slot⟩ hS2
/-- results in cells -/
theorem run_loadCell {w : World} {t : TypeId} {b o : Nat} {v : Value} (hk : kindOf P t = some false) (hS : Sat K w I L) (hc : OwnAt L b o v) : (loadVar t ⟨b, o, none⟩).run P w = .ok v w := by
  simp [loadVar, run_isAgg hk, hS.ownAt hc]
theorem XQ.done2c {t u : Tmp} {tt tu : TypeId} {bt bu : Nat} {v x : Value} (L0 : Own) (k : Nat) (hr : fn.results = #[.cell t tt, .cell u tu]) (ht : kindOf P tt = some false) (hu : kindOf P tu = some false)
    (hv : find E t = some (.pointer (some ⟨bt, 0, none⟩))) (hx : find E u = some (.pointer (some ⟨bu, 0, none⟩))) (hvc : OwnAt L bt 0 v) (hxc : OwnAt L bu 0 x) (hs : L.drop k = L0 ++ Lf) (hI : I₀.le I) (hP : Post (.tuple #[v, x]) I L0) :
    XQ K n [] (bodyPost P fn (RetPost K I₀ Lf Post)) .ret E I L := fun a w hH hS =>
  ⟨hH.defers, .tuple #[v, x], by
    have h1 := run_loadCell (P := P) ht hS hvc
    have h2 := run_loadCell (P := P) hu hS hxc
    simp [results, hr, hH.slot t _ hv, hH.slot u _ hx, asAddr, h1, h2], _, I, L0, rfl, hI, by rw [← hs]; exact hS.drop (List.drop_sublist k L), hP⟩
end
end Go.Xe
namespace Go.Xe
open Go Go.RowKit
section
variable {P : Program} {r : Option Nat} {K : World} {n : Nat} {ds : List Deferred} {ops : Array Oper} {Q : Exit → Act → World → Prop} {l : List Oper} {E : Env} {I : Im} {L L1 Lf : Own} {d : Tmp} {ty : TypeId} {pos : String} {after : Array Edge} {g : Option (Nat × Bool)}
theorem XO.yield {fo : Operand} {y : Nat} {args : List Operand} {tys : Array TypeId} {vs : List Value} {Post : Bool → Im → Own → Prop}
    (hw : Wants ops ⟨some d, .call { callee := .value fo, args := args.toArray, argTypes := tys }, ty, pos, after, g⟩ E true) (hd : Nat.ble (d + 1) n = true) (hfo : ev E fo = some (.func (.yield y) #[] #[])) (hargs : EvalsTo E args vs)
    (hc : YS P y vs I L1 Post) (hL : L.Perm (L1 ++ Lf))
    (hk : ∀ b I' L', I.le I' → Post b I' L' → XO P r K n ds ops Q l ((d, .bool b) :: E) I' (L' ++ Lf)) : XO P r K n ds ops Q (⟨some d, .call { callee := .value fo, args := args.toArray, argTypes := tys }, ty, pos, after, g⟩ :: l) E I L :=
  XO.perm hL (XO.e hw hd (Step.yield hfo hargs hc) (by rintro v I' L' ⟨b, L2, rfl, hle, hp, rfl⟩; exact hk b I' L2 hle hp))
end
theorem Sl.arr {α : Type} [Enc α] {I : Im} {a : Option Addr} {k c : Nat} {xs : List α} (h : Sl I (.slice a k c) xs) : Arr I a xs ∧ k = xs.length ∧ k ≤ c := by
  obtain ⟨a', c', h1, h2, h3⟩ := h.ex
  cases h1
  exact ⟨h3, rfl, h2⟩
end Go.Xe
namespace Go.Xe
/-- some places of a list, taken to the front, one after the other (each number counts what is left) -/
def takeIdx : List Nat → Own → Own × Own
  | [], L => ([], L)
  | i :: is, L => match L[i]? with
    | some x => (x :: (takeIdx is (L.eraseIdx i)).1, (takeIdx is (L.eraseIdx i)).2)
    | none => ([], L)
theorem perm_take : ∀ (is : List Nat) {L : Own}, L.Perm ((takeIdx is L).1 ++ (takeIdx is L).2)
  | [], L => .refl _
  | i :: is, L => by
    unfold takeIdx
    cases h : L[i]? with
    | none => exact .refl _
    | some x => exact (perm_front h).trans ((perm_take is).cons x)
section
open Go Go.RowKit
variable {P : Program} {r : Option Nat} {K : World} {n : Nat} {ds : List Deferred} {ops : Array Oper} {Q : Exit → Act → World → Prop} {l : List Oper} {E : Env} {I : Im} {L : Own} {c : Code}
/-- a growing slice that is still nil -/
theorem XC.vec0 (t : TypeId) (h : XC P r K n ds c Q E I (Vec.nil.ent t :: L)) : XC P r K n ds c Q E I L := fun a w hH hS => h a w hH hS.empty
theorem XO.vec0 (t : TypeId) (h : XO P r K n ds ops Q l E I (Vec.nil.ent t :: L)) : XO P r K n ds ops Q l E I L := fun a w hH hS => h a w hH hS.empty
end
end Go.Xe
