/- The rules of XXe and XXf, an operation written out, a frame written as a list: for texts made by program. No program is named here. -/
import Derived.Test.YtkjhhifhgcihpaaDoorXf
namespace Go.Xe
open Go Go.RowKit

section
variable {P : Program} {r : Option Nat} {K : World} {n : Nat} {ds : List Deferred} {ops : Array Oper} {Q : Exit → Act → World → Prop} {l : List Oper} {last : Option Nat} {σ : Sched}
  {E : Env} {I : Im} {L Lf Ls : Own} {d : Tmp} {op : Op} {ty : TypeId} {pos : String} {after : Array Edge} {g : Option (Nat × Bool)} {v : Value}

/-- a guard that is known -/
theorem wn : Wants ops ⟨some d, op, ty, pos, after, none⟩ E true := rfl
theorem wn0 : Wants ops ⟨none, op, ty, pos, after, none⟩ E true := rfl
theorem wg {dst : Option Tmp} {j : Nat} {want c : Bool} {t : Tmp} {b : Bool} (h1 : (ops[j]?).bind (·.dst) = some t) (h2 : find E t = some (.bool c)) (h3 : b = (c == want)) : Wants ops ⟨dst, op, ty, pos, after, some (j, want)⟩ E b := ⟨t, .bool c, h1, h2, h3⟩
/-- a guard whose slot has not been written -/
theorem wgu {dst : Option Tmp} {j : Nat} {want : Bool} {t : Tmp} (h1 : (ops[j]?).bind (·.dst) = some t) (h2 : find E t = some undef) : Wants ops ⟨dst, op, ty, pos, after, some (j, want)⟩ E false := ⟨t, undef, h1, h2, rfl⟩

theorem XO.rd (hw : Wants ops ⟨some d, op, ty, pos, after, g⟩ E true) (hd : Nat.ble (d + 1) n = true) (hp : plainOp ⟨some d, op, ty, pos, after, g⟩ = true) (hs : Reads P ⟨some d, op, ty, pos, after, g⟩ E I L v)
    (hk : XO P r K n ds ops Q l ((d, v) :: E) I L) : XO P r K n ds ops Q (⟨some d, op, ty, pos, after, g⟩ :: l) E I L := XO.read hp hw hd hs hk
theorem XO.s (hw : Wants ops ⟨some d, op, ty, pos, after, g⟩ E false) (hd : Nat.ble (d + 1) n = true)
    (hk : XO P r K n ds ops Q l ((d, undef) :: E) I L) : XO P r K n ds ops Q (⟨some d, op, ty, pos, after, g⟩ :: l) E I L := XO.skip hw hd hk
theorem XO.e {Post : Value → Im → Own → Prop} (hw : Wants ops ⟨some d, op, ty, pos, after, g⟩ E true) (hd : Nat.ble (d + 1) n = true) (hs : Step P r K n ds ⟨some d, op, ty, pos, after, g⟩ E I L Post)
    (hk : ∀ v I' L', Post v I' L' → XO P r K n ds ops Q l ((d, v) :: E) I' L') : XO P r K n ds ops Q (⟨some d, op, ty, pos, after, g⟩ :: l) E I L := XO.step hw hd hs hk
theorem XO.e0 {Post : Value → Im → Own → Prop} (hw : Wants ops ⟨none, op, ty, pos, after, g⟩ E true) (hs : Step P r K n ds ⟨none, op, ty, pos, after, g⟩ E I L Post)
    (hk : ∀ v I' L', Post v I' L' → XO P r K n ds ops Q l E I' L') : XO P r K n ds ops Q (⟨none, op, ty, pos, after, g⟩ :: l) E I L := XO.step hw rfl hs hk

theorem XR.rd {i : Nat} (ho : ops[i]? = some ⟨some d, op, ty, pos, after, g⟩) (hw : Wants ops ⟨some d, op, ty, pos, after, g⟩ E true) (hd : Nat.ble (d + 1) n = true) (hs : Reads P ⟨some d, op, ty, pos, after, g⟩ E I Ls v)
    (hk : XR P r K n ds ops Q last σ ((d, v) :: E) I L Ls) : XR P r K n ds ops Q last (.pure i σ) E I L Ls := XR.read ho hw hd hs hk
theorem XR.s {i : Nat} (ho : ops[i]? = some ⟨some d, op, ty, pos, after, g⟩) (hw : Wants ops ⟨some d, op, ty, pos, after, g⟩ E false) (hd : Nat.ble (d + 1) n = true)
    (hk : XR P r K n ds ops Q last σ ((d, undef) :: E) I L Ls) : XR P r K n ds ops Q last (.pure i σ) E I L Ls := XR.skip ho hw hd hk
theorem XR.se {i : Nat} (ho : ops[i]? = some ⟨some d, op, ty, pos, after, g⟩) (hw : Wants ops ⟨some d, op, ty, pos, after, g⟩ E false) (hd : Nat.ble (d + 1) n = true) (hsub : Ls.Sublist L)
    (hk : XR P r K n ds ops Q last σ ((d, undef) :: E) I L Ls) : XR P r K n ds ops Q last (.eff i σ) E I L Ls := XR.skipe ho hw hd hsub hk
theorem XR.e {i : Nat} {Post : Value → Im → Own → Prop} (ho : ops[i]? = some ⟨some d, op, ty, pos, after, g⟩) (hw : Wants ops ⟨some d, op, ty, pos, after, g⟩ E true) (hd : Nat.ble (d + 1) n = true)
    (hs : Step P r K n ds ⟨some d, op, ty, pos, after, g⟩ E I L Post)
    (hk : ∀ v I' L', Post v I' L' → I.le I' ∧ (last = some i ∨ Ls.Sublist L') ∧ XR P r K n ds ops Q last σ ((d, v) :: E) I' L' Ls) : XR P r K n ds ops Q last (.eff i σ) E I L Ls := XR.step ho hw hd hs hk
theorem XR.e0 {i : Nat} {Post : Value → Im → Own → Prop} (ho : ops[i]? = some ⟨none, op, ty, pos, after, g⟩) (hw : Wants ops ⟨none, op, ty, pos, after, g⟩ E true)
    (hs : Step P r K n ds ⟨none, op, ty, pos, after, g⟩ E I L Post)
    (hk : ∀ v I' L', Post v I' L' → I.le I' ∧ (last = some i ∨ Ls.Sublist L') ∧ XR P r K n ds ops Q last σ E I' L' Ls) : XR P r K n ds ops Q last (.eff i σ) E I L Ls := XR.step ho hw rfl hs hk

/-! effects, one by one -/
theorem XO.box {t : TypeId} {x : Operand} (hw : Wants ops ⟨some d, .box t x, ty, pos, after, g⟩ E true) (hd : Nat.ble (d + 1) n = true) (hx : ev E x = some v)
    (hk : ∀ b, XO P r K n ds ops Q l ((d, .pointer (some ⟨b, 0, none⟩)) :: E) I (some (b, .cells v.cells t (0, 0)) :: L)) : XO P r K n ds ops Q (⟨some d, .box t x, ty, pos, after, g⟩ :: l) E I L :=
  XO.e hw hd (Runs.step rfl (Runs.box hx)) (by rintro u I' L' ⟨b, rfl, rfl, rfl⟩; exact hk b)
theorem XO.box_agg {t : TypeId} {x : Operand} {cs : Array Value} (hw : Wants ops ⟨some d, .box t x, ty, pos, after, g⟩ E true) (hd : Nat.ble (d + 1) n = true) (hx : ev E x = some (.agg cs))
    (hk : ∀ b, XO P r K n ds ops Q l ((d, .pointer (some ⟨b, 0, none⟩)) :: E) I (some (b, .cells cs t (0, 0)) :: L)) : XO P r K n ds ops Q (⟨some d, .box t x, ty, pos, after, g⟩ :: l) E I L := XO.box hw hd hx hk
theorem XO.box1 {t : TypeId} {x : Operand} (hw : Wants ops ⟨some d, .box t x, ty, pos, after, g⟩ E true) (hd : Nat.ble (d + 1) n = true) (hx : ev E x = some v) (hv : v.cells = #[v])
    (hk : ∀ b, XO P r K n ds ops Q l ((d, .pointer (some ⟨b, 0, none⟩)) :: E) I (some (b, .cells #[v] t (0, 0)) :: L)) : XO P r K n ds ops Q (⟨some d, .box t x, ty, pos, after, g⟩ :: l) E I L := XO.box hw hd hx (by rw [hv]; exact hk)
theorem XO.alloc {t : TypeId} {z : Value} {cs : Array Value} (hw : Wants ops ⟨some d, .alloc t, ty, pos, after, g⟩ E true) (hd : Nat.ble (d + 1) n = true) (hz : zeroOf P t = some z) (hc : z.cells = cs)
    (hk : ∀ b, XO P r K n ds ops Q l ((d, .pointer (some ⟨b, 0, none⟩)) :: E) I (some (b, .cells cs t (0, 0)) :: L)) : XO P r K n ds ops Q (⟨some d, .alloc t, ty, pos, after, g⟩ :: l) E I L :=
  XO.e hw hd (Runs.step rfl (Runs.alloc hz)) (by subst hc; rintro u I' L' ⟨b, rfl, rfl, rfl⟩; exact hk b)
theorem XO.store {t : TypeId} {x y : Operand} {b o : Nat} {c : Array Value} {e : TypeId} (i : Nat) (hw : Wants ops ⟨none, .store t x y, ty, pos, after, g⟩ E true) (hs : szOf P t = some 1) (hx : ev E x = some (.pointer (some ⟨b, o, none⟩))) (hy : ev E y = some v)
    (h1 : v.oneCell' = true) (hi : L[i]? = some (some (b, .cells c e (0, 0)))) (ho : o < c.size)
    (hk : XO P r K n ds ops Q l E I (L.set i (some (b, .cells (c.setIfInBounds o v) e (0, 0))))) : XO P r K n ds ops Q (⟨none, .store t x y, ty, pos, after, g⟩ :: l) E I L :=
  XO.e0 hw (Runs.step rfl (Runs.store i hs hx hy h1 hi ho)) (by rintro u I' L' ⟨rfl, rfl, rfl⟩; exact hk)
theorem XO.store_agg {t : TypeId} {x y : Operand} {b o : Nat} {vs : List Value} {c : Array Value} {e : TypeId} (i : Nat) (hw : Wants ops ⟨none, .store t x y, ty, pos, after, g⟩ E true) (hs : szOf P t = some vs.length) (hx : ev E x = some (.pointer (some ⟨b, o, none⟩)))
    (hy : ev E y = some (.agg vs.toArray)) (h1 : ∀ v ∈ vs, v.oneCell' = true) (hi : L[i]? = some (some (b, .cells c e (0, 0)))) (ho : o + vs.length ≤ c.size)
    (hk : XO P r K n ds ops Q l E I (L.set i (some (b, .cells (c.toList.take o ++ vs ++ c.toList.drop (o + vs.length)).toArray e (0, 0))))) : XO P r K n ds ops Q (⟨none, .store t x y, ty, pos, after, g⟩ :: l) E I L :=
  XO.e0 hw (Runs.step rfl (Runs.store_agg i hs hx hy h1 hi ho)) (by rintro u I' L' ⟨rfl, rfl, rfl⟩; exact hk)
theorem XO.append {t tx e : TypeId} {x y : Operand} {V : Vec} {u : Value} {m s by_ : Nat} {z : Value} {cs news : List Value} (k : Nat) (hw : Wants ops ⟨some d, .call { callee := .builtin .append, args := #[x, y], argTypes := #[t, tx] }, ty, pos, after, g⟩ E true)
    (hd : Nat.ble (d + 1) n = true) (hu : P.underlying t = some (.slice e)) (he : Elem P e s z by_)
    (hx : ev E x = some V.val) (hy : ev E y = some u) (hV : V.Is s cs) (hL : L[k]? = some (V.ent e)) (hn : News P I L s tx u m news) (hb : (V.len + m) * by_ ≤ 140737488355328) (h63 : V.len + m ≤ 9223372036854775807)
    (hk : ∀ V' : Vec, V'.Is s (cs ++ news) → V'.len = V.len + m → XO P r K n ds ops Q l ((d, V'.val) :: E) I (L.set k (V'.ent e))) :
    XO P r K n ds ops Q (⟨some d, .call { callee := .builtin .append, args := #[x, y], argTypes := #[t, tx] }, ty, pos, after, g⟩ :: l) E I L :=
  XO.e hw hd (Runs.step rfl (Runs.append k hu he hx hy hV hL hn hb h63)) (by rintro r I' L' ⟨V', rfl, rfl, rfl, h1, h2⟩; exact hk V' h1 h2)
/-- a call of a function that neither takes nor gives what is owned -/
theorem XO.call {f : FuncId} {args : List Operand} {tys : Array TypeId} {vs : List Value} {Post : Value → Im → Prop}
    (hw : Wants ops ⟨some d, .call { callee := .value (.func f), args := args.toArray, argTypes := tys }, ty, pos, after, g⟩ E true) (hd : Nat.ble (d + 1) n = true) (hf : Enters P f) (hc : FC P f vs I Post) (hargs : EvalsTo E args vs)
    (hk : ∀ v I', I.le I' → Post v I' → XO P r K n ds ops Q l ((d, v) :: E) I' L) : XO P r K n ds ops Q (⟨some d, .call { callee := .value (.func f), args := args.toArray, argTypes := tys }, ty, pos, after, g⟩ :: l) E I L := by
  refine XO.e hw hd (Step.call (L := []) (Lf := L) (fi := #[]) (ca := #[]) (Post := fun v I' L' => L' = [] ∧ Post v I') rfl hf hargs (by simpa [FC] using hc)) ?_
  rintro v I' L' ⟨L1, hle, ⟨rfl, hp⟩, rfl⟩
  exact hk v I' hle hp
theorem XR.call {i : Nat} {f : FuncId} {args : List Operand} {tys : Array TypeId} {vs : List Value} {Post : Value → Im → Prop}
    (ho : ops[i]? = some ⟨some d, .call { callee := .value (.func f), args := args.toArray, argTypes := tys }, ty, pos, after, g⟩)
    (hw : Wants ops ⟨some d, .call { callee := .value (.func f), args := args.toArray, argTypes := tys }, ty, pos, after, g⟩ E true) (hd : Nat.ble (d + 1) n = true) (hf : Enters P f) (hc : FC P f vs I Post) (hargs : EvalsTo E args vs) (hsub : Ls.Sublist L)
    (hk : ∀ v I', I.le I' → Post v I' → XR P r K n ds ops Q last σ ((d, v) :: E) I' L Ls) : XR P r K n ds ops Q last (.eff i σ) E I L Ls := by
  refine XR.e ho hw hd (Step.call (L := []) (Lf := L) (fi := #[]) (ca := #[]) (Post := fun v I' L' => L' = [] ∧ Post v I') rfl hf hargs (by simpa [FC] using hc)) ?_
  rintro v I' L' ⟨L1, hle, ⟨rfl, hp⟩, rfl⟩
  exact ⟨hle, .inr hsub, hk v I' hle hp⟩
/-- a call that only computes -/
theorem XO.callp {f : FuncId} {args : List Operand} {tys : Array TypeId} {vs : List Value}
    (hw : Wants ops ⟨some d, .call { callee := .value (.func f), args := args.toArray, argTypes := tys }, ty, pos, after, g⟩ E true) (hd : Nat.ble (d + 1) n = true) (hf : Enters P f) (hc : FC P f vs I (fun u I' => u = v ∧ I' = I)) (hargs : EvalsTo E args vs)
    (hk : XO P r K n ds ops Q l ((d, v) :: E) I L) : XO P r K n ds ops Q (⟨some d, .call { callee := .value (.func f), args := args.toArray, argTypes := tys }, ty, pos, after, g⟩ :: l) E I L :=
  XO.call hw hd hf hc hargs (by rintro u I' _ ⟨rfl, rfl⟩; exact hk)
theorem XR.callp {i : Nat} {f : FuncId} {args : List Operand} {tys : Array TypeId} {vs : List Value}
    (ho : ops[i]? = some ⟨some d, .call { callee := .value (.func f), args := args.toArray, argTypes := tys }, ty, pos, after, g⟩)
    (hw : Wants ops ⟨some d, .call { callee := .value (.func f), args := args.toArray, argTypes := tys }, ty, pos, after, g⟩ E true) (hd : Nat.ble (d + 1) n = true) (hf : Enters P f) (hc : FC P f vs I (fun u I' => u = v ∧ I' = I)) (hargs : EvalsTo E args vs) (hsub : Ls.Sublist L)
    (hk : XR P r K n ds ops Q last σ ((d, v) :: E) I L Ls) : XR P r K n ds ops Q last (.eff i σ) E I L Ls :=
  XR.call ho hw hd hf hc hargs hsub (by rintro u I' _ ⟨rfl, rfl⟩; exact hk)
theorem XR.store {t : TypeId} {x y : Operand} {b o : Nat} {c : Array Value} {e : TypeId} (j : Nat) {i : Nat} (ho' : ops[i]? = some ⟨none, .store t x y, ty, pos, after, g⟩) (hw : Wants ops ⟨none, .store t x y, ty, pos, after, g⟩ E true) (hs : szOf P t = some 1)
    (hx : ev E x = some (.pointer (some ⟨b, o, none⟩))) (hy : ev E y = some v) (h1 : v.oneCell' = true) (hi : L[j]? = some (some (b, .cells c e (0, 0)))) (ho : o < c.size)
    (hsub : last = some i ∨ Ls.Sublist (L.set j (some (b, .cells (c.setIfInBounds o v) e (0, 0)))))
    (hk : XR P r K n ds ops Q last σ E I (L.set j (some (b, .cells (c.setIfInBounds o v) e (0, 0)))) Ls) : XR P r K n ds ops Q last (.eff i σ) E I L Ls :=
  XR.e0 ho' hw (Runs.step rfl (Runs.store j hs hx hy h1 hi ho)) (by rintro u I' L' ⟨rfl, rfl, rfl⟩; exact ⟨Im.le_refl _, hsub, hk⟩)
end
end Go.Xe
