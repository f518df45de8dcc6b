/- Parts of slices and of arrays, copies within a row, contracts without traces: over the small logic of XXe. No program is named here. -/
import Derived.Test.YtkjhhifhgcihpaaDoorXs
namespace Go.Xe
open Go Go.RowKit

/-! a contract whose traces nobody sees -/
theorem Sat.shrink {K w : World} {I I' : Im} {L : Own} (h : Sat K w I' L) (hle : I.le I') : Sat K w I L :=
  ⟨h.os, h.tape, h.output, fun b o hb => h.im b o (hle b o hb), h.own, h.nodup, fun b o hm => by
    cases e : I b with
    | none => rfl
    | some x => have := hle b x e; rw [h.apart b o hm] at this; cases this⟩
theorem FSo.shrink {P : Program} {f : FuncId} {args : List Value} {I : Im} {L : Own} {Post : Value → Im → Own → Prop} (h : FSo P f args I L Post) : FSo P f args I L (fun u I' L' => I' = I ∧ ∃ J, Post u J L') :=
  fun K w Lf hS => (h K w Lf hS).mono fun _ _ ⟨v, I', L', he, hi, hs, hq⟩ => ⟨v, I, L', he, Im.le_refl I, hs.shrink hi, rfl, I', hq⟩
theorem FC.pure {P : Program} {f : FuncId} {args : List Value} {I : Im} {v : Value} (h : FC P f args I (fun u _ => u = v)) : FC P f args I (fun u I' => u = v ∧ I' = I) :=
  (FSo.shrink h).mono fun _ _ _ _ ⟨hI, _, hL, hv⟩ => ⟨hL, hv, hI⟩

/-! parts of slices -/
def cutA (a : Option Addr) (m l s : Nat) : Option Addr := if m = l then a else a.map (·.add (l * s))
def bdv (E : Env) (o : Option Operand) (dflt k : Nat) : Prop := match o with | none => k = dflt | some x => ∃ kd, ev E x = some (.int kd ((k : Nat) : Int))
section
variable {P : Program} {dst : Option Tmp} {ty : TypeId} {pos : String} {after : Array Edge} {guard : Option (Nat × Bool)} {E : Env} {I : Im} {L : Own} {x y : Operand}
theorem Reads.slice_gen {t e : TypeId} {lo hi mx : Option Operand} {a : Option Addr} {n cap s : Nat} (l h m : Nat) (hu : P.underlying t = some (.slice e)) (hs : szOf P e = some s) (hx : ev E x = some (.slice a n cap))
    (hl : bdv E lo 0 l) (hh : bdv E hi n h) (hm : bdv E mx cap m) (hshape : hi = none → mx = none) (hlh : l ≤ h) (hhm : h ≤ m) (hmc : m ≤ cap) :
    Reads P ⟨dst, .slice t x lo hi mx, ty, pos, after, guard⟩ E I L (.slice (cutA a m l s) (h - l) (m - l)) :=
  fun _ _ _ w0 w hH _ => by
    have h1 : (l : Int) ≤ h := by omega
    have h2 : (h : Int) ≤ m := by omega
    have h3 : (m : Int) ≤ cap := by omega
    cases lo with
    | none =>
      simp only [bdv] at hl; subst hl
      cases hi with
      | none =>
        have hmx := hshape rfl; subst hmx
        simp only [bdv] at hm hh; subst hm; subst hh
        simp [execOp, hH.ev hx, Instr.sliceAt, Instr.slice, Instr.sliceBounds, run_under hu, run_sizeOf hs, cutA]
      | some z =>
        obtain ⟨kh, hh⟩ := hh
        cases mx with
        | none => simp only [bdv] at hm; subst hm; simp [execOp, hH.ev hx, hH.ev hh, Instr.sliceAt, Instr.slice, Instr.sliceBounds, Instr.sliceBound, asIntOf, run_under hu, run_sizeOf hs, cutA, hhm]
        | some q => obtain ⟨km, hm⟩ := hm; simp [execOp, hH.ev hx, hH.ev hh, hH.ev hm, Instr.sliceAt, Instr.slice, Instr.sliceBounds, Instr.sliceBound, asIntOf, run_under hu, run_sizeOf hs, cutA, hhm, hmc]
    | some p =>
      obtain ⟨kl, hl⟩ := hl
      cases hi with
      | none =>
        have hmx := hshape rfl; subst hmx
        simp only [bdv] at hm hh; subst hm; subst hh
        simp [execOp, hH.ev hx, hH.ev hl, Instr.sliceAt, Instr.slice, Instr.sliceBounds, Instr.sliceBound, asIntOf, run_under hu, run_sizeOf hs, cutA, hlh]
      | some z =>
        obtain ⟨kh, hh⟩ := hh
        cases mx with
        | none => simp only [bdv] at hm; subst hm; simp [execOp, hH.ev hx, hH.ev hl, hH.ev hh, Instr.sliceAt, Instr.slice, Instr.sliceBounds, Instr.sliceBound, asIntOf, run_under hu, run_sizeOf hs, cutA, hlh, hhm]
        | some q => obtain ⟨km, hm⟩ := hm; simp [execOp, hH.ev hx, hH.ev hl, hH.ev hh, hH.ev hm, Instr.sliceAt, Instr.slice, Instr.sliceBounds, Instr.sliceBound, asIntOf, run_under hu, run_sizeOf hs, cutA, hlh, hhm, hmc]
theorem At.shift {a : Option Addr} {k j : Nat} {v : Value} (h : At I a (k + j) v) : At I (a.map (·.add k)) j v := by
  obtain ⟨b, off, c, e, fr, rfl, h2, h3⟩ := h
  exact ⟨b, off + k, c, e, fr, by simp [add_plain], h2, by rw [Nat.add_assoc]; exact h3⟩
theorem Arr.cut {α : Type} [Enc α] {a : Option Addr} {xs : List α} (h : Arr I a xs) {m l : Nat} (hm : m = l → xs.length ≤ l) : Arr I (cutA a m l (Enc.sz α)) (xs.drop l) := fun j hj => by
  rw [List.length_drop] at hj
  obtain ⟨cs, h1, h2⟩ := h (l + j) (by omega)
  refine ⟨cs, by rw [List.getElem_drop]; exact h1, fun i v hv => ?_⟩
  have h3 := h2 i v hv
  unfold cutA
  rw [if_neg (fun e => by have := hm e; omega)]
  refine At.shift ?_
  rwa [show l * Enc.sz α + (j * Enc.sz α + i) = (l + j) * Enc.sz α + i by rw [Nat.add_mul]; omega]
theorem Arr.part {α : Type} [Enc α] {a : Option Addr} {xs : List α} (h : Arr I a xs) {m l k : Nat} (hm : m = l → xs.length ≤ l) : Arr I (cutA a m l (Enc.sz α)) ((xs.drop l).take k) := (h.cut hm).take k
/-- a part of an owned array -/
theorem Reads.slice_arr {t e : TypeId} {lo hi : Option Operand} {b o n s : Nat} (l h : Nat) (hu : P.underlying t = some (.array n e)) (hs : szOf P e = some s) (hx : ev E x = some (.pointer (some ⟨b, o, none⟩)))
    (hl : bdv E lo 0 l) (hh : bdv E hi n h) (hlh : l ≤ h) (hhn : h ≤ n) (hln : l < n) :
    Reads P ⟨dst, .slice t x lo hi none, ty, pos, after, guard⟩ E I L (.slice (some ⟨b, o + l * s, none⟩) (h - l) (n - l)) :=
  fun _ _ _ w0 w hH _ => by
    have h3 : ¬ n = l := by omega
    cases lo with
    | none =>
      simp only [bdv] at hl; subst hl
      cases hi with
      | none => simp only [bdv] at hh; subst hh; simp [execOp, hH.ev hx, Instr.sliceAt, Instr.sureAddr, Instr.sliceBounds, run_under hu, run_sizeOf hs, add_plain, h3]
      | some z => obtain ⟨kh, hh⟩ := hh; simp [execOp, hH.ev hx, hH.ev hh, Instr.sliceAt, Instr.sureAddr, Instr.sliceBounds, Instr.sliceBound, asIntOf, run_under hu, run_sizeOf hs, add_plain, hhn, h3]
    | some p =>
      obtain ⟨kl, hl⟩ := hl
      cases hi with
      | none => simp only [bdv] at hh; subst hh; simp [execOp, hH.ev hx, hH.ev hl, Instr.sliceAt, Instr.sureAddr, Instr.sliceBounds, Instr.sliceBound, asIntOf, run_under hu, run_sizeOf hs, add_plain, hlh, h3]
      | some z => obtain ⟨kh, hh⟩ := hh; simp [execOp, hH.ev hx, hH.ev hl, hH.ev hh, Instr.sliceAt, Instr.sureAddr, Instr.sliceBounds, Instr.sliceBound, asIntOf, run_under hu, run_sizeOf hs, add_plain, hlh, hhn, h3]
/-- a variable that is set once, read whole -/
theorem Reads.load_glob {t : TypeId} {gb : Nat} {vs : List Value} (hk : kindOf P t = some true) (hs : szOf P t = some vs.length) (hx : ev E x = some (.pointer (some ⟨gb, 0, none⟩))) (hG : ∃ e fr, I gb = some (.cells vs.toArray e fr)) :
    Reads P ⟨dst, .load t x, ty, pos, after, guard⟩ E I L (.agg vs.toArray) := by
  obtain ⟨e, fr, hG⟩ := hG
  exact Reads.load_agg_at (p := some ⟨gb, 0, none⟩) (k := 0) hk hs hx ⟨_, _, rfl⟩ (fun j v hj => ⟨gb, 0, vs.toArray, e, fr, rfl, hG, by simpa using hj⟩)
theorem Reads.cap_slice {t e : TypeId} {a : Option Addr} {n c : Nat} (hu : P.underlying t = some (.slice e)) (hx : ev E x = some (.slice a n c)) :
    Reads P { dst, op := .call { callee := .builtin .cap, args := #[x], argTypes := #[t] }, type := ty, pos, after, guard } E I L (.int .i64 c) :=
  fun _ _ _ a w hH _ => by simp [execOp, hH.ev hx, resolve, invoke, builtin, Builtin.cap_, run_under hu, goInt]
/-- a copy into the middle of an owned row -/
theorem Runs.copy_at {t tx e : TypeId} {b o dn dc : Nat} {c : Array Value} {u : Value} {m by_ : Nat} {z : Value} {news : List Value} {eb : TypeId} (i : Nat) (hu : P.underlying t = some (.slice e)) (he : Elem P e 1 z by_)
    (hx : ev E x = some (.slice (some ⟨b, o, none⟩) dn dc)) (hy : ev E y = some u) (hi : L[i]? = some (some (b, .cells c eb (0, 0)))) (hn : News P I L 1 tx u m news) (hm : m = dn) (hc : o + dn ≤ c.size) :
    Runs P { dst, op := .call { callee := .builtin .copy, args := #[x, y], argTypes := #[t, tx] }, type := ty, pos, after, guard } E I L
      (fun r I' L' => r = .int .i64 dn ∧ I' = I ∧ L' = L.set i (some (b, .cells (c.toList.take o ++ news ++ c.toList.drop (o + dn)).toArray eb (0, 0)))) := by
  intro K n ds a w hH hS
  subst hm
  have hsrc := hn.src hS
  have hl := hsrc.newsLen
  have hheap := hS.own b _ (List.mem_of_getElem? hi)
  have hst := run_storeCells_at P b o eb news 0 c w hheap (by omega) hsrc.one
  simp only [Nat.add_zero] at hst
  rw [show news.length = m by omega] at hst
  refine ⟨_, _, I, _, .inl ?_, hS.setRow hi, rfl, rfl, rfl⟩
  simp [execOp, hH.ev hx, hH.ev hy, resolve, invoke, builtin, Builtin.copy_, run_under hu, run_sizeOf he.size, hsrc.len w, hsrc.cells, hst, goInt]
end
section
variable {P : Program} {r : Option Nat} {K : World} {n : Nat} {ds : List Deferred} {ops : Array Oper} {Q : Exit → Act → World → Prop} {l : List Oper} {last : Option Nat} {σ : Sched}
  {E : Env} {I : Im} {L Lf Ls : Own} {d : Tmp} {op : Op} {ty : TypeId} {pos : String} {after : Array Edge} {g : Option (Nat × Bool)} {v : Value} {x y : Operand}
theorem XO.copy_at {t tx e : TypeId} {b o dn dc : Nat} {c : Array Value} {u : Value} {m by_ : Nat} {z : Value} {news : List Value} {eb : TypeId} (i : Nat) (hw : Wants ops ⟨some d, .call { callee := .builtin .copy, args := #[x, y], argTypes := #[t, tx] }, ty, pos, after, g⟩ E true)
    (hd : Nat.ble (d + 1) n = true) (hu : P.underlying t = some (.slice e)) (he : Elem P e 1 z by_)
    (hx : ev E x = some (.slice (some ⟨b, o, none⟩) dn dc)) (hy : ev E y = some u) (hi : L[i]? = some (some (b, .cells c eb (0, 0)))) (hn : News P I L 1 tx u m news) (hm : m = dn) (hc : o + dn ≤ c.size)
    (hk : XO P r K n ds ops Q l ((d, .int .i64 dn) :: E) I (L.set i (some (b, .cells (c.toList.take o ++ news ++ c.toList.drop (o + dn)).toArray eb (0, 0))))) : XO P r K n ds ops Q (⟨some d, .call { callee := .builtin .copy, args := #[x, y], argTypes := #[t, tx] }, ty, pos, after, g⟩ :: l) E I L :=
  XO.e hw hd (Runs.step rfl (Runs.copy_at i hu he hx hy hi hn hm hc)) (by rintro u I' L' ⟨rfl, rfl, rfl⟩; exact hk)
theorem XR.copy_at {j : Nat} {t tx e : TypeId} {b o dn dc : Nat} {c : Array Value} {u : Value} {m by_ : Nat} {z : Value} {news : List Value} {eb : TypeId} (i : Nat) (ho : ops[j]? = some ⟨some d, .call { callee := .builtin .copy, args := #[x, y], argTypes := #[t, tx] }, ty, pos, after, g⟩) (hw : Wants ops ⟨some d, .call { callee := .builtin .copy, args := #[x, y], argTypes := #[t, tx] }, ty, pos, after, g⟩ E true)
    (hd : Nat.ble (d + 1) n = true) (hu : P.underlying t = some (.slice e)) (he : Elem P e 1 z by_)
    (hx : ev E x = some (.slice (some ⟨b, o, none⟩) dn dc)) (hy : ev E y = some u) (hi : L[i]? = some (some (b, .cells c eb (0, 0)))) (hn : News P I L 1 tx u m news) (hm : m = dn) (hc : o + dn ≤ c.size) (hsub : last = some j ∨ Ls.Sublist (L.set i (some (b, .cells (c.toList.take o ++ news ++ c.toList.drop (o + dn)).toArray eb (0, 0)))))
    (hk : XR P r K n ds ops Q last σ ((d, .int .i64 dn) :: E) I (L.set i (some (b, .cells (c.toList.take o ++ news ++ c.toList.drop (o + dn)).toArray eb (0, 0)))) Ls) : XR P r K n ds ops Q last (.eff j σ) E I L Ls :=
  XR.e ho hw hd (Runs.step rfl (Runs.copy_at i hu he hx hy hi hn hm hc)) (by rintro u I' L' ⟨rfl, rfl, rfl⟩; exact ⟨Im.le_refl _, hsub, hk⟩)
/-- an owned block, seen otherwise -/
theorem XO.own_eq {L' : Own} (he : L = L') (h : XO P r K n ds ops Q l E I L') : XO P r K n ds ops Q l E I L := by subst he; exact h
theorem XC.own_eq {L' : Own} {c : Code} (he : L = L') (h : XC P r K n ds c Q E I L') : XC P r K n ds c Q E I L := by subst he; exact h
theorem XQ.own_eq {L' : Own} {e : Exit} (he : L = L') (h : XQ K n ds Q e E I L') : XQ K n ds Q e E I L := by subst he; exact h
end

/-! rows of words -/
def wC (l : List Nat) : List Value := l.map fun x => .int .u32 ((x : Nat) : Int)
theorem wC_len (l : List Nat) : (wC l).length = l.length := by simp [wC]
theorem wC_append (a b : List Nat) : wC (a ++ b) = wC a ++ wC b := by simp [wC]
theorem wC_one (l : List Nat) : ∀ v ∈ wC l, v.oneCell' = true := by simp [wC, Value.oneCell']
theorem wC_get {l : List Nat} {i : Nat} (h : i < l.length) : (wC l)[i]? = some (.int .u32 ((l.getD i 0 : Nat) : Int)) := by simp [wC, h]
theorem wC_set (l : List Nat) (i x : Nat) : (wC l).set i (.int .u32 ((x : Nat) : Int)) = wC (l.set i x) := by simp [wC, List.map_set]
/-- a row of words that is filled from the front on -/
def fillC (l : List Nat) (n : Nat) : List Value := wC l ++ List.replicate (n - l.length) (.int .u32 0)
theorem fillC_len {l : List Nat} {n : Nat} (h : l.length ≤ n) : (fillC l n).length = n := by simp [fillC, wC_len]; omega
theorem fillC_get {l : List Nat} {n i : Nat} (h : i < l.length) : (fillC l n)[i]? = some (.int .u32 ((l.getD i 0 : Nat) : Int)) := by
  rw [fillC, List.getElem?_append_left (by rw [wC_len]; exact h), wC_get h]
theorem fillC_full {l : List Nat} {n : Nat} (h : l.length = n) : fillC l n = wC l := by simp [fillC, h]
theorem fillC_set {l : List Nat} {n : Nat} (x : Nat) (h : l.length < n) : (fillC l n).set l.length (.int .u32 ((x : Nat) : Int)) = fillC (l ++ [x]) n := by
  unfold fillC
  rw [List.set_append_right _ _ (by rw [wC_len]; exact Nat.le_refl _), wC_len, Nat.sub_self]
  obtain ⟨k, hk⟩ : ∃ k, n - l.length = k + 1 := ⟨n - l.length - 1, by omega⟩
  rw [hk, List.replicate_succ, List.set_cons_zero, wC_append, List.length_append, List.append_assoc]
  simp [wC]; omega
theorem set_toArray (l : List Value) (i : Nat) (v : Value) : l.toArray.setIfInBounds i v = (l.set i v).toArray := by simp
theorem flat_ints' (I : Im) : ∀ (l : List Nat), Flat (α := Int) I (l.map fun x => Value.int .i64 ((x : Nat) : Int)) (l.map fun x => ((x : Nat) : Int))
  | [] => .nil
  | x :: l => .cons (α := Int) (cs := [.int .i64 ((x : Nat) : Int)]) rfl (flat_ints' I l)
end Go.Xe
namespace Go.Xe
section
variable {P : Program} {r : Option Nat} {K : World} {n : Nat} {ds : List Deferred} {ops : Array Oper} {Q : Exit → Act → World → Prop} {last : Option Nat} {σ : Sched} {E : Env} {I : Im} {L L' Ls : Own}
theorem XR.own_eq (he : L = L') (h : XR P r K n ds ops Q last σ E I L' Ls) : XR P r K n ds ops Q last σ E I L Ls := by subst he; exact h
end
end Go.Xe
namespace Go.Xe
open Go Go.RowKit
section
variable {P : Program} {dst : Option Tmp} {ty : TypeId} {pos : String} {after : Array Edge} {guard : Option (Nat × Bool)} {E : Env} {I : Im} {L : Own}
/-- an array's value, built of all its parts -/
theorem Reads.build_arr {t e : TypeId} {m : Nat} {z : Value} {ps : List (Nat × Operand)} (vs : List Value) (hu : P.underlying t = some (.array m e)) (hs : szOf P e = some 1) (hz : zeroOf P t = some z) (hzs : z.cells.toList.length = vs.length)
    (hp : partsEv E ps ((vs.zipIdx 0).map fun p => (p.2, p.1))) (hv : vs.all (fun v => v.cells.size == 1) = true) (hc : vs.flatMap (fun v => v.cells.toList) = vs) : Reads P ⟨dst, .build t ps.toArray, ty, pos, after, guard⟩ E I L (.agg vs.toArray) :=
  fun _ _ _ a w hH _ => by
    have hm : (ps.toArray.map fun (i, x) => (i, a.eval x)).toList = ((vs.zipIdx 0).map fun p => (p.2, p.1)) := by rw [List.map_toArray, partsEv.map hH hp]
    have hf := fill_seq (s := 1) vs 0 [] z.cells.toList (fun v hm => by have := List.all_eq_true.1 hv v hm; simpa using this) (by simp) (by rw [hzs]; simp)
    simp only [List.nil_append, hc] at hf
    simp only [execOp, Instr.build, Sem.run_bind, run_zeroValue hz, Result.andThen_ok, run_under hu, run_sizeOf hs, hm, Sem.run_pure]
    have hf' : Instr.fill (fun i => some (i * 1, 1)) z.cells ((vs.zipIdx 0).map fun p => (p.2, p.1)) = some vs.toArray := by simpa using hf
    simp only [hf', Sem.run_pure, Result.andThen_ok]
end
/-- a row of bytes that is filled from the front on -/
def fillD (l : List UInt8) (n : Nat) : List Value := byteC l ++ List.replicate (n - l.length) (.int .u8 0)
theorem fillD_full {l : List UInt8} {n : Nat} (h : l.length = n) : fillD l n = byteC l := by simp [fillD, h]
theorem u8_nat (z : Nat) : z % 256 = (UInt8.ofNat (z % 256)).toNat := by simp
theorem fillD_set {l : List UInt8} {n : Nat} (x : UInt8) (h : l.length < n) : (fillD l n).set l.length (.int .u8 ((x.toNat : Nat) : Int)) = fillD (l ++ [x]) n := by
  unfold fillD
  rw [List.set_append_right _ _ (by rw [byteC_len]; exact Nat.le_refl _), byteC_len, Nat.sub_self]
  obtain ⟨k, hk⟩ : ∃ k, n - l.length = k + 1 := ⟨n - l.length - 1, by omega⟩
  rw [hk, List.replicate_succ, List.set_cons_zero, byteC_append, List.length_append, List.append_assoc]
  simp [byteC]; omega
theorem readable_row {I : Im} {L : Own} {b : Nat} {c : Array Value} {e : TypeId} {fr : Nat × Nat} {cs : List Value} (k : Nat) (h : L[k]? = some (some (b, .cells c e fr))) (hc : c.toList.take cs.length = cs) : Readable I L (some ⟨b, 0, none⟩) cs :=
  .inr (.inr ⟨b, 0, rfl, fun j v hj => ⟨c, e, fr, List.mem_of_getElem? h, by
    rw [← hc, List.getElem?_take] at hj
    split at hj
    · simpa using hj
    · cases hj⟩⟩)
end Go.Xe
namespace Go.Xe
open Go Go.RowKit
/-- a contract of the kit's own form, turned -/
theorem FC.of_below {P : Program} {f : FuncId} {args : List Value} {I : Im} {v : Value} (h : ∀ (K w : World) (L : Own), Sat K w I L → Calls P f args.toArray w fun e w' => e = .returned v ∧ Below w.heap.size w w') : FC P f args I (fun u I' => u = v ∧ I' = I) :=
  fun K w Lf hS => (h K w _ hS).mono fun e w' ⟨he, hb⟩ => by
    refine ⟨v, I, [], he, Im.le_refl I, ?_, rfl, rfl, rfl⟩
    exact hS.later hb.os hb.tape hb.output (fun b o hbo => by rw [hb.block b (lt_of_heap hbo)]; exact hbo)
theorem Sat.cellAt {K w : World} {I : Im} {L : Own} {b o k : Nat} {v : Value} (hS : Sat K w I L) (h : At I (some ⟨b, o, none⟩) k v) : w.cell? ⟨b, o + k, none⟩ = some v := by
  obtain ⟨b', off, c, e, fr, h1, h2, h3⟩ := h
  cases h1
  simp [World.cell?, hS.im _ _ h2, h3]
end Go.Xe
namespace Go.Xe
open Go Go.RowKit
section
variable {P : Program} {dst : Option Tmp} {ty : TypeId} {pos : String} {after : Array Edge} {guard : Option (Nat × Bool)} {E : Env} {I : Im} {L : Own} {xt yt : TypeId} {x y : Operand} {k : IntKind} {M m n : Nat}
theorem Reads.urem (hM : umod k = some M) (hx : ev E x = some (.int k (m : Int))) (hy : ev E y = some (.int k (n : Int))) (hn : 0 < n) (hm : m < M) :
    Reads P ⟨dst, .binOp .rem xt x y yt, ty, pos, after, guard⟩ E I L (.int k ((m % n : Nat) : Int)) :=
  fun _ _ _ a w hH _ => by
    have h1 : (m : Int).tmod (n : Int) = ((m % n : Nat) : Int) := by rw [Int.tmod_eq_emod_of_nonneg (by omega)]; rfl
    have h3 : ¬ (n : Int) = 0 := by omega
    have h4 : (Op.intDiv .rem k (m : Int) (n : Int)).run P w = .ok (.int k ((m % n : Nat) : Int)) w := by simp only [Op.intDiv, h3, if_false, h1, Sem.run_pure]
    generalize (Value.int k ((m % n : Nat) : Int)) = u at h4 ⊢
    simp [execOp, hH.ev hx, hH.ev hy, binOp, eqGuard, h4]
theorem Reads.uquo (hM : umod k = some M) (hx : ev E x = some (.int k (m : Int))) (hy : ev E y = some (.int k (n : Int))) (hn : 0 < n) (hm : m < M) :
    Reads P ⟨dst, .binOp .quo xt x y yt, ty, pos, after, guard⟩ E I L (.int k ((m / n : Nat) : Int)) :=
  fun _ _ _ a w hH _ => by
    have h1 : (m : Int).tdiv (n : Int) = ((m / n : Nat) : Int) := by rw [Int.tdiv_eq_ediv_of_nonneg (by omega)]; rfl
    have h3 : ¬ (n : Int) = 0 := by omega
    have hq : m / n < M := Nat.lt_of_le_of_lt (Nat.div_le_self _ _) hm
    have h4 : (Op.intDiv .quo k (m : Int) (n : Int)).run P w = .ok (.int k ((m / n : Nat) : Int)) w := by simp only [Op.intDiv, h3, if_false, h1, wrap_lt hM hq, Sem.run_pure]
    generalize (Value.int k ((m / n : Nat) : Int)) = u at h4 ⊢
    simp [execOp, hH.ev hx, hH.ev hy, binOp, eqGuard, h4]
end
end Go.Xe
namespace Go.Xe
open Go Go.RowKit
/-- words of 32 bits -/
instance : Enc Nat where
  sz := 1
  rep := fun _ cs x => cs = [.int .u32 ((x : Nat) : Int)]
  len := fun h => by rw [h]; rfl
  mono := fun _ h => h
  one := fun h v hv => by rw [h] at hv; simp at hv; subst hv; rfl
theorem flat_words (I : Im) : ∀ (l : List Nat), Flat I (wC l) l
  | [] => .nil
  | x :: l => .cons (cs := [.int .u32 ((x : Nat) : Int)]) rfl (flat_words I l)
theorem Arr.g_at {I : Im} {a : Option Addr} {xs : List Nat} (h : Arr I a xs) {j q : Nat} (hj : j < xs.length) (hq : j = q) : At I a q (.int .u32 ((xs.getD j 0 : Nat) : Int)) := by
  obtain ⟨cs, h1, h2⟩ := h j hj
  have := h2 0 _ (by rw [h1]; rfl)
  rw [show xs.getD j 0 = xs[j] by simp [hj], ← hq]
  simpa [show Enc.sz Nat = 1 from rfl] using this
theorem Vec.ofRow (b : Nat) (cs : List Value) : (⟨some (b, cs.toArray), cs.length, cs.length⟩ : Vec).Is 1 cs :=
  ⟨by simp, Nat.le_refl _, (fun h => by cases h), (fun b' c h => by cases h; exact ⟨by simp, by simp⟩)⟩
end Go.Xe
namespace Go.Xe
open Go Go.RowKit
theorem Arr.words {P : Program} {I : Im} {L : Own} {tx e' : TypeId} {a : Option Addr} {c : Nat} {xs : List Nat} (hu : P.underlying tx = some (.slice e')) (h : Arr I a xs) : News P I L 1 tx (.slice a xs.length c) xs.length (wC xs) :=
  .slice hu (.inr (.inl (fun j v hj => by
    have hl : j < xs.length := by have := (List.getElem?_eq_some_iff.1 hj).1; rwa [wC_len] at this
    rw [wC_get hl] at hj; cases hj
    exact h.g_at hl rfl))) (by rw [wC_len]; omega) (wC_one _)
section
variable {P : Program} {r : Option Nat} {K : World} {n : Nat} {ds : List Deferred} {ops : Array Oper} {Q : Exit → Act → World → Prop} {l : List Oper} {last : Option Nat} {σ : Sched}
  {E : Env} {I : Im} {L Lf Ls : Own} {d : Tmp} {op : Op} {ty : TypeId} {pos : String} {after : Array Edge} {g : Option (Nat × Bool)} {v : Value}
/-- a read that is not moved -/
theorem XR.rde {i : Nat} (ho : ops[i]? = some ⟨some d, op, ty, pos, after, g⟩) (hp : plainOp ⟨some d, op, ty, pos, after, g⟩ = true) (hw : Wants ops ⟨some d, op, ty, pos, after, g⟩ E true) (hd : Nat.ble (d + 1) n = true) (hs : Reads P ⟨some d, op, ty, pos, after, g⟩ E I L v) (hsub : Ls.Sublist L)
    (hk : XR P r K n ds ops Q last σ ((d, v) :: E) I L Ls) : XR P r K n ds ops Q last (.eff i σ) E I L Ls :=
  XR.e ho hw hd (Reads.step hp hs) (by rintro u I' L' ⟨rfl, rfl, rfl⟩; exact ⟨Im.le_refl _, .inr hsub, hk⟩)
end
end Go.Xe
namespace Go.Xe
open Go Go.RowKit
def strC (l : List ByteArray) : List Value := l.map .string
theorem strC_len (l : List ByteArray) : (strC l).length = l.length := by simp [strC]
theorem strC_append (a b : List ByteArray) : strC (a ++ b) = strC a ++ strC b := by simp [strC]
theorem strC_one (l : List ByteArray) : ∀ v ∈ strC l, v.oneCell' = true := by simp [strC, Value.oneCell']
theorem strC_get {l : List ByteArray} {i : Nat} (h : i < l.length) : (strC l)[i]? = some (.string (l.getD i ⟨#[]⟩)) := by simp [strC, h]
theorem flat_strs (I : Im) : ∀ (l : List ByteArray), Flat I (strC l) l
  | [] => .nil
  | x :: l => .cons (cs := [.string x]) rfl (flat_strs I l)
theorem Arr.str_at {I : Im} {a : Option Addr} {xs : List ByteArray} (h : Arr I a xs) {j q : Nat} (hj : j < xs.length) (hq : j = q) : At I a q (.string (xs.getD j ⟨#[]⟩)) := by
  have := h.str hj
  rw [show xs.getD j ⟨#[]⟩ = xs[j] by simp [hj], ← hq]
  simpa using this
theorem getD_mem {α : Type} {l : List α} {d : α} {i : Nat} (h : i < l.length) : l.getD i d ∈ l := by simp [h]
end Go.Xe
