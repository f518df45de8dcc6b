/- The data of layer 6, and how they lie in memory. -/
import Derived.Test.YtlgfpieokaegiaaXm
namespace Go.Xe
open Go

structure Bnd where
  fr : Int
  to : Int
  mo : Int
  deriving DecidableEq
instance : Inhabited Bnd := ⟨⟨0, 0, 0⟩⟩
def Bnd.cs (x : Bnd) : List Value := [.int .i64 x.fr, .int .i64 x.to, .int .i64 x.mo]
instance : Enc Bnd where
  sz := 3
  rep := fun _ cs x => cs = x.cs
  len := fun h => by rw [h]; rfl
  mono := fun _ h => h
  one := fun h v hv => by rw [h] at hv; simp [Bnd.cs] at hv; rcases hv with rfl | rfl | rfl <;> rfl
theorem Arr.bnd {I : Im} {a : Option Addr} {xs : List Bnd} (h : Arr I a xs) {j : Nat} (hj : j < xs.length) : ∀ i v, (xs[j].cs)[i]? = some v → At I a (j * 3 + i) v := by
  obtain ⟨cs, h1, h2⟩ := h j hj
  rw [show cs = xs[j].cs from h1] at h2
  exact h2

structure Btw where
  n : Int
  bs : List Bnd

def inB (n lo hi : Int) : Bool := decide (lo ≤ n) && decide (n ≤ hi)
def bndOk (n : Int) (x : Bnd) : Bool := inB x.fr 0 (n - 1) && inB x.to 0 (n - 1) && inB x.mo (-1000000000) 1000000000
def Btw.ok (b : Btw) : Bool := inB b.n 0 16 && decide (b.bs.length ≤ 60) && !b.bs.any (fun x => !bndOk b.n x)
def far : Int := 1152921504606846976
def plusI (a b : Int) : Int := if a = far ∨ b = far then far else a + b
end Go.Xe
namespace Go.Xe
/-- the first place with a property, or -1 -/
def idx {α : Type} (p : α → Bool) (l : List α) : Int := match l.findIdx? p with | some i => (i : Int) | none => -1
theorem idx_found {α : Type} {p : α → Bool} {l : List α} {k : Nat} (h : k < l.length) (hp : p l[k] = true) (hn : ∀ (j : Nat) (h : j < l.length), j < k → p l[j] = false) : idx p l = k := by
  have : l.findIdx? p = some k := List.findIdx?_eq_some_iff_getElem.2 ⟨h, hp, fun j hj => by simp [hn j (by omega) hj]⟩
  simp [idx, this]
theorem idx_none {α : Type} {p : α → Bool} {l : List α} (hn : ∀ (j : Nat) (h : j < l.length), p l[j] = false) : idx p l = -1 := by
  have : l.findIdx? p = none := List.findIdx?_eq_none_iff.2 fun x hx => by
    obtain ⟨j, hj, rfl⟩ := List.mem_iff_getElem.1 hx
    exact hn j hj
  simp [idx, this]
theorem idx_ge {α : Type} {p : α → Bool} {l : List α} : (0 ≤ idx p l) ↔ l.any p = true := by
  unfold idx
  cases h : l.findIdx? p with
  | none =>
    have := List.findIdx?_eq_none_iff.1 h
    simp
    intro x hx; simpa using this x hx
  | some i =>
    obtain ⟨h1, h2, _⟩ := List.findIdx?_eq_some_iff_getElem.1 h
    simp
    exact ⟨_, List.getElem_mem h1, h2⟩
end Go.Xe

namespace Go.Xe
/-- where a chain ends, and its sum -/
def followI (bs : List Bnd) : Int → List Int → Int → Option (Int × Int)
  | f, [], s => some (f, s)
  | f, k :: l, s => if h : 0 ≤ k ∧ k.toNat < bs.length then (if (bs[k.toNat]'h.2).fr = f then followI bs (bs[k.toNat]'h.2).to l (s + (bs[k.toNat]'h.2).mo) else none) else none
theorem followI_step {bs : List Bnd} {f k s : Int} {l : List Int} (h0 : 0 ≤ k) (h1 : k.toNat < bs.length) (h2 : bs[k.toNat].fr = f) : followI bs f (k :: l) s = followI bs bs[k.toNat].to l (s + bs[k.toNat].mo) := by
  rw [followI, dif_pos ⟨h0, h1⟩, if_pos h2]
theorem followI_out {bs : List Bnd} {f k s : Int} {l : List Int} (h : ¬ (0 ≤ k ∧ k < bs.length)) : followI bs f (k :: l) s = none := by
  rw [followI, dif_neg (by omega)]
theorem followI_off {bs : List Bnd} {f k s : Int} {l : List Int} (h0 : 0 ≤ k) (h1 : k.toNat < bs.length) (h2 : ¬ bs[k.toNat].fr = f) : followI bs f (k :: l) s = none := by
  rw [followI, dif_pos ⟨h0, h1⟩, if_neg h2]
end Go.Xe
namespace Go.Xe
def followT (bs : List Bnd) (f : Int) (l : List Int) : Int × Int × Bool := match followI bs f l 0 with | some (g, s) => (g, s, decide (l.length ≤ 60)) | none => (0, 0, false)
def Btw.allowed (b : Btw) (x : List Int) : Bool :=
  b.ok && decide ((x.length : Int) = b.n) && !x.any (fun v => !inB v (-1000000000000) 1000000000000) && !b.bs.any (fun y => decide (x.getD y.to.toNat 0 - x.getD y.fr.toNat 0 > y.mo))
def Btw.checkCycle (b : Btw) (l : List Int) : Bool :=
  b.ok && decide (0 < l.length) && inB (l.getD 0 0) 0 (b.bs.length - 1) && (let f := (b.bs.getD (l.getD 0 0).toNat default).fr; let r := followT b.bs f l; r.2.2 && r.1 == f && decide (r.2.1 < 0))
def Btw.checkChain (b : Btw) (x : Bnd) (l : List Int) : Bool :=
  b.ok && bndOk b.n x && (let r := followT b.bs x.fr l; r.2.2 && r.1 == x.to && decide (r.2.1 ≤ x.mo))

theorem Btw.ok_n {b : Btw} (h : b.ok = true) : 0 ≤ b.n ∧ b.n ≤ 16 := by simp [Btw.ok, inB] at h; omega
theorem Btw.ok_len {b : Btw} (h : b.ok = true) : b.bs.length ≤ 60 := by simp [Btw.ok] at h; exact h.1.2
theorem Btw.ok_bnd {b : Btw} (h : b.ok = true) {x : Bnd} (hx : x ∈ b.bs) : bndOk b.n x = true := by simp [Btw.ok] at h; exact h.2 x hx
theorem bndOk_iff {n : Int} {x : Bnd} : bndOk n x = true ↔ (0 ≤ x.fr ∧ x.fr < n) ∧ (0 ≤ x.to ∧ x.to < n) ∧ -1000000000 ≤ x.mo ∧ x.mo ≤ 1000000000 := by
  simp [bndOk, inB]; omega
theorem Btw.ok_mo {b : Btw} (h : b.ok = true) : ∀ x ∈ b.bs, -1000000000 ≤ x.mo ∧ x.mo ≤ 1000000000 := fun x hx => (bndOk_iff.1 (Btw.ok_bnd h hx)).2.2

/-! matrices -/
abbrev Mat := Nat → Nat → Int
def Mat.upd (D : Mat) (i k : Nat) (v : Int) : Mat := fun a b => if a = i ∧ b = k then v else D a b
def mat0 : Mat := fun i k => if i = k then 0 else far
def matFar : Mat := fun _ _ => far
def matB (D : Mat) (bs : List Bnd) : Mat := bs.foldl (fun D x => D.upd x.fr.toNat x.to.toNat (min (D x.fr.toNat x.to.toNat) x.mo)) D
def plusW (a b : Int) : Int := if a = far ∨ b = far then far else IntKind.i64.wrap (a + b)
def fwRow (m : Nat) (thr : Nat → Int) (i n : Nat) (D : Mat) : Mat := (List.range n).foldl (fun D k => D.upd i k (min (D i k) (plusW (D i m) (thr k)))) D
def fwM (n : Nat) (D : Mat) (m : Nat) : Mat := (List.range n).foldl (fun E i => fwRow m (D m) i n E) D
def fw (n : Nat) (D : Mat) : Mat := (List.range n).foldl (fwM n) D
def Btw.dist (b : Btw) : Mat := fw b.n.toNat (matB mat0 b.bs)
def Mat.rows (D : Mat) (n : Nat) : List (List Int) := (List.range n).map fun i => (List.range n).map (D i)
/-- no diagonal element below 0 -/
def Mat.fine (D : Mat) (n : Nat) : Bool := (List.range n).all fun i => decide (0 ≤ D i i)

def rowC (n : Nat) (f : Nat → Int) : List Value := (List.range n).map fun k => .int .i64 (f k)
theorem rowC_len (n : Nat) (f : Nat → Int) : (rowC n f).length = n := by simp [rowC]
theorem rowC_get {n : Nat} {f : Nat → Int} {k : Nat} (h : k < (rowC n f).length) : (rowC n f)[k] = .int .i64 (f k) := by simp [rowC]
theorem rowC_succ (n : Nat) (f : Nat → Int) : rowC (n + 1) f = rowC n f ++ [.int .i64 (f n)] := by simp [rowC, List.range_succ]
theorem rowC_set {n : Nat} {f : Nat → Int} {k : Nat} {v : Int} (h : k < n) : (rowC n f).set k (.int .i64 v) = rowC n (fun j => if j = k then v else f j) := by
  apply List.ext_getElem
  · simp [rowC]
  · intro i h1 h2
    simp only [rowC, List.getElem_set, List.getElem_map, List.getElem_range]
    by_cases e : k = i
    · subst e; simp
    · rw [if_neg e, if_neg (fun h => e h.symm)]
/-- rows under construction or whole: row j has cnt j cells of D -/
structure TabIs (T : List Vec) (n : Nat) (D : Mat) (cnt : Nat → Nat) : Prop where
  len : T.length = n
  row : ∀ (j : Nat) (h : j < T.length), T[j].Is 1 (rowC (cnt j) (D j))
theorem TabIs.start (n : Nat) (D : Mat) : TabIs (List.replicate n Vec.nil) n D (fun _ => 0) := ⟨by simp, fun j h => by simp [rowC]; exact Vec.nil_is 1⟩
theorem TabIs.set {T : List Vec} {n : Nat} {D D' : Mat} {cnt cnt' : Nat → Nat} {i : Nat} {V : Vec} (h : TabIs T n D cnt) (hV : V.Is 1 (rowC (cnt' i) (D' i))) (hc : ∀ j, j ≠ i → cnt' j = cnt j) (hD : ∀ j, j ≠ i → D' j = D j) : TabIs (T.set i V) n D' cnt' := by
  refine ⟨by simpa using h.len, fun j hj => ?_⟩
  simp only [List.length_set] at hj
  rw [List.getElem_set]
  by_cases e : i = j
  · subst e; rw [if_pos rfl]; exact hV
  · rw [if_neg e, hc j (Ne.symm e), hD j (Ne.symm e)]; exact h.row j hj
theorem TabIs.congr {T : List Vec} {n : Nat} {D : Mat} {cnt cnt' : Nat → Nat} (h : TabIs T n D cnt) (hc : ∀ j, j < n → cnt' j = cnt j) : TabIs T n D cnt' := ⟨h.len, fun j hj => by rw [hc j (by have := h.len; omega)]; exact h.row j hj⟩
theorem flat_ints (I : Im) : ∀ (l : List Int), Flat I (l.map fun x => Value.int .i64 x) l
  | [] => .nil
  | x :: l => by
    have := Flat.cons (α := Int) (I := I) (cs := [Value.int .i64 x]) (x := x) rfl (flat_ints I l)
    simpa using this
theorem flat_row (I : Im) (n : Nat) (f : Nat → Int) : Flat I (rowC n f) ((List.range n).map f) := by
  have := flat_ints I ((List.range n).map f)
  rw [List.map_map] at this; exact this
theorem give_table {K w : World} {eo ei : TypeId} {b n : Nat} {T : List Vec} {X : Own} {I : Im} {D : Mat} (h : Sat K w I (tabL eo ei b T ++ X)) (hT : TabIs T n D (fun _ => n)) :
    ∃ I', I.le I' ∧ Sat K w I' X ∧ Sl I' (.slice (some ⟨b, 0, none⟩) n n) (D.rows n) := by
  obtain ⟨I', h1, h2, h3⟩ := Sat.give_tab (rows := D.rows n) rfl h (by simp [Mat.rows, hT.len]) (fun j hj hj' => ⟨_, hT.row j hj, by simp only [Mat.rows, List.getElem_map, List.getElem_range]; exact flat_row I n (D j)⟩)
  exact ⟨I', h1, h2, by simpa [Mat.rows] using h3⟩
end Go.Xe
namespace Go.Xe
open Go.RowKit
section
variable {P : Program} {dst : Option Tmp} {ty : TypeId} {pos : String} {after : Array Edge} {guard : Option (Nat × Bool)} {E : Env} {I : Im} {L : Own}
theorem Reads.load_row {t e : TypeId} {x : Operand} {V : Vec} {n k : Nat} {f : Nat → Int} (hkd : kindOf P t = some false) (hx : ev E x = some (.pointer (slot V.addr k))) (hV : V.Is 1 (rowC n f)) (hm : V.ent e ∈ L) (hk : k < n) :
    Reads P { dst, op := .load t x, type := ty, pos, after, guard } E I L (.int .i64 (f k)) := by
  have h1 : k < (rowC n f).length := by rw [rowC_len]; exact hk
  have := Reads.load_vec (P := P) (dst := dst) (ty := ty) (pos := pos) (after := after) (guard := guard) (I := I) hkd hx hV hm h1
  rw [rowC_get] at this; exact this
end
theorem row_len {V : Vec} {n : Nat} {f : Nat → Int} (h : V.Is 1 (rowC n f)) : V.len = n := by have := h.len; rw [rowC_len] at this; omega
theorem row_some {V : Vec} {n : Nat} {f : Nat → Int} (h : V.Is 1 (rowC n f)) (hn : 0 < n) : V.addr.isSome = true := vec_isSome h (by rw [rowC_len]; exact hn)
theorem Mat.upd_row (D : Mat) (i k : Nat) (v : Int) : (D.upd i k v) i = fun j => if j = k then v else D i j := by funext j; simp [Mat.upd]
theorem Mat.upd_other (D : Mat) {i j : Nat} (k : Nat) (v : Int) (h : j ≠ i) : (D.upd i k v) j = D j := by funext b; simp [Mat.upd, h]
theorem TabIs.upd {T : List Vec} {n : Nat} {D : Mat} {i k : Nat} {v : Int} {V : Vec} (h : TabIs T n D (fun _ => n)) (hk : k < n) (hV : V.Is 1 ((rowC n (D i)).set k (.int .i64 v))) : TabIs (T.set i V) n (D.upd i k v) (fun _ => n) :=
  h.set (by rw [Mat.upd_row, ← rowC_set hk]; exact hV) (fun _ _ => rfl) (fun j hj => Mat.upd_other D k v hj)
theorem foldl_range_succ {α : Type} (f : α → Nat → α) (a : α) (k : Nat) : (List.range (k + 1)).foldl f a = f ((List.range k).foldl f a) k := by simp [List.range_succ]
theorem matB_succ (D : Mat) (bs : List Bnd) {k : Nat} (h : k < bs.length) : matB D (bs.take (k + 1)) = (matB D (bs.take k)).upd bs[k].fr.toNat bs[k].to.toNat (min (matB D (bs.take k) bs[k].fr.toNat bs[k].to.toNat) bs[k].mo) := by
  unfold matB
  rw [List.take_succ_eq_append_getElem h, List.foldl_append]
  rfl
theorem fine_no {D : Mat} {n i : Nat} (hi : i < n) (h : D i i < 0) : D.fine n = false := by
  have : ¬ D.fine n = true := fun hf => by
    have := List.all_eq_true.1 hf i (List.mem_range.2 hi)
    simp at this; omega
  simpa using this
theorem fine_yes {D : Mat} {n : Nat} (h : ∀ i, i < n → 0 ≤ D i i) : D.fine n = true := by
  simp only [Mat.fine, List.all_eq_true, List.mem_range, decide_eq_true_eq]; exact h
section
variable {K : World} {n : Nat} {ds : List Deferred} {Q : Exit → Act → World → Prop} {E : Env} {I : Im} {X : Own} {e : Exit} {eo ei : TypeId} {b m : Nat} {T : List Vec} {D : Mat}
theorem XQ.table (hT : TabIs T m D (fun _ => m)) (h : ∀ I', I.le I' → Sl I' (.slice (some ⟨b, 0, none⟩) m m) (D.rows m) → XQ K n ds Q e E I' X) : XQ K n ds Q e E I (tabL eo ei b T ++ X) := fun a w hH hS => by
  obtain ⟨I', h1, h2, h3⟩ := give_table hS hT
  exact h I' h1 h3 a w hH h2
end
end Go.Xe
namespace Go.Xe
/-- a result with an error's number -/
def ROut {α : Type} [Enc α] (I : Im) (u : Value) (o : Option (List α)) : Prop :=
  ∃ v e, u = .tuple #[v, .int .i64 e] ∧ (∀ r, o = some r → e = 0 ∧ Sl I v r) ∧ (o = none → e = 60 ∧ v = .slice none 0 0)
/-- a result with a truth value -/
def BOut {α : Type} [Enc α] (I : Im) (u : Value) (o : Option (List α)) : Prop :=
  ∃ v, u = .tuple #[v, .bool o.isSome] ∧ (∀ r, o = some r → Sl I v r) ∧ (o = none → v = .slice none 0 0)
def Btw.close (b : Btw) : Option (List (List Int)) := if b.ok && b.dist.fine b.n.toNat then some (b.dist.rows b.n.toNat) else none
def solveF (D : Mat) (n : Nat) (k : Nat) : Int := (List.range n).foldl (fun m i => min m (D i k)) 0
def Btw.solve (b : Btw) : Option (List Int) := if b.ok && b.dist.fine b.n.toNat then some ((List.range b.n.toNat).map (solveF b.dist b.n.toNat)) else none
def walkRow (n : Nat) (D : Mat) (x : Bnd) (E : Mat) : Mat := (List.range n).foldl (fun E i => E.upd i x.to.toNat (min (E i x.to.toNat) (plusW (D i x.fr.toNat) x.mo))) E
def walkStep (n : Nat) (bs : List Bnd) (D : Mat) : Mat := bs.foldl (fun E x => walkRow n D x E) matFar
def Btw.walk (b : Btw) : Nat → Mat
  | 0 => mat0
  | j + 1 => walkStep b.n.toNat b.bs (b.walk j)
def stepB (W : Nat → Mat) (to : Int) (m : Nat) (f most : Int) (x : Bnd) : Bool := decide (x.fr = f) && decide (plusW x.mo (W m x.to.toNat to.toNat) ≤ most)
def chainI (bs : List Bnd) (W : Nat → Mat) (to : Int) : Nat → Int → Int → Option (List Int)
  | 0, _, _ => some []
  | m + 1, f, most => match bs.findIdx? (stepB W to m f most) with
    | none => none
    | some k => (chainI bs W to m (bs.getD k default).to (most - (bs.getD k default).mo)).map (fun l => (k : Int) :: l)

theorem rows_len (D : Mat) (n : Nat) : (D.rows n).length = n := by simp [Mat.rows]
theorem rows_get {D : Mat} {n i : Nat} (h : i < n) : (D.rows n)[i]'(by rw [rows_len]; exact h) = (List.range n).map (D i) := by simp [Mat.rows]
/-- a row of an unchanging table -/
theorem tab_row {I : Im} {a : Option Addr} {D : Mat} {n i : Nat} (h : Arr I a (D.rows n)) (hi : i < n) : ∃ ar cr, At I a (i * 1) (.slice ar n cr) ∧ Arr I ar ((List.range n).map (D i)) := by
  obtain ⟨v, h1, h2⟩ := h.sl (j := i) (by rw [rows_len]; exact hi)
  obtain ⟨ar, cr, rfl, _, h3⟩ := h2.ex
  rw [rows_get hi] at h1 h3
  exact ⟨ar, cr, by simpa using h1, h3⟩
theorem row_int {I : Im} {a : Option Addr} {n k : Nat} {f : Nat → Int} (h : Arr I a ((List.range n).map f)) (hk : k < n) : At I a (k * 1) (.int .i64 (f k)) := by
  have := h.int (j := k) (by simpa using hk)
  simpa using this
def tabs (W : Nat → Mat) (n N : Nat) : List (List (List Int)) := (List.range N).map fun j => (W j).rows n
theorem tabs_len (W : Nat → Mat) (n N : Nat) : (tabs W n N).length = N := by simp [tabs]
theorem tabs_get {I : Im} {a : Option Addr} {W : Nat → Mat} {n N j : Nat} (h : Arr I a (tabs W n N)) (hj : j < N) : ∃ at' ct, At I a (j * 1) (.slice at' n ct) ∧ Arr I at' ((W j).rows n) := by
  obtain ⟨v, h1, h2⟩ := h.sl (j := j) (by rw [tabs_len]; exact hj)
  obtain ⟨ar, cr, rfl, _, h3⟩ := h2.ex
  have e : (tabs W n N)[j]'(by rw [tabs_len]; exact hj) = (W j).rows n := by simp [tabs]
  rw [e] at h1 h3
  exact ⟨ar, cr, by simpa [rows_len] using h1, h3⟩
theorem tabs_succ (W : Nat → Mat) (n N : Nat) : tabs W n (N + 1) = tabs W n N ++ [(W N).rows n] := by simp [tabs, List.range_succ]
theorem Btw.dist_close {b : Btw} {n : Nat} (hn : b.n = n) (h : b.ok = true) : b.close = if (Btw.dist ⟨n, b.bs⟩).fine n then some ((Btw.dist ⟨n, b.bs⟩).rows n) else none := by
  obtain ⟨bn, bs⟩ := b; simp only at hn; subst hn
  simp [Btw.close, h]
end Go.Xe
namespace Go.Xe
def solveP (D : Mat) (i k : Nat) : Int := (List.range i).foldl (fun m i => min m (D i k)) 0
theorem solveP_succ (D : Mat) (i k : Nat) : solveP D (i + 1) k = min (solveP D i k) (D i k) := by simp [solveP, List.range_succ]
theorem replicate_row (n : Nat) (z : Int) : List.replicate n (Value.int .i64 z) = rowC n (fun _ => z) := by
  apply List.ext_getElem
  · simp [rowC]
  · intro i h1 h2; simp [rowC]
theorem rowC_setA {n : Nat} {f : Nat → Int} {k : Nat} {v : Int} (h : k < n) : (rowC n f).toArray.setIfInBounds k (.int .i64 v) = (rowC n (fun j => if j = k then v else f j)).toArray := by
  rw [← rowC_set h]; simp
theorem rowC_congr {n : Nat} {f g : Nat → Int} (h : ∀ j, j < n → f j = g j) : rowC n f = rowC n g := by
  unfold rowC; apply List.map_congr_left; intro j hj; rw [h j (List.mem_range.1 hj)]
theorem part_step {n k : Nat} {f g : Nat → Int} {v : Int} (hv : v = g k) : rowC n (fun j => if j = k then v else if j < k then g j else f j) = rowC n (fun j => if j < k + 1 then g j else f j) := by
  apply rowC_congr; intro j _
  by_cases e : j = k
  · subst e; simp [hv]
  · by_cases e2 : j < k
    · simp [e, e2, show j < k + 1 by omega]
    · simp [e, e2, show ¬ j < k + 1 by omega]
theorem Sat.give_row {K w : World} {I : Im} {X : Own} {b n : Nat} {f : Nat → Int} {e : TypeId} (h : Sat K w I (some (b, .cells (rowC n f).toArray e (0, 0)) :: X)) : ∃ I', I.le I' ∧ Sat K w I' X ∧ Sl I' (.slice (some ⟨b, 0, none⟩) n n) ((List.range n).map f) := by
  have hb := h.apart b _ (List.mem_cons_self ..)
  refine ⟨_, Im.le_add hb, h.give, some ⟨b, 0, none⟩, n, by simp, by simp, Arr.of_add (m := n) hb ?_ (flat_row I n f)⟩
  rw [List.take_of_length_le (by simp [rowC_len])]
section
variable {K : World} {n : Nat} {ds : List Deferred} {Q : Exit → Act → World → Prop} {E : Env} {I : Im} {X : Own} {e : Exit} {t : TypeId} {b m : Nat} {f : Nat → Int}
theorem XQ.row (h : ∀ I', I.le I' → Sl I' (.slice (some ⟨b, 0, none⟩) m m) ((List.range m).map f) → XQ K n ds Q e E I' X) : XQ K n ds Q e E I (some (b, .cells (rowC m f).toArray t (0, 0)) :: X) := fun a w hH hS => by
  obtain ⟨I', h1, h2, h3⟩ := hS.give_row
  exact h I' h1 h3 a w hH h2
end
end Go.Xe
namespace Go.Xe
section
variable {P : Program} {r : Option Nat} {K : World} {n : Nat} {ds : List Deferred} {ops : Array Oper} {Q : Exit → Act → World → Prop} {l : List Oper} {E : Env} {I : Im} {X : Own} {eo ei : TypeId} {b m : Nat} {T : List Vec} {D : Mat}
theorem XO.table (hT : TabIs T m D (fun _ => m)) (h : ∀ I', I.le I' → Sl I' (.slice (some ⟨b, 0, none⟩) m m) (D.rows m) → XO P r K n ds ops Q l E I' X) : XO P r K n ds ops Q l E I (tabL eo ei b T ++ X) := fun a w hH hS => by
  obtain ⟨I', h1, h2, h3⟩ := give_table hS hT
  exact h I' h1 h3 a w hH h2
end
def walkP (n : Nat) (D : Mat) (bs : List Bnd) (k : Nat) : Mat := (bs.take k).foldl (fun E x => walkRow n D x E) matFar
theorem walkP_succ (n : Nat) (D : Mat) (bs : List Bnd) {k : Nat} (h : k < bs.length) : walkP n D bs (k + 1) = walkRow n D bs[k] (walkP n D bs k) := by
  unfold walkP; rw [List.take_succ_eq_append_getElem h, List.foldl_append]; rfl
theorem walkP_all (n : Nat) (D : Mat) (bs : List Bnd) {k : Nat} (h : bs.length ≤ k) : walkP n D bs k = walkStep n bs D := by
  unfold walkP walkStep; rw [List.take_of_length_le h]
def rowP (D : Mat) (x : Bnd) (E : Mat) (k : Nat) : Mat := (List.range k).foldl (fun E i => E.upd i x.to.toNat (min (E i x.to.toNat) (plusW (D i x.fr.toNat) x.mo))) E
theorem rowP_succ (D : Mat) (x : Bnd) (E : Mat) (k : Nat) : rowP D x E (k + 1) = (rowP D x E k).upd k x.to.toNat (min (rowP D x E k k x.to.toNat) (plusW (D k x.fr.toNat) x.mo)) := by simp [rowP, List.range_succ]
theorem rowP_all (n : Nat) (D : Mat) (x : Bnd) (E : Mat) : rowP D x E n = walkRow n D x E := rfl
end Go.Xe
namespace Go.Xe
theorem chainI_step {bs : List Bnd} {W : Nat → Mat} {to : Int} {m : Nat} {f most : Int} {out l0 : List Int} (h : (chainI bs W to (m + 1) f most).map (out ++ ·) = some l0) :
    ∃ (k : Nat) (hk : k < bs.length), idx (stepB W to m f most) bs = k ∧ (chainI bs W to m bs[k].to (most - bs[k].mo)).map ((out ++ [(k : Int)]) ++ ·) = some l0 := by
  unfold chainI at h
  cases hf : bs.findIdx? (stepB W to m f most) with
  | none => rw [hf] at h; cases h
  | some k =>
    rw [hf] at h
    obtain ⟨hk, h1, h2⟩ := List.findIdx?_eq_some_iff_getElem.1 hf
    refine ⟨k, hk, by simp [idx, hf], ?_⟩
    have e : bs.getD k default = bs[k] := by simp [hk]
    simp only [e] at h
    cases hc : chainI bs W to m bs[k].to (most - bs[k].mo) with
    | none => rw [hc] at h; cases h
    | some l => rw [hc] at h; simpa using h
theorem chainI_len {bs : List Bnd} {W : Nat → Mat} {to : Int} : ∀ {m : Nat} {f most : Int} {l : List Int}, chainI bs W to m f most = some l → l.length = m
  | 0, f, most, l, h => by simp [chainI] at h; subst h; rfl
  | m + 1, f, most, l, h => by
    unfold chainI at h
    split at h
    · cases h
    · obtain ⟨l', h1, rfl⟩ := Option.map_eq_some_iff.1 h
      simp [chainI_len h1]
theorem chainI_end {bs : List Bnd} {W : Nat → Mat} {to : Int} {f most : Int} {out l0 : List Int} (h : (chainI bs W to 0 f most).map (out ++ ·) = some l0) : out = l0 := by
  simpa [chainI] using h
end Go.Xe
namespace Go.Xe
def Btw.hits (b : Btw) (x : Bnd) (j : Nat) : Bool := decide (b.walk j x.fr.toNat x.to.toNat ≤ x.mo)
def Btw.many (b : Btw) (x : Bnd) : Nat := ((List.range 17).findIdx? (b.hits x)).getD 0
def Btw.keeps (b : Btw) (x : Bnd) : Bool := b.ok && bndOk b.n x && b.dist.fine b.n.toNat && decide (b.dist x.fr.toNat x.to.toNat ≤ x.mo)
def Btw.implied (b : Btw) (x : Bnd) : Option (List Int) := if b.keeps x then chainI b.bs b.walk x.to (b.many x) x.fr x.mo else none
theorem findIdx_range {p : Nat → Bool} {N M : Nat} (h : M < N) (hp : p M = true) (hn : ∀ j, j < M → p j = false) : (List.range N).findIdx? p = some M := by
  apply List.findIdx?_eq_some_iff_getElem.2
  exact ⟨by simpa using h, by simpa using hp, fun j hj => by simp [hn j hj]⟩
/-- what Implied needs of the plain theory -/
def Btw.Steps (b : Btw) (x : Bnd) : Prop := b.keeps x = true → ∃ M, M ≤ 16 ∧ b.hits x M = true ∧ (∀ j, j < M → b.hits x j = false) ∧ ∃ l, chainI b.bs b.walk x.to M x.fr x.mo = some l
theorem Btw.implied_some {b : Btw} {x : Bnd} {M : Nat} {l : List Int} (hk : b.keeps x = true) (h : M ≤ 16) (hM : b.hits x M = true) (hn : ∀ j, j < M → b.hits x j = false) (hl : chainI b.bs b.walk x.to M x.fr x.mo = some l) : b.implied x = some l := by
  have : b.many x = M := by simp [Btw.many, findIdx_range (show M < 17 by omega) hM hn]
  simp [Btw.implied, hk, this, hl]
theorem tabs_flat {I : Im} {W : Nat → Mat} {n j : Nat} {cs : List Value} {v : Value} (h : Flat I cs (tabs W n j)) (hv : Sl I v ((W j).rows n)) : Flat I (cs ++ [v]) (tabs W n (j + 1)) := by
  rw [tabs_succ]; exact h.append (Flat.single ⟨v, rfl, hv⟩)
end Go.Xe
namespace Go.Xe
def Btw.cycB (b : Btw) (j : Nat) (x : Bnd) : Bool := decide (0 < j) && decide (plusW x.mo (b.walk (j - 1) x.to.toNat x.fr.toNat) < 0)
def Btw.cycleM (b : Btw) : Nat := ((List.range 17).findIdx? fun j => b.bs.any (b.cycB j)).getD 0
def Btw.cycle (b : Btw) : Option (List Int) :=
  if b.ok && !b.dist.fine b.n.toNat then
    match b.bs.findIdx? (b.cycB b.cycleM) with
    | none => none
    | some k => (chainI b.bs b.walk (b.bs.getD k default).fr (b.cycleM - 1) (b.bs.getD k default).to (-1 - (b.bs.getD k default).mo)).map fun l => (k : Int) :: l
  else none
/-- what Cycle needs of the plain theory -/
def Btw.CSteps (b : Btw) : Prop := b.ok = true → b.dist.fine b.n.toNat = false → ∃ (M k : Nat) (hk : k < b.bs.length) (l : List Int), 0 < M ∧ M ≤ 16 ∧ (∀ j, j < M → ∀ (i : Nat) (h : i < b.bs.length), b.cycB j b.bs[i] = false) ∧
  b.cycB M b.bs[k] = true ∧ (∀ (i : Nat) (h : i < b.bs.length), i < k → b.cycB M b.bs[i] = false) ∧ chainI b.bs b.walk b.bs[k].fr (M - 1) b.bs[k].to (-1 - b.bs[k].mo) = some l
theorem Btw.cycle_some {b : Btw} {M k : Nat} {hk : k < b.bs.length} {l : List Int} (hok : b.ok = true) (hf : b.dist.fine b.n.toNat = false) (hM : M ≤ 16) (hn : ∀ j, j < M → ∀ (i : Nat) (h : i < b.bs.length), b.cycB j b.bs[i] = false)
    (h1 : b.cycB M b.bs[k] = true) (h2 : ∀ (i : Nat) (h : i < b.bs.length), i < k → b.cycB M b.bs[i] = false) (hl : chainI b.bs b.walk b.bs[k].fr (M - 1) b.bs[k].to (-1 - b.bs[k].mo) = some l) : b.cycle = some ((k : Int) :: l) := by
  have e1 : b.cycleM = M := by
    have := findIdx_range (p := fun j => b.bs.any (b.cycB j)) (show M < 17 by omega) (List.any_eq_true.2 ⟨_, List.getElem_mem hk, h1⟩) (fun j hj => by
      rw [Bool.eq_false_iff]; intro h
      obtain ⟨x, hx, hxx⟩ := List.any_eq_true.1 h
      obtain ⟨i, hi, rfl⟩ := List.mem_iff_getElem.1 hx
      rw [hn j hj i hi] at hxx; cases hxx)
    simp [Btw.cycleM, this]
  have e2 : b.bs.findIdx? (b.cycB M) = some k := List.findIdx?_eq_some_iff_getElem.2 ⟨hk, h1, fun j hj => by simp [h2 j (by omega) hj]⟩
  have e3 : b.bs.getD k default = b.bs[k] := by simp [hk]
  simp only [Btw.cycle, hok, hf, e1, e2, e3, hl]; rfl
theorem tabs_cell {I : Im} {cs : List Value} {W : Nat → Mat} {n N j : Nat} (h : Flat I cs (tabs W n N)) (hj : j < N) : ∃ a c, cs[j]? = some (.slice a n c) ∧ Arr I a ((W j).rows n) := by
  obtain ⟨ds, ⟨v, rfl, hs⟩, h2⟩ := h.at_ j (by rw [tabs_len]; exact hj)
  have e : (tabs W n N)[j]'(by rw [tabs_len]; exact hj) = (W j).rows n := by simp [tabs]
  rw [e] at hs
  obtain ⟨a, c, rfl, _, h3⟩ := hs.ex
  rw [rows_len] at h2
  have := h2 0 _ rfl
  exact ⟨a, c, by simpa [show Enc.sz (List (List Int)) = 1 from rfl] using this, h3⟩
section
open Go.RowKit
variable {P : Program} {dst : Option Tmp} {ty : TypeId} {pos : String} {after : Array Edge} {guard : Option (Nat × Bool)} {E : Env} {I : Im} {L : Own}
theorem Reads.load_vecq {t e : TypeId} {x : Operand} {V : Vec} {cs : List Value} {k : Nat} {v : Value} (hkd : kindOf P t = some false) (hx : ev E x = some (.pointer (slot V.addr k))) (hV : V.Is 1 cs) (hm : V.ent e ∈ L) (hc : cs[k]? = some v) :
    Reads P { dst, op := .load t x, type := ty, pos, after, guard } E I L v := by
  obtain ⟨h1, h2⟩ := List.getElem?_eq_some_iff.1 hc
  have := Reads.load_vec (P := P) (dst := dst) (ty := ty) (pos := pos) (after := after) (guard := guard) (I := I) hkd hx hV hm h1
  rw [h2] at this; exact this
theorem News.arr {α : Type} [Enc α] {tx e' : TypeId} {a : Option Addr} {c : Nat} {xs : List α} (hu : P.underlying tx = some (.slice e')) (h : Arr I a xs) : ∃ cs, Flat I cs xs ∧ ∀ L, News P I L (Enc.sz α) tx (.slice a xs.length c) xs.length cs := by
  obtain ⟨cs, h1, h2⟩ := h.flat
  exact ⟨cs, h1, fun L => .slice hu (.inr (.inl h2)) h1.len h1.one⟩
end
theorem Vec.one {b : Nat} {v : Value} : (⟨some (b, #[v]), 1, 1⟩ : Vec).Is 1 [v] := ⟨rfl, Nat.le_refl _, (fun h => by cases h), (fun b' c h => by cases h; exact ⟨rfl, rfl⟩)⟩
end Go.Xe
namespace Go.Xe
open Go.RowKit
/-! the reference's data -/
instance : Enc (Int × Int × Int) where
  sz := 3
  rep := fun _ cs x => cs = [.int .i64 x.1, .int .i64 x.2.1, .int .i64 x.2.2]
  len := fun h => by rw [h]; rfl
  mono := fun _ h => h
  one := fun h v hv => by rw [h] at hv; simp at hv; rcases hv with rfl | rfl | rfl <;> rfl
theorem Arr.tri {I : Im} {a : Option Addr} {xs : List (Int × Int × Int)} (h : Arr I a xs) {j : Nat} (hj : j < xs.length) : At I a (j * 3 + 0) (.int .i64 xs[j].1) ∧ At I a (j * 3 + 1) (.int .i64 xs[j].2.1) ∧ At I a (j * 3 + 2) (.int .i64 xs[j].2.2) := by
  obtain ⟨cs, h1, h2⟩ := h j hj
  rw [show cs = _ from h1] at h2
  exact ⟨h2 0 _ rfl, h2 1 _ rfl, h2 2 _ rfl⟩
structure Nums where
  n : Int
  hidden : List Int
  bnds : List (Int × Int × Int)
  miss : Int
def In64 (x : Int) : Prop := -9223372036854775808 ≤ x ∧ x ≤ 9223372036854775807
structure Nums.Ok (x : Nums) : Prop where
  n : In64 x.n
  hidden : ∀ v ∈ x.hidden, In64 v
  bnds : ∀ y ∈ x.bnds, In64 y.1 ∧ In64 y.2.1 ∧ In64 y.2.2
  miss : In64 x.miss
def pickI (c n : Int) : Int := (if c < 0 then -(c + 1) else c) % n
theorem pickI_range {c n : Int} (hn : 0 < n) : 0 ≤ pickI c n ∧ pickI c n < n := ⟨Int.emod_nonneg _ (by omega), Int.emod_lt_of_pos _ hn⟩
def Nums.hidF (x : Nums) (i : Nat) : Int := match x.hidden[i]? with | some v => pickI v 200 - 100 | none => 0
def Nums.hidN (x : Nums) : Nat := (1 + pickI x.n 8).toNat
def Nums.hid (x : Nums) : List Int := (List.range x.hidN).map x.hidF
theorem Nums.hidN_range (x : Nums) : 1 ≤ x.hidN ∧ x.hidN ≤ 8 := by have := pickI_range (c := x.n) (n := 8) (by omega); unfold Nums.hidN; omega
theorem Nums.hid_len (x : Nums) : x.hid.length = x.hidN := by simp [Nums.hid]
theorem Nums.hidF_range (x : Nums) (i : Nat) : -100 ≤ x.hidF i ∧ x.hidF i ≤ 99 := by
  unfold Nums.hidF
  split
  · rename_i v _; have := pickI_range (c := v) (n := 200) (by omega); omega
  · omega
def Nums.misses (x : Nums) : Bool := pickI x.miss 3 == 2
def Nums.bnd1 (x : Nums) (y : Int × Int × Int) : Bnd :=
  let f := pickI y.1 x.hidN; let t := pickI y.2.1 x.hidN
  ⟨f, t, x.hidF t.toNat - x.hidF f.toNat + pickI y.2.2 30⟩
def Nums.bnd0 (x : Nums) : List Bnd := (x.bnds.take 16).map x.bnd1
def Nums.low (x : Nums) (y : Bnd) : Bnd := { y with mo := y.mo - 10 - pickI (x.miss.tdiv 60) 60 }
def Nums.lowAt (x : Nums) : Nat := (pickI (x.miss.tdiv 3) x.bnd0.length).toNat
def Nums.bnds1 (x : Nums) : List Bnd := if x.misses && decide (0 < x.bnd0.length) then x.bnd0.modify x.lowAt x.low else x.bnd0
def Nums.made (x : Nums) : Btw := ⟨x.hidN, x.bnds1⟩

/-- cells of bounds -/
def bndC (bs : List Bnd) : List Value := bs.flatMap Bnd.cs
theorem bndC_append (a b : List Bnd) : bndC (a ++ b) = bndC a ++ bndC b := by simp [bndC]
theorem bndC_len (bs : List Bnd) : (bndC bs).length = bs.length * 3 := by
  induction bs with
  | nil => rfl
  | cons x bs ih => simp only [bndC, List.flatMap_cons, List.length_append] at *; rw [ih]; simp [Bnd.cs]; omega
theorem flat_bnd (I : Im) : ∀ (bs : List Bnd), Flat I (bndC bs) bs
  | [] => .nil
  | x :: bs => by
    have := Flat.cons (α := Bnd) (I := I) (cs := x.cs) (x := x) rfl (flat_bnd I bs)
    simpa [bndC] using this
theorem bndC_at (bs : List Bnd) {j : Nat} (hj : j < bs.length) : ∀ i v, (bs[j].cs)[i]? = some v → (bndC bs)[j * 3 + i]? = some v := by
  obtain ⟨ds, h1, h2⟩ := (flat_bnd (fun _ => none) bs).at_ j hj
  rw [show ds = bs[j].cs from h1] at h2
  exact h2
theorem bndC_get (bs : List Bnd) {j : Nat} (hj : j < bs.length) : (bndC bs)[j * 3 + 0]? = some (.int .i64 bs[j].fr) ∧ (bndC bs)[j * 3 + 1]? = some (.int .i64 bs[j].to) ∧ (bndC bs)[j * 3 + 2]? = some (.int .i64 bs[j].mo) :=
  ⟨bndC_at bs hj 0 _ rfl, bndC_at bs hj 1 _ rfl, bndC_at bs hj 2 _ rfl⟩
theorem bndC_set : ∀ (bs : List Bnd) {j : Nat} (f : Bnd → Bnd) {i : Nat} {v : Value}, j < bs.length → i < 3 → (∀ x : Bnd, x ∈ bs[j]? → (f x).cs = x.cs.set i v) → (bndC bs).set (j * 3 + i) v = bndC (bs.modify j f)
  | [], j, f, i, v, h, _, _ => by simp at h
  | x :: bs, 0, f, i, v, h, hi, hf => by
    have := hf x (by simp)
    simp only [bndC, List.flatMap_cons, List.modify_zero_cons, this]
    rw [List.set_append_left]
    · simp
    · simp [Bnd.cs]; omega
  | x :: bs, j + 1, f, i, v, h, hi, hf => by
    have ih := bndC_set bs (j := j) f (i := i) (v := v) (by simpa using h) hi (by simpa using hf)
    simp only [bndC, List.flatMap_cons, List.modify_succ_cons] at ih ⊢
    rw [List.set_append_right _ _ (by simp [Bnd.cs]; omega), ← ih]
    congr 2
    simp [Bnd.cs]; omega
/-- bounds' value -/
def BtwV (I : Im) (u : Value) (b : Btw) : Prop := ∃ a cap, u = .agg #[.int .i64 b.n, .slice a b.bs.length cap] ∧ b.bs.length ≤ cap ∧ Arr I a b.bs
end Go.Xe
namespace Go.Xe
theorem in64_tdiv {m n : Int} (hm : In64 m) (hn : 2 ≤ n) : In64 (m.tdiv n) := by
  have h0 : (m.tdiv n).natAbs ≤ m.natAbs := by rw [Int.natAbs_tdiv]; exact Nat.div_le_self _ _
  have h1 : (m.tdiv n).natAbs = m.natAbs / n.natAbs := Int.natAbs_tdiv m n
  have h2 : m.natAbs / n.natAbs ≤ m.natAbs / 2 := Nat.div_le_div_left (by omega) (by omega)
  unfold In64 at *; omega
theorem Nums.bnd0_succ (x : Nums) {k : Nat} (hk : k < x.bnds.length) : bndC ((x.bnds.take (k + 1)).map x.bnd1) = bndC ((x.bnds.take k).map x.bnd1) ++ (x.bnd1 x.bnds[k]).cs := by
  rw [List.take_succ_eq_append_getElem hk, List.map_append, bndC_append]; simp [bndC]
theorem rowC_map (n : Nat) (f : Nat → Int) : rowC n f = ((List.range n).map f).map fun x => Value.int .i64 x := by simp [rowC]
end Go.Xe
namespace Go.Xe
theorem Nums.bnd1_range (x : Nums) (y : Int × Int × Int) : (0 ≤ (x.bnd1 y).fr ∧ (x.bnd1 y).fr < x.hidN) ∧ (0 ≤ (x.bnd1 y).to ∧ (x.bnd1 y).to < x.hidN) ∧ -199 ≤ (x.bnd1 y).mo ∧ (x.bnd1 y).mo ≤ 228 := by
  have hN := x.hidN_range
  have h1 := pickI_range (c := y.1) (n := x.hidN) (by omega)
  have h2 := pickI_range (c := y.2.1) (n := x.hidN) (by omega)
  have h3 := pickI_range (c := y.2.2) (n := 30) (by omega)
  have h4 := x.hidF_range (pickI y.1 x.hidN).toNat
  have h5 := x.hidF_range (pickI y.2.1 x.hidN).toNat
  exact ⟨h1, h2, by simp only [Nums.bnd1]; omega, by simp only [Nums.bnd1]; omega⟩
theorem Nums.bnd0_range (x : Nums) {y : Bnd} (hy : y ∈ x.bnd0) : (0 ≤ y.fr ∧ y.fr < x.hidN) ∧ (0 ≤ y.to ∧ y.to < x.hidN) ∧ -199 ≤ y.mo ∧ y.mo ≤ 228 := by
  obtain ⟨z, _, rfl⟩ := List.mem_map.1 hy
  exact x.bnd1_range z
theorem Nums.bnd0_len (x : Nums) : x.bnd0.length ≤ 16 := by simp [Nums.bnd0]; omega
end Go.Xe
namespace Go.Xe
theorem ROut.yes {α : Type} [Enc α] {I : Im} {u : Value} {o : Option (List α)} {r : List α} (h : ROut I u o) (ho : o = some r) : ∃ v, u = .tuple #[v, .int .i64 0] ∧ Sl I v r := by
  obtain ⟨v, e, h1, h2, _⟩ := h
  obtain ⟨rfl, h3⟩ := h2 r ho
  exact ⟨v, h1, h3⟩
theorem ROut.no {α : Type} [Enc α] {I : Im} {u : Value} {o : Option (List α)} (h : ROut I u o) (ho : o = none) : u = .tuple #[.slice none 0 0, .int .i64 60] := by
  obtain ⟨v, e, h1, _, h2⟩ := h
  obtain ⟨rfl, rfl⟩ := h2 ho
  exact h1
theorem BOut.yes {α : Type} [Enc α] {I : Im} {u : Value} {o : Option (List α)} {r : List α} (h : BOut I u o) (ho : o = some r) : ∃ v, u = .tuple #[v, .bool true] ∧ Sl I v r := by
  obtain ⟨v, h1, h2, _⟩ := h
  exact ⟨v, by rw [h1, ho]; rfl, h2 r ho⟩
theorem BOut.no {α : Type} [Enc α] {I : Im} {u : Value} {o : Option (List α)} (h : BOut I u o) (ho : o = none) : u = .tuple #[.slice none 0 0, .bool false] := by
  obtain ⟨v, h1, _, h2⟩ := h
  rw [h1, ho, h2 ho]; rfl
/-- the chapter's example -/
def exB (most : Int) : Btw := ⟨3, [⟨0, 1, 5⟩, ⟨1, 2, -2⟩, ⟨2, 0, most⟩]⟩
def exO : Btw := ⟨3, [⟨0, 1, 5⟩, ⟨1, 2, -2⟩]⟩
theorem ex_ok : (exB 0).ok = true ∧ (exB (-4)).ok = true ∧ exO.ok = true := by decide
theorem ex_close : (exB 0).close = some [[0, 5, 3], [-2, 0, -2], [0, 5, 0]] := by decide
end Go.Xe
namespace Go.Xe
theorem ex_open : exO.close = some [[0, 5, 3], [far, 0, -2], [far, far, 0]] := by decide
theorem ex_solve : (exB 0).solve = some [-2, 0, -2] := by decide
theorem ex_solve4 : (exB (-4)).solve = none := by decide
theorem ex_implied : (exB 0).implied ⟨0, 2, 3⟩ = some [0, 1] := by decide
theorem ex_implied2 : (exB 0).implied ⟨0, 2, 2⟩ = none := by decide
theorem ex_cycle : (exB (-4)).cycle = some [0, 1, 2] := by decide
theorem ex_cycle0 : (exB 0).cycle = none := by decide
theorem ex_cc : (exB (-4)).checkCycle [1, 2, 0] = true ∧ (exB 0).checkCycle [0, 1, 2] = false := by decide
theorem ex_cch : (exB 0).checkChain ⟨0, 2, 3⟩ [0, 1] = true ∧ (exB 0).checkChain ⟨0, 2, 2⟩ [0, 1] = false := by decide
theorem ex_valid : (exB 0).ok = true ∧ Btw.ok ⟨17, []⟩ = false := by decide
theorem ex_allowed : (exB 0).allowed [-2, 0, -2] = true ∧ (exB 0).allowed [-2, 0, -1] = false := by decide
end Go.Xe
namespace Go.Xe
theorem FC.boolEq {P : Program} {f : FuncId} {args : List Value} {I : Im} {b c : Bool} (h : FC P f args I (fun u I' => u = .bool b ∧ I' = I)) (e : b = c) : FC P f args I (fun u I' => u = .bool c ∧ I' = I) := e ▸ h
end Go.Xe
