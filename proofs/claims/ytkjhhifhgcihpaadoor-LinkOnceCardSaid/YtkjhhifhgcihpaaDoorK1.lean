/- A link's ends, told plainly. No program is named here. -/
import Derived.Test.YtkjhhifhgcihpaaDoorXp
import Derived.Test.YtkjhhifhgcihpaaDoorXh
namespace Go.Lk
open Go Go.Xe Go.Sh

/-- a packet -/
structure Pkt where
  ser : Int
  ack : Int
  body : ByteArray
  sl : ByteArray
deriving DecidableEq
namespace Pkt
@[reducible] def cells (p : Pkt) : List Value := [.int .i64 p.ser, .int .i64 p.ack, .string p.body, .string p.sl]
@[reducible] def val (p : Pkt) : Value := .agg #[.int .i64 p.ser, .int .i64 p.ack, .string p.body, .string p.sl]
structure In (p : Pkt) : Prop where
  ser : -9223372036854775808 ≤ p.ser ∧ p.ser ≤ 9223372036854775807
  ack : -9223372036854775808 ≤ p.ack ∧ p.ack ≤ 9223372036854775807
  body : p.body.size ≤ 1000000
def isF (n lo hi : Int) : Bool := decide (lo ≤ n) && decide (n ≤ hi)
end Pkt
/-- the table, where it lies -/
def Glob (I : Im) : Prop := ∃ e fr, I 0 = some (.cells (wC KR).toArray e fr)
theorem Glob.mono {I J : Im} (h : Glob I) (hle : I.le J) : Glob J := let ⟨e, fr, h⟩ := h; ⟨e, fr, hle _ _ h⟩
/-- four numbers -/
structure Q4 where
  a : Int
  b : Int
  c : Int
  d : Int
structure Q4.In (q : Q4) : Prop where
  a : -9223372036854775808 ≤ q.a ∧ q.a ≤ 9223372036854775807
  b : -9223372036854775808 ≤ q.b ∧ q.b ≤ 9223372036854775807
  c : -9223372036854775808 ≤ q.c ∧ q.c ≤ 9223372036854775807
  d : -9223372036854775808 ≤ q.d ∧ q.d ≤ 9223372036854775807
@[reducible] def Q4.cells (q : Q4) : List Value := [.int .i64 q.a, .int .i64 q.b, .int .i64 q.c, .int .i64 q.d]
instance : Enc Q4 where
  sz := 4
  rep := fun _ cs p => cs = p.cells
  len := fun h => by rw [h]; rfl
  mono := fun _ h => h
  one := fun h v hv => by rw [h] at hv; simp at hv; rcases hv with rfl | rfl | rfl | rfl <;> rfl
instance : Inhabited Q4 := ⟨⟨0, 0, 0, 0⟩⟩
theorem Arr.q4 {I : Im} {a : Option Addr} {xs : List Q4} (h : Arr I a xs) {j : Nat} (hj : j < xs.length) (i : Nat) (v : Value) (hv : (xs[j].cells)[i]? = some v) : At I a (j * 4 + i) v := by
  obtain ⟨cs, h1, h2⟩ := h j hj
  exact h2 i v (by rw [show cs = xs[j].cells from h1]; exact hv)
/-- an integer from 0 to n - 1 -/
def pickI (c n : Int) : Int := (if c < 0 then -(c + 1) else c) % n
theorem pickI_range {c n : Int} (hn : 0 < n) : 0 ≤ pickI c n ∧ pickI c n < n := ⟨Int.emod_nonneg _ (by omega), Int.emod_lt_of_pos _ hn⟩
theorem in64_tdiv {m n : Int} (hm : -9223372036854775808 ≤ m ∧ m ≤ 9223372036854775807) (hn : 2 ≤ n) : -9223372036854775808 ≤ m.tdiv n ∧ m.tdiv n ≤ 9223372036854775807 := by
  have h0 : (m.tdiv n).natAbs ≤ m.natAbs := by rw [Int.natAbs_tdiv]; exact Nat.div_le_self _ _
  have h1 : ¬ m.tdiv n = 9223372036854775808 := by
    intro h
    have h1 : (m.tdiv n).natAbs = m.natAbs / n.natAbs := Int.natAbs_tdiv m n
    have h2 : m.natAbs / n.natAbs ≤ m.natAbs / 2 := Nat.div_le_div_left (by omega) (by omega)
    omega
  omega
theorem u8_wrap {z : Int} (h : 0 ≤ z ∧ z < 256) : IntKind.u8.wrap z = (((UInt8.ofNat z.toNat).toNat : Nat) : Int) := by
  rw [IntKind.wrap_u8, UInt8.toNat_ofNat_of_lt' (by show _ < 256; omega)]; omega
/-- keys and bodies that integers determine -/
def keyB (n : Int) : ByteArray := sha ⟨#[101, UInt8.ofNat (pickI n 2).toNat]⟩
def bodyB (n : Int) : ByteArray := (⟨#[UInt8.ofNat (97 + (pickI n 26).toNat), UInt8.ofNat (97 + (pickI (n.tdiv 26) 26).toNat)]⟩ : ByteArray).extract 0 (pickI (n.tdiv 7) 3).toNat
theorem keyB_size (n : Int) : (keyB n).size = 32 := sha_size _
theorem bodyB_size (n : Int) : (bodyB n).size ≤ 2 := by
  unfold bodyB; rw [ByteArray.size_extract]; simp [ByteArray.size]; omega
/-- a packet with something changed -/
def bentF (p : Pkt) (how n : Int) : Pkt :=
  if pickI how 5 = 0 then { p with ser := n } else if pickI how 5 = 1 then { p with ack := n } else if pickI how 5 = 2 then { p with body := p.body ++ ⟨#[UInt8.ofNat (pickI n 256).toNat]⟩ } else
  if pickI how 5 = 3 then { p with body := bodyB n } else { p with sl := keyB n }
def catX (xs : List Int) : ByteArray := xs.foldl (fun o x => o ++ putX x) ⟨#[]⟩
theorem catX_snoc (xs : List Int) (x : Int) : catX (xs ++ [x]) = catX xs ++ putX x := by simp [catX]
theorem catX_size : ∀ (xs : List Int), (catX xs).size ≤ 10 * xs.length := fun xs => by
  have : ∀ (l : List Int) (o : ByteArray), (l.foldl (fun o x => o ++ putX x) o).size ≤ o.size + 10 * l.length := fun l => by
    induction l with
    | nil => intro o; simp
    | cons x l ih =>
      intro o
      have h1 := ih (o ++ putX x)
      have h2 := putX_size x
      have h3 : (o ++ putX x).size = o.size + (putX x).size := ByteArray.size_append
      simp only [List.foldl_cons, List.length_cons]; omega
  have := this xs ⟨#[]⟩
  have h0 : (⟨#[]⟩ : ByteArray).size = 0 := rfl
  simp only [catX]; omega
def content (p : Pkt) : ByteArray := putX 8 ++ putX p.ser ++ putX p.ack ++ putS p.body
theorem putS_size (s : ByteArray) : (putS s).size ≤ 10 + s.size := by
  unfold putS
  split
  · have h1 := putX_size (s.size : Int)
    have h2 : (putX (s.size : Int) ++ s).size = (putX (s.size : Int)).size + s.size := ByteArray.size_append
    omega
  · show 0 ≤ _; omega
theorem content_size (p : Pkt) : (content p).size ≤ 40 + p.body.size := by
  have h1 := putX_size 8
  have h2 := putX_size p.ser
  have h3 := putX_size p.ack
  have h4 := putS_size p.body
  simp only [content, ByteArray.size_append]; omega
theorem content_catX (p : Pkt) : catX [8, p.ser, p.ack] ++ putS p.body = content p := by
  apply ByteArray.ext; simp [catX, content, ByteArray.data_append]
def sealF (key : ByteArray) (p : Pkt) : ByteArray := node key (leaf (content p))
def formF (p : Pkt) : Bool := Pkt.isF p.ser 0 100 && Pkt.isF p.ack 0 100 && decide (p.body.size ≤ 200) && (decide (0 < p.ser) || decide (p.body = ⟨#[]⟩)) && decide (p.sl.size = 32)
def genF (key : ByteArray) (p : Pkt) : Bool := decide (key.size = 32) && formF p && decide (p.sl = sealF key p)
structure Form (p : Pkt) : Prop where
  s0 : 0 ≤ p.ser
  s1 : p.ser ≤ 100
  a0 : 0 ≤ p.ack
  a1 : p.ack ≤ 100
  body : p.body.size ≤ 200
  none : p.ser = 0 → p.body = ⟨#[]⟩
  sl : p.sl.size = 32
theorem formF_iff (p : Pkt) : formF p = true ↔ Form p := by
  simp only [formF, Pkt.isF, Bool.and_eq_true, Bool.or_eq_true, decide_eq_true_eq]
  constructor
  · rintro ⟨⟨⟨⟨⟨a, b⟩, c, d⟩, e⟩, f⟩, g⟩
    exact ⟨a, b, c, d, e, fun h => f.resolve_left (by omega), g⟩
  · rintro ⟨a, b, c, d, e, f, g⟩
    refine ⟨⟨⟨⟨⟨a, b⟩, c, d⟩, e⟩, ?_⟩, g⟩
    rcases Int.lt_or_eq_of_le a with h | h
    · exact .inl h
    · exact .inr (f h.symm)
theorem genF_iff (key : ByteArray) (p : Pkt) : genF key p = true ↔ key.size = 32 ∧ Form p ∧ p.sl = sealF key p := by
  simp only [genF, Bool.and_eq_true, decide_eq_true_eq, formF_iff, and_assoc]
theorem sealF_size (key : ByteArray) (p : Pkt) : (sealF key p).size = 32 := sha_size _

/-- an end -/
structure LEnd where
  key : ByteArray
  other : ByteArray
  sent : List ByteArray
  acked : Nat
  got : Nat
  early : Nat → Option ByteArray
structure LEnd.Ok (x : LEnd) : Prop where
  key : x.key.size = 32
  other : x.other.size = 32
  sent : x.sent.length ≤ 100
  body : ∀ s ∈ x.sent, s.size ≤ 200
  acked : x.acked ≤ x.sent.length
  got : x.got ≤ 100
  early : ∀ k s, x.early k = some s → x.got < k ∧ k ≤ 100 ∧ s.size ≤ 200
def newF (key other : ByteArray) : LEnd := ⟨key, other, [], 0, 0, fun _ => none⟩
theorem newF_ok {key other : ByteArray} (h : key.size = 32) (h' : other.size = 32) : (newF key other).Ok := ⟨h, h', by simp [newF], by simp [newF], by simp [newF], by simp [newF], by simp [newF]⟩
/-- a message is added -/
def sendF (x : LEnd) (s : ByteArray) : LEnd × Int := if s.size ≤ 200 ∧ x.sent.length < 100 then ({ x with sent := x.sent ++ [s] }, 0) else (x, 410)
theorem sendF_ok {x : LEnd} (h : x.Ok) (s : ByteArray) : (sendF x s).1.Ok := by
  unfold sendF
  split
  · next hc => exact ⟨h.key, h.other, by simp; omega, by simp only [List.mem_append, List.mem_singleton]; rintro y (hy | rfl); exact h.body _ hy; exact hc.1, by have := h.acked; simp; omega, h.got, h.early⟩
  · exact h
/-- the packets that go out, without seals -/
def bareF (x : LEnd) : List Pkt := if x.acked = x.sent.length then [⟨0, x.got, ⟨#[]⟩, ⟨#[]⟩⟩] else (List.range (min 4 (x.sent.length - x.acked))).map fun i => ⟨(x.acked + i + 1 : Nat), x.got, x.sent.getD (x.acked + i) ⟨#[]⟩, ⟨#[]⟩⟩
def sealed (key : ByteArray) (p : Pkt) : Pkt := { p with sl := sealF key p }
def outF (x : LEnd) : List Pkt := (bareF x).map (sealed x.key)
/-- what is there, in order -/
def drainF : Nat → Nat → (Nat → Option ByteArray) → List ByteArray × Nat × (Nat → Option ByteArray)
  | 0, g, e => ([], g, e)
  | f + 1, g, e => match e (g + 1) with
    | none => ([], g, e)
    | some s => let r := drainF f (g + 1) (fun k => if k = g + 1 then none else e k); (s :: r.1, r.2)
def takeF (x : LEnd) (p : Pkt) : LEnd :=
  let e := if x.early p.ser.toNat = none ∧ x.got + 1 ≤ p.ser ∧ p.ser ≤ x.got + 4 then (fun k => if k = p.ser.toNat then some p.body else x.early k) else x.early
  { x with acked := max x.acked p.ack.toNat, early := e }
def inF (x : LEnd) (p : Pkt) : LEnd × List ByteArray × Int :=
  if genF x.other p = true ∧ p.ack ≤ x.sent.length then
    let y := takeF x p
    let r := drainF 101 y.got y.early
    ({ y with got := r.2.1, early := r.2.2 }, r.1, 0)
  else (x, [], 410)
theorem takeF_ok {x : LEnd} (h : x.Ok) {p : Pkt} (hp : Form p) (ha : p.ack ≤ x.sent.length) : (takeF x p).Ok := by
  refine ⟨h.key, h.other, h.sent, h.body, ?_, h.got, ?_⟩
  · have := h.acked; have := hp.a0; simp only [takeF]; omega
  · intro k s
    simp only [takeF]
    split
    · next hc =>
      simp only
      split
      · next hk =>
        rintro hs
        simp only [Option.some.injEq] at hs
        subst hs
        have := hp.s1; have := hp.body
        exact ⟨by omega, by omega, this⟩
      · exact h.early k s
    · exact h.early k s
theorem drainF_step {f g : Nat} {e : Nat → Option ByteArray} {s : ByteArray} (h : e (g + 1) = some s) : drainF (f + 1) g e = (s :: (drainF f (g + 1) (fun k => if k = g + 1 then none else e k)).1, (drainF f (g + 1) (fun k => if k = g + 1 then none else e k)).2) := by simp [drainF, h]
theorem drainF_stop {f g : Nat} {e : Nat → Option ByteArray} (h : e (g + 1) = none) : drainF f g e = ([], g, e) := by cases f <;> simp [drainF, h]
/-- what may lie in wait -/
def EOk (g : Nat) (e : Nat → Option ByteArray) : Prop := g ≤ 100 ∧ ∀ k s, e k = some s → g < k ∧ k ≤ 100 ∧ s.size ≤ 200
theorem EOk.next {g : Nat} {e : Nat → Option ByteArray} {s : ByteArray} (h : EOk g e) (hs : e (g + 1) = some s) : EOk (g + 1) (fun k => if k = g + 1 then none else e k) := by
  have := h.2 _ _ hs
  refine ⟨by omega, fun k t ht => ?_⟩
  simp only at ht
  split at ht
  · cases ht
  · have := h.2 k t ht; exact ⟨by omega, this.2⟩
theorem EOk.drain : ∀ {f g : Nat} {e : Nat → Option ByteArray}, EOk g e → EOk (drainF f g e).2.1 (drainF f g e).2.2
  | 0, g, e, h => h
  | f + 1, g, e, h => by
    cases hs : e (g + 1) with
    | none => rw [drainF_stop hs]; exact h
    | some s => rw [drainF_step hs]; exact EOk.drain (h.next hs)
theorem inF_ok {x : LEnd} (h : x.Ok) (p : Pkt) : (inF x p).1.Ok := by
  unfold inF
  split
  · next hc =>
    obtain ⟨_, hf, _⟩ := (genF_iff _ _).1 hc.1
    have hy := takeF_ok h hf hc.2
    have hd : EOk (takeF x p).got (takeF x p).early := ⟨hy.got, hy.early⟩
    have := hd.drain (f := 101)
    exact ⟨hy.key, hy.other, hy.sent, hy.body, hy.acked, this.1, this.2⟩
  · exact h
theorem takeF_skip {x : LEnd} {p : Pkt} (h : ¬ (x.early p.ser.toNat = none ∧ x.got + 1 ≤ p.ser ∧ p.ser ≤ x.got + 4)) : (takeF x p).early = x.early := by simp only [takeF]; exact if_neg h
theorem takeF_put {x : LEnd} {p : Pkt} (h : x.early p.ser.toNat = none ∧ x.got + 1 ≤ p.ser ∧ p.ser ≤ x.got + 4) : (takeF x p).early = fun k => if k = p.ser.toNat then some p.body else x.early k := by simp only [takeF]; exact if_pos h
/-- a round of taking what is there in order -/
def LEnd.next (y : LEnd) : LEnd := { y with got := y.got + 1, early := fun k => if k = y.got + 1 then none else y.early k }
/-- how far the taking has come -/
structure Mid (z : LEnd) (f : Nat) (y : LEnd) (ms : List ByteArray) : Prop where
  ok : y.Ok
  same : y = { z with got := y.got, early := y.early }
  fuel : 101 ≤ f + y.got
  few : ms.length ≤ y.got
  run : drainF 101 z.got z.early = (ms ++ (drainF f y.got y.early).1, (drainF f y.got y.early).2)
theorem Mid.start {z : LEnd} (h : z.Ok) : Mid z 101 z [] := ⟨h, rfl, by omega, by simp, rfl⟩
theorem Mid.next {z y : LEnd} {f : Nat} {ms : List ByteArray} {s : ByteArray} (h : Mid z f y ms) (hs : y.early (y.got + 1) = some s) : ∃ f', f = f' + 1 ∧ Mid z f' y.next (ms ++ [s]) := by
  have h1 := h.ok.early _ _ hs
  have h2 := h.fuel
  obtain ⟨f', rfl⟩ : ∃ f', f = f' + 1 := ⟨f - 1, by omega⟩
  have h3 := h.run
  rw [drainF_step hs] at h3
  have ho : EOk y.got y.early := ⟨h.ok.got, h.ok.early⟩
  have hn := ho.next hs
  refine ⟨f', rfl, ⟨h.ok.key, h.ok.other, h.ok.sent, h.ok.body, h.ok.acked, hn.1, hn.2⟩, ?_, ?_, ?_, ?_⟩
  · have := h.same; simp only [LEnd.next]; rw [this]
  · simp only [LEnd.next]; omega
  · have := h.few; simp only [LEnd.next, List.length_append, List.length_singleton]; omega
  · rw [h3]; simp [LEnd.next]
theorem Mid.done {x y : LEnd} {p : Pkt} {f : Nat} {ms : List ByteArray} (h : Mid (takeF x p) f y ms) (hs : y.early (y.got + 1) = none) (hg : genF x.other p = true) (ha : p.ack ≤ x.sent.length) : inF x p = (y, ms, 0) := by
  unfold inF
  rw [if_pos ⟨hg, ha⟩]
  have h1 := h.run
  rw [drainF_stop hs] at h1
  simp only [h1, List.append_nil]
  rw [← h.same]
theorem inF_no {x : LEnd} {p : Pkt} (h : ¬ (genF x.other p = true ∧ p.ack ≤ x.sent.length)) : inF x p = (x, [], 410) := if_neg h

/-! packets in memory -/
instance : Enc Pkt where
  sz := 4
  rep := fun _ cs p => cs = p.cells
  len := fun h => by rw [h]; rfl
  mono := fun _ h => h
  one := fun h v hv => by rw [h] at hv; simp at hv; rcases hv with rfl | rfl | rfl | rfl <;> rfl
theorem Arr.pkt {I : Im} {a : Option Addr} {ps : List Pkt} (h : Arr I a ps) {j : Nat} (hj : j < ps.length) (i : Nat) (v : Value) (hv : (ps[j].cells)[i]? = some v) : At I a (j * 4 + i) v := by
  obtain ⟨cs, h1, h2⟩ := h j hj
  exact h2 i v (by rw [show cs = ps[j].cells from h1]; exact hv)
def pktC (ps : List Pkt) : List Value := ps.flatMap Pkt.cells
theorem pktC_append (a b : List Pkt) : pktC (a ++ b) = pktC a ++ pktC b := by simp [pktC]
theorem pktC_len (ps : List Pkt) : (pktC ps).length = ps.length * 4 := by
  induction ps with
  | nil => rfl
  | cons x ps ih => simp only [pktC, List.flatMap_cons, List.length_append] at *; rw [ih]; simp; omega
theorem pktC_one (ps : List Pkt) : ∀ v ∈ pktC ps, v.oneCell' = true := by
  intro v hv
  simp only [pktC, List.mem_flatMap] at hv
  obtain ⟨p, _, hv⟩ := hv
  simp at hv; rcases hv with rfl | rfl | rfl | rfl <;> rfl
theorem flat_pkt (I : Im) : ∀ (ps : List Pkt), Flat I (pktC ps) ps
  | [] => .nil
  | x :: ps => by
    have := Flat.cons (α := Pkt) (I := I) (cs := x.cells) (x := x) rfl (flat_pkt I ps)
    simpa [pktC] using this
theorem pktC_at (ps : List Pkt) {j : Nat} (hj : j < ps.length) : ∀ i v, (ps[j].cells)[i]? = some v → (pktC ps)[j * 4 + i]? = some v := by
  obtain ⟨ds, h1, h2⟩ := (flat_pkt (fun _ => none) ps).at_ j hj
  rw [show ds = ps[j].cells from h1] at h2
  exact h2
theorem pktC_set : ∀ (ps : List Pkt) {j : Nat} (f : Pkt → Pkt) {i : Nat} {v : Value}, j < ps.length → i < 4 → (∀ x : Pkt, x ∈ ps[j]? → (f x).cells = x.cells.set i v) → (pktC ps).set (j * 4 + i) v = pktC (ps.modify j f)
  | [], j, f, i, v, h, _, _ => by simp at h
  | x :: ps, 0, f, i, v, h, hi, hf => by
    have := hf x (by simp)
    simp only [pktC, List.flatMap_cons, List.modify_zero_cons, this]
    rw [List.set_append_left]
    · simp
    · simp; omega
  | x :: ps, j + 1, f, i, v, h, hi, hf => by
    have ih := pktC_set ps (j := j) f (i := i) (v := v) (by simpa using h) hi (by simpa using hf)
    simp only [pktC, List.flatMap_cons, List.modify_succ_cons] at ih ⊢
    rw [List.set_append_right _ _ (by simp; omega), ← ih]
    congr 2
    simp; omega
theorem modify_map {α : Type} (f : α → α) : ∀ (l : List α) {i : Nat}, i < l.length → ((l.take i).map f ++ l.drop i).modify i f = (l.take (i + 1)).map f ++ l.drop (i + 1)
  | [], i, h => by simp at h
  | x :: l, 0, _ => by simp
  | x :: l, i + 1, h => by simpa using modify_map f l (i := i) (by simpa using h)
/-- how many go out -/
def LEnd.many (x : LEnd) : Nat := min 4 (x.sent.length - x.acked)
theorem bareF_len (x : LEnd) : (bareF x).length ≤ 4 := by unfold bareF; split <;> simp; omega
theorem bareF_wait {x : LEnd} (h : ¬ x.acked = x.sent.length) : (bareF x).length = x.many := by simp [bareF, h, LEnd.many]
theorem bareF_none {x : LEnd} (h : x.acked = x.sent.length) : bareF x = [⟨0, x.got, ⟨#[]⟩, ⟨#[]⟩⟩] := by simp [bareF, h]
theorem bareF_get {x : LEnd} (h : ¬ x.acked = x.sent.length) {k : Nat} (hk : k < (bareF x).length) : (bareF x)[k] = ⟨(x.acked + k + 1 : Nat), x.got, x.sent.getD (x.acked + k) ⟨#[]⟩, ⟨#[]⟩⟩ := by
  simp only [bareF, if_neg h] at hk ⊢
  simp
theorem bareF_in {x : LEnd} (h : x.Ok) : ∀ p ∈ bareF x, p.In := by
  intro p hp
  have hg := h.got; have ha := h.acked; have hs := h.sent
  unfold bareF at hp
  split at hp
  · simp only [List.mem_singleton] at hp; subst hp; exact ⟨by simp, by simp; omega, by show 0 ≤ _; omega⟩
  · simp only [List.mem_map, List.mem_range] at hp
    obtain ⟨i, hi, rfl⟩ := hp
    refine ⟨by simp only; omega, by simp only; omega, ?_⟩
    have := h.body _ (getD_mem (l := x.sent) (i := x.acked + i) (d := ⟨#[]⟩) (by omega))
    simp only; omega
/-- the first ones changed -/
def partF (f : Pkt → Pkt) (l : List Pkt) (i : Nat) : List Pkt := (l.take i).map f ++ l.drop i
theorem partF_len (f : Pkt → Pkt) (l : List Pkt) (i : Nat) : (partF f l i).length = l.length := by simp [partF]; omega
theorem partF_get (f : Pkt → Pkt) (l : List Pkt) {i : Nat} (h : i < l.length) : (partF f l i)[i]'(by rw [partF_len]; exact h) = l[i] := by
  simp only [partF]
  rw [List.getElem_append_right (by simp; omega)]
  simp [Nat.min_eq_left (Nat.le_of_lt h)]
theorem partF_next (f : Pkt → Pkt) (l : List Pkt) {i : Nat} (h : i < l.length) : (partF f l i).modify i f = partF f l (i + 1) := modify_map f l h
theorem partF_all (f : Pkt → Pkt) (l : List Pkt) : partF f l l.length = l.map f := by simp [partF]
theorem partF_cell {f : Pkt → Pkt} {l : List Pkt} {i : Nat} (h : i < l.length) : ∀ j v, (l[i].cells)[j]? = some v → (pktC (partF f l i))[i * 4 + j]? = some v := fun j v hj =>
  pktC_at (partF f l i) (j := i) (by rw [partF_len]; exact h) j v (by rw [partF_get f l h]; exact hj)
theorem partF_seal {k : ByteArray} {l : List Pkt} {i : Nat} (h : i < l.length) : (pktC (partF (sealed k) l i)).set (i * 4 + 3) (.string (sealF k l[i])) = pktC (partF (sealed k) l (i + 1)) := by
  rw [pktC_set (partF (sealed k) l i) (sealed k) (by rw [partF_len]; exact h) (by decide) (fun x hx => ?_), partF_next _ _ h]
  rw [List.getElem?_eq_getElem (by rw [partF_len]; exact h), partF_get _ _ h] at hx
  simp only [Option.mem_def, Option.some.injEq] at hx
  subst hx; rfl
theorem perm3 (A B C : Own) : (A ++ B ++ C).Perm (B ++ (A ++ C)) := by
  rw [List.append_assoc]; exact (List.perm_append_comm_assoc A B C)
theorem perm3b (A B C : Own) : (B ++ (A ++ C)).Perm (A ++ B ++ C) := (perm3 A B C).symm
/-- where an end lies -/
structure EH where
  V : Vec
  mb : Nat
  es : Array MapEntry
  ck : Nat
@[reducible] def endL (b : Nat) (x : LEnd) (h : EH) : Own := [some (b, .cells #[.string x.key, .string x.other, h.V.val, .int .i64 (x.acked : Int), .int .i64 (x.got : Int), .map (some h.mb)] 73 (0, 0)), h.V.ent 9, some (h.mb, .map h.es h.ck)]
structure EndIs (x : LEnd) (h : EH) : Prop where
  vec : h.V.Is 1 (strC x.sent)
  map : ∃ l, MapIs h.es l ∧ (l.map Prod.fst).Nodup ∧ ∀ k : Nat, Xe.look (k : Int) l = x.early k
  ok : x.Ok
theorem EndIs.skip {x : LEnd} {h : EH} {p : Pkt} (hE : EndIs x h) (hf : Form p) (ha : p.ack ≤ x.sent.length) (hn : ¬ (x.early p.ser.toNat = none ∧ x.got + 1 ≤ p.ser ∧ p.ser ≤ x.got + 4)) : EndIs (takeF x p) h :=
  ⟨hE.vec, by rw [takeF_skip hn]; exact hE.map, takeF_ok hE.ok hf ha⟩
theorem EndIs.put {x : LEnd} {h : EH} {p : Pkt} {l : KV} {es : Array MapEntry} {ck : Nat} (hE : EndIs x h) (hf : Form p) (ha : p.ack ≤ x.sent.length) (hy : x.early p.ser.toNat = none ∧ x.got + 1 ≤ p.ser ∧ p.ser ≤ x.got + 4)
    (hn : (l.map Prod.fst).Nodup) (hl : ∀ k : Nat, Xe.look (k : Int) l = x.early k) (hm : MapIs es (l ++ [(p.ser, p.body)])) : EndIs (takeF x p) { h with es := es, ck := ck } := by
  have h0 := hf.s0
  have hk : Xe.look p.ser l = none := by have := hl p.ser.toNat; rw [Int.toNat_of_nonneg h0] at this; rw [this]; exact hy.1
  refine ⟨hE.vec, ⟨_, hm, snoc_nodup hn hk, fun k => ?_⟩, takeF_ok hE.ok hf ha⟩
  rw [takeF_put hy, look_snoc, hl k]
  by_cases hkp : k = p.ser.toNat
  · subst hkp
    rw [hy.1]; simp [Int.toNat_of_nonneg h0]
  · have : ¬ (k : Int) = p.ser := by omega
    simp only [if_neg hkp, if_neg this]
    cases x.early k <;> rfl
theorem EndIs.next {y : LEnd} {h : EH} {l : KV} {es : Array MapEntry} (hE : EndIs y h) (hok : y.next.Ok) (hn : (l.map Prod.fst).Nodup) (hl : ∀ k : Nat, Xe.look (k : Int) l = y.early k) (hm : MapIs es (dele ((y.got + 1 : Nat) : Int) l)) : EndIs y.next { h with es := es } := by
  refine ⟨hE.vec, ⟨_, hm, dele_nodup hn, fun k => ?_⟩, hok⟩
  rw [look_dele hn, hl k]
  by_cases hk : k = y.got + 1
  · subst hk; simp [LEnd.next]
  · have : ¬ (k : Int) = ((y.got + 1 : Nat) : Int) := by omega
    rw [if_neg this]; simp [LEnd.next, hk]
theorem EndIs.len {x : LEnd} {h : EH} (hE : EndIs x h) : h.V.len = x.sent.length := by have := hE.vec.len; rw [strC_len] at this; omega
end Go.Lk
