/- Packets that arrive: what is there afterwards does not depend on their order, nor on how often they come. -/
import Derived.Test.YtkjhhifhgcihpaaDoorK3
namespace Go.Lk
open Go Go.Xe Go.Sh

/-- nothing lies in wait that could be received -/
def Calm (y : LEnd) : Prop := y.early (y.got + 1) = none
theorem drain_calm : ∀ (f g : Nat) (e : Nat → Option ByteArray), EOk g e → 101 ≤ f + g → (drainF f g e).2.2 ((drainF f g e).2.1 + 1) = none
  | 0, g, e, h, hf => by have := h.1; omega
  | f + 1, g, e, h, hf => by
    cases hs : e (g + 1) with
    | none => rw [drainF_stop hs]; exact hs
    | some s => rw [drainF_step hs]; exact drain_calm f (g + 1) _ (h.next hs) (by omega)
theorem inF_calm {y : LEnd} (h : y.Ok) (hc : Calm y) (p : Pkt) : Calm (inF y p).1 := by
  unfold inF
  split
  · next hp =>
    obtain ⟨_, hf, _⟩ := (genF_iff _ _).1 hp.1
    have hy := takeF_ok h hf hp.2
    exact drain_calm 101 (takeF y p).got (takeF y p).early ⟨hy.got, hy.early⟩ (by omega)
  · exact hc
theorem sendF_calm {y : LEnd} (hc : Calm y) (s : ByteArray) : Calm (sendF y s).1 := by
  unfold sendF; split <;> exact hc
theorem delF_calm {x : Nat → LEnd} (hs : Sys x) {n : Nat} (hn : n < 2) (hc : Calm (x (1 - n))) (d : Int) : ∀ k, k ≤ (outF (x n)).length → Calm (delF d (outF (x n)) (x (1 - n)) k)
  | 0, _ => hc
  | k + 1, hk => by
    have ih := delF_calm hs hn hc d k (by omega)
    have hok := (del_sys hs hn d k (by omega)).1.ok (1 - n) (by omega)
    rw [upd_self] at hok
    rw [delF_succ]; split
    · exact inF_calm hok ih _
    · exact ih
theorem run_calm (ops : List Q4) : ∀ k, k ≤ 12 → ∀ n, n < 2 → Calm (runF ops k n)
  | 0, _ => fun _ _ => rfl
  | k + 1, hk => by
    have ih := run_calm ops k (by omega)
    have hS := (run_sys ops k (by omega)).1
    by_cases h : k < ops.length
    · rw [runF_succ h]
      intro m hm
      have hn := pick2 ops[k].a
      unfold stepF
      by_cases hb : pickI ops[k].b 2 = 0
      · simp only [if_pos hb]
        by_cases he : m = (pickI ops[k].a 2).toNat
        · subst he; rw [upd_self]; exact sendF_calm (ih _ hn) _
        · rw [upd_other _ _ he]; exact ih m hm
      · simp only [if_neg hb]
        by_cases he : m = 1 - (pickI ops[k].a 2).toNat
        · rw [he, upd_self]; exact delF_calm hS hn (ih _ (by omega)) _ _ (Nat.le_refl _)
        · rw [upd_other _ _ he]; exact ih m hm
    · have e : runF ops (k + 1) = runF ops k := by simp only [runF]; rw [List.take_of_length_le (by omega), List.take_of_length_le (by omega)]
      rw [e]; exact ih
/-- what an end has, received or in wait -/
def has (y : LEnd) (k : Nat) : Prop := k ≤ y.got ∨ y.early k ≠ none
theorem drain_has : ∀ (f g : Nat) (e : Nat → Option ByteArray) (k : Nat), (k ≤ (drainF f g e).2.1 ∨ (drainF f g e).2.2 k ≠ none) ↔ (k ≤ g ∨ e k ≠ none)
  | 0, g, e, k => Iff.rfl
  | f + 1, g, e, k => by
    cases hs : e (g + 1) with
    | none => rw [drainF_stop hs]
    | some s =>
      rw [drainF_step hs]
      refine (drain_has f (g + 1) _ k).trans ?_
      by_cases hk : k = g + 1
      · subst hk; simp [hs]
      · simp only [if_neg hk]
        constructor
        · rintro (h | h)
          · exact .inl (by omega)
          · exact .inr h
        · rintro (h | h)
          · exact .inl (by omega)
          · exact .inr h
/-- two ends that have the same are the same -/
theorem ends_eq {y z : LEnd} {l : List ByteArray} (hy : y.Ok) (hz : z.Ok) (cy : Calm y) (cz : Calm z) (vy : ∀ k t, y.early k = some t → l[k - 1]? = some t) (vz : ∀ k t, z.early k = some t → l[k - 1]? = some t)
    (hh : ∀ k, has y k ↔ has z k) (hk : y.key = z.key) (ho : y.other = z.other) (hs : y.sent = z.sent) (ha : y.acked = z.acked) : y = z := by
  have noy : ∀ k, k ≤ y.got → y.early k = none := fun k h => by
    cases hc : y.early k with
    | none => rfl
    | some t => have := (hy.early k t hc).1; omega
  have noz : ∀ k, k ≤ z.got → z.early k = none := fun k h => by
    cases hc : z.early k with
    | none => rfl
    | some t => have := (hz.early k t hc).1; omega
  have hg : y.got = z.got := by
    rcases Nat.lt_trichotomy y.got z.got with h | h | h
    · have := (hh (y.got + 1)).2 (.inl h)
      rcases this with h1 | h1
      · omega
      · exact absurd cy h1
    · exact h
    · have := (hh (z.got + 1)).1 (.inl h)
      rcases this with h1 | h1
      · omega
      · exact absurd cz h1
  have he : y.early = z.early := by
    funext k
    by_cases hkg : k ≤ y.got
    · rw [noy k hkg, noz k (by omega)]
    · have h1 := hh k
      simp only [has, hkg, false_or, show ¬ k ≤ z.got by omega] at h1
      cases h2 : y.early k with
      | none =>
        cases h3 : z.early k with
        | none => rfl
        | some t => exact absurd h2 (h1.2 (by rw [h3]; simp))
      | some s =>
        cases h3 : z.early k with
        | none => exact absurd h3 (h1.1 (by rw [h2]; simp))
        | some t => rw [← vy k s h2, ← vz k t h3]
  obtain ⟨a, b, c, d, e, f⟩ := y
  obtain ⟨a', b', c', d', e', f'⟩ := z
  simp only at hk ho hs ha hg he
  subst hk; subst ho; subst hs; subst ha; subst hg; subst he; rfl
theorem in_has {y : LEnd} {p : Pkt} (hc : genF y.other p = true ∧ p.ack ≤ y.sent.length) (hw : p.ser ≤ y.got + 4) (k : Nat) : has (inF y p).1 k ↔ has y k ∨ k = p.ser.toNat := by
  obtain ⟨_, hf, _⟩ := (genF_iff _ _).1 hc.1
  have h0 := hf.s0
  rw [show inF y p = ({ takeF y p with got := (drainF 101 (takeF y p).got (takeF y p).early).2.1, early := (drainF 101 (takeF y p).got (takeF y p).early).2.2 }, (drainF 101 (takeF y p).got (takeF y p).early).1, 0) from if_pos hc]
  show (k ≤ (drainF 101 (takeF y p).got (takeF y p).early).2.1 ∨ (drainF 101 (takeF y p).got (takeF y p).early).2.2 k ≠ none) ↔ _
  rw [drain_has]
  show (k ≤ y.got ∨ (takeF y p).early k ≠ none) ↔ (k ≤ y.got ∨ y.early k ≠ none) ∨ k = p.ser.toNat
  by_cases ht : y.early p.ser.toNat = none ∧ y.got + 1 ≤ p.ser ∧ p.ser ≤ y.got + 4
  · rw [takeF_put ht]
    by_cases hk : k = p.ser.toNat
    · simp [hk]
    · simp [hk]
  · rw [takeF_skip ht]
    constructor
    · exact .inl
    · rintro (h | rfl)
      · exact h
      · by_cases hg : p.ser.toNat ≤ y.got
        · exact .inl hg
        · exact .inr fun hn => ht ⟨hn, by omega, hw⟩
theorem Sys.congr {x z : Nat → LEnd} (h : Sys x) (e : ∀ k, k < 2 → x k = z k) : Sys z where
  ok := fun n hn => by rw [← e n hn]; exact h.ok n hn
  key := fun n hn => by rw [← e n hn]; exact h.key n hn
  other := fun n hn => by rw [← e n hn]; exact h.other n hn
  got := fun n hn => by rw [← e n hn, ← e (1 - n) (by omega)]; exact h.got n hn
  acked := fun n hn => by rw [← e n hn, ← e (1 - n) (by omega)]; exact h.acked n hn
  early := fun n hn => by rw [← e n hn, ← e (1 - n) (by omega)]; exact h.early n hn
/-- the end n and what the other one has become -/
def two (n : Nat) (s y : LEnd) : Nat → LEnd := fun k => if k = n then s else y
theorem two_self (n : Nat) (s y : LEnd) : two n s y n = s := by simp [two]
theorem two_other {n : Nat} (hn : n < 2) (s y : LEnd) : two n s y (1 - n) = y := by simp only [two]; rw [if_neg (by omega)]
theorem two_of {x : Nat → LEnd} {n k : Nat} (hn : n < 2) (hk : k < 2) : x k = two n (x n) (x (1 - n)) k := by
  simp only [two]; split
  · next h => rw [h]
  · rw [show k = 1 - n by omega]
structure Rec (n : Nat) (s y : LEnd) : Prop where
  sys : Sys (two n s y)
  calm : Calm y
theorem out_win {x : LEnd} {p : Pkt} (hp : p ∈ outF x) : p.ser ≤ x.acked + 4 := by
  simp only [outF, List.mem_map] at hp
  obtain ⟨b, hb, rfl⟩ := hp
  unfold bareF at hb
  split at hb
  · simp only [List.mem_singleton] at hb; subst hb; simp only [sealed]; omega
  · simp only [List.mem_map, List.mem_range] at hb
    obtain ⟨i, hi, rfl⟩ := hb
    simp only [sealed]; omega
theorem Rec.start (ops : List Q4) {n : Nat} (hn : n < 2) : Rec n (busyF ops n) (busyF ops (1 - n)) :=
  ⟨(busy_sys ops).1.congr (fun _ hk => two_of hn hk), run_calm ops 12 (Nat.le_refl _) _ (by omega)⟩
structure InRec (n : Nat) (s y z : LEnd) (ms : List ByteArray) (p : Pkt) : Prop where
  is : Rec n s z
  many : ms = (s.sent.drop y.got).take ms.length
  got : z.got = y.got + ms.length
  sent : z.sent = y.sent
  acked : z.acked = max y.acked s.got
  has : ∀ k, has z k ↔ has y k ∨ k = p.ser.toNat
theorem Rec.in_ {n : Nat} {s y : LEnd} (hn : n < 2) (h : Rec n s y) {p : Pkt} (hp : p ∈ outF s) : ∃ z ms, inF y p = (z, ms, 0) ∧ InRec n s y z ms p := by
  have hp' : p ∈ outF (two n s y n) := by rw [two_self]; exact hp
  obtain ⟨g1, g2, g3, g4⟩ := out_of h.sys hn hp'
  have hi := in_sys h.sys hn g1 g2 (by rw [g3]; exact Int.le_refl _) (g4.imp id And.right)
  have hm : 1 - n < 2 := by omega
  have hoth := h.sys.other (1 - n) hm
  rw [two_self] at g3
  have hgot := h.sys.got n hn
  have hack := h.sys.acked n hn
  have hok := h.sys.ok (1 - n) hm
  rw [two_self, two_other hn] at hgot hack
  rw [two_other hn] at hoth hok
  rw [two_other hn, two_self] at hi
  obtain ⟨i1, i2, i3, i4, i5⟩ := hi
  have hcond : genF y.other p = true ∧ p.ack ≤ y.sent.length := ⟨by rw [hoth, show 1 - (1 - n) = n by omega]; exact g1, by rw [g3]; omega⟩
  have hw := out_win hp
  refine ⟨(inF y p).1, (inF y p).2.1, Prod.ext rfl (Prod.ext rfl i1), ⟨i2.congr (fun k hk => ?_), inF_calm hok h.calm p⟩, i3, i4, i5, ?_, in_has hcond (by omega)⟩
  · simp only [upd, two]
    split
    · next e => rw [if_neg (by omega)]
    · rw [if_pos (by omega), if_pos (by omega)]
  · rw [show inF y p = ({ takeF y p with got := (drainF 101 (takeF y p).got (takeF y p).early).2.1, early := (drainF 101 (takeF y p).got (takeF y p).early).2.2 }, (drainF 101 (takeF y p).got (takeF y p).early).1, 0) from if_pos hcond]
    show max y.acked p.ack.toNat = _
    rw [g3]; simp
theorem Rec.eq {n : Nat} {s y z : LEnd} (hn : n < 2) (hy : Rec n s y) (hz : Rec n s z) (hh : ∀ k, has y k ↔ has z k) (hs : y.sent = z.sent) (ha : y.acked = z.acked) : y = z := by
  have hm : 1 - n < 2 := by omega
  have f1 := hy.sys.ok (1 - n) hm
  have f2 := hz.sys.ok (1 - n) hm
  have f3 := hy.sys.early (1 - n) hm
  have f4 := hz.sys.early (1 - n) hm
  have f5 := hy.sys.key (1 - n) hm
  have f6 := hz.sys.key (1 - n) hm
  have f7 := hy.sys.other (1 - n) hm
  have f8 := hz.sys.other (1 - n) hm
  rw [show 1 - (1 - n) = n by omega] at f3 f4
  rw [two_other hn] at f1 f2 f3 f4 f5 f6 f7 f8
  rw [two_self] at f3 f4
  exact ends_eq f1 f2 hy.calm hz.calm f3 f4 hh (f5.trans f6.symm) (f7.trans f8.symm) hs ha
/-- again -/
theorem Rec.again {n : Nat} {s y z : LEnd} {ms : List ByteArray} {p : Pkt} (hn : n < 2) (h : Rec n s y) (hp : p ∈ outF s) (hi : inF y p = (z, ms, 0)) : Rec n s z ∧ inF z p = (z, [], 0) := by
  obtain ⟨z', ms', e, r⟩ := h.in_ hn hp
  obtain ⟨rfl, rfl⟩ : z = z' ∧ ms = ms' := by rw [hi] at e; simp only [Prod.mk.injEq] at e; exact ⟨e.1, e.2.1⟩
  obtain ⟨w, ns, e2, r2⟩ := r.is.in_ hn hp
  have hw : w = z := Rec.eq hn r2.is r.is (fun k => by rw [r2.has]; constructor; rintro (h | rfl); exact h; exact (r.has _).2 (.inr rfl); exact .inl) r2.sent (by rw [r2.acked, r.acked]; omega)
  subst hw
  have h0 : ns = [] := List.length_eq_zero_iff.1 (by have := r2.got; omega)
  exact ⟨r.is, by rw [e2, h0]⟩
/-- packets that arrive one after the other -/
def arrF (y : LEnd) (ps : List Pkt) : LEnd × List ByteArray := ps.foldl (fun r p => ((inF r.1 p).1, r.2 ++ (inF r.1 p).2.1)) (y, [])
theorem arrF_snoc (y : LEnd) (ps : List Pkt) (p : Pkt) : arrF y (ps ++ [p]) = ((inF (arrF y ps).1 p).1, (arrF y ps).2 ++ (inF (arrF y ps).1 p).2.1) := by simp [arrF]
theorem snoc_ind {α : Type} {C : List α → Prop} (h0 : C []) (h1 : ∀ l a, C l → C (l ++ [a])) (l : List α) : C l := by
  rw [← l.reverse_reverse]
  induction l.reverse with
  | nil => exact h0
  | cons a l ih => rw [List.reverse_cons]; exact h1 _ _ ih
structure ArrRec (n : Nat) (s y : LEnd) (ps : List Pkt) : Prop where
  is : Rec n s (arrF y ps).1
  many : (arrF y ps).2 = (s.sent.drop y.got).take (arrF y ps).2.length
  got : (arrF y ps).1.got = y.got + (arrF y ps).2.length
  sent : (arrF y ps).1.sent = y.sent
  acked : (arrF y ps).1.acked = if ps = [] then y.acked else max y.acked s.got
  has : ∀ k, has (arrF y ps).1 k ↔ has y k ∨ ∃ p ∈ ps, k = p.ser.toNat
theorem arr_rec {n : Nat} {s y : LEnd} (hn : n < 2) (h : Rec n s y) (ps : List Pkt) : (∀ p ∈ ps, p ∈ outF s) → ArrRec n s y ps := by
  refine snoc_ind (C := fun ps => (∀ p ∈ ps, p ∈ outF s) → ArrRec n s y ps) (fun _ => ⟨h, by simp [arrF], by simp [arrF], rfl, by simp [arrF], by simp [arrF]⟩) (fun ps p ih hps => ?_) ps
  have r := ih fun q hq => hps q (by simp [hq])
  obtain ⟨z, ms, e, r2⟩ := r.is.in_ hn (hps p (by simp))
  have he : arrF y (ps ++ [p]) = (z, (arrF y ps).2 ++ ms) := by rw [arrF_snoc, e]
  refine ⟨by rw [he]; exact r2.is, ?_, ?_, ?_, ?_, ?_⟩
  · rw [he]
    show (arrF y ps).2 ++ ms = (s.sent.drop y.got).take ((arrF y ps).2 ++ ms).length
    rw [List.length_append, List.take_add, List.drop_drop, ← r.many, ← r.got, ← r2.many]
  · rw [he]; show z.got = _; rw [r2.got, r.got, List.length_append]; omega
  · rw [he]; exact r2.sent.trans r.sent
  · rw [he]; show z.acked = _; rw [r2.acked, r.acked]
    rw [if_neg (show ¬ ps ++ [p] = [] by simp)]; split <;> omega
  · intro k; rw [he]; refine (r2.has k).trans ?_
    rw [r.has k]
    simp only [List.mem_append, List.mem_singleton]
    constructor
    · rintro ((h | ⟨q, hq, h⟩) | h)
      · exact .inl h
      · exact .inr ⟨q, .inl hq, h⟩
      · exact .inr ⟨p, .inr rfl, h⟩
    · rintro (h | ⟨q, hq | rfl, h⟩)
      · exact .inl (.inl h)
      · exact .inl (.inr ⟨q, hq, h⟩)
      · exact .inr h
/-- in whatever order -/
theorem arr_perm {n : Nat} {s y : LEnd} (hn : n < 2) (h : Rec n s y) {ps qs : List Pkt} (hp : ∀ p ∈ ps, p ∈ outF s) (hq : ps.Perm qs) : arrF y ps = arrF y qs := by
  have r1 := arr_rec hn h ps hp
  have r2 := arr_rec hn h qs (fun p hm => hp p (hq.mem_iff.2 hm))
  have he : ps = [] ↔ qs = [] := ⟨fun e => by subst e; exact hq.nil_eq.symm ▸ rfl, fun e => by subst e; exact hq.eq_nil⟩
  have h1 : (arrF y ps).1 = (arrF y qs).1 := Rec.eq hn r1.is r2.is (fun k => by
    rw [r1.has, r2.has]
    constructor
    · rintro (h | ⟨q, hm, h⟩)
      · exact .inl h
      · exact .inr ⟨q, hq.mem_iff.1 hm, h⟩
    · rintro (h | ⟨q, hm, h⟩)
      · exact .inl h
      · exact .inr ⟨q, hq.mem_iff.2 hm, h⟩) (r1.sent.trans r2.sent.symm) (by rw [r1.acked, r2.acked]; simp only [he])
  have h2 : (arrF y ps).2 = (arrF y qs).2 := by
    have g1 := r1.got; have g2 := r2.got
    rw [r1.many, r2.many, show (arrF y ps).2.length = (arrF y qs).2.length by rw [h1] at g1; omega]
  exact Prod.ext h1 h2
end Go.Lk
