/- Two ends, and what becomes of them, told plainly. -/
import Derived.Test.YtkjhhifhgcihpaaDoorK1
namespace Go.Lk
open Go Go.Xe Go.Sh

/-- two ends that stand in the order of the law -/
structure Sys (x : Nat → LEnd) : Prop where
  ok : ∀ n, n < 2 → (x n).Ok
  key : ∀ n, n < 2 → (x n).key = keyB n
  other : ∀ n, n < 2 → (x n).other = keyB (1 - n : Nat)
  got : ∀ n, n < 2 → (x n).got ≤ (x (1 - n)).sent.length
  acked : ∀ n, n < 2 → (x n).acked ≤ (x (1 - n)).got
  early : ∀ n, n < 2 → ∀ k s, (x n).early k = some s → (x (1 - n)).sent[k - 1]? = some s
/-- a pointer to a block's begin -/
structure PB where
  b : Nat
instance : Enc PB where
  sz := 1
  rep := fun _ cs p => cs = [.pointer (some ⟨p.b, 0, none⟩)]
  len := fun h => by rw [h]; rfl
  mono := fun _ h => h
  one := fun h v hv => by rw [h] at hv; simp at hv; subst hv; rfl
theorem Arr.ptr {I : Im} {a : Option Addr} {bk : Nat → Nat} (h : Arr I a [PB.mk (bk 0), PB.mk (bk 1)]) : ∀ {n : Nat}, n < 2 → At I a n (.pointer (some ⟨bk n, 0, none⟩))
  | 0, _ => by
    obtain ⟨cs, h1, h2⟩ := h 0 (Nat.succ_pos 1)
    exact h2 0 _ (by rw [show cs = [.pointer (some ⟨bk 0, 0, none⟩)] from h1]; rfl)
  | 1, _ => by
    obtain ⟨cs, h1, h2⟩ := h 1 (Nat.lt_succ_self 1)
    exact h2 0 _ (by rw [show cs = [.pointer (some ⟨bk 1, 0, none⟩)] from h1]; rfl)
def upd {α : Type} (f : Nat → α) (n : Nat) (v : α) : Nat → α := fun k => if k = n then v else f k
theorem upd_self {α : Type} (f : Nat → α) (n : Nat) (v : α) : upd f n v n = v := by simp [upd]
theorem upd_other {α : Type} (f : Nat → α) {n k : Nat} (v : α) (h : k ≠ n) : upd f n v k = f k := by simp [upd, h]
def twoL (b : Nat → Nat) (x : Nat → LEnd) (h : Nat → EH) : Own := endL (b 0) (x 0) (h 0) ++ endL (b 1) (x 1) (h 1)
theorem twoL_out {b : Nat → Nat} {x : Nat → LEnd} {h : Nat → EH} {n : Nat} (hn : n < 2) : (twoL b x h).Perm (endL (b n) (x n) (h n) ++ endL (b (1 - n)) (x (1 - n)) (h (1 - n))) := by
  match n, hn with
  | 0, _ => exact List.Perm.refl _
  | 1, _ => exact List.perm_append_comm
theorem twoL_in {b : Nat → Nat} {x : Nat → LEnd} {h : Nat → EH} {n : Nat} {y : LEnd} {h' : EH} (hn : n < 2) : (endL (b n) y h' ++ endL (b (1 - n)) (x (1 - n)) (h (1 - n))).Perm (twoL b (upd x n y) (upd h n h')) := by
  match n, hn with
  | 0, _ => exact List.Perm.refl _
  | 1, _ => exact List.perm_append_comm
/-- one call of 'busy' -/
def bitF (d : Int) (k : Nat) : Bool := decide ((pickI d 16).toNat / 2 ^ (k % 4) % 2 = 0)
def delF (d : Int) (out : List Pkt) (y : LEnd) (k : Nat) : LEnd := (List.range k).foldl (fun y j => if bitF d j then (inF y (out.getD j ⟨0, 0, ⟨#[]⟩, ⟨#[]⟩⟩)).1 else y) y
theorem delF_succ (d : Int) (out : List Pkt) (y : LEnd) (k : Nat) : delF d out y (k + 1) = if bitF d k then (inF (delF d out y k) (out.getD k ⟨0, 0, ⟨#[]⟩, ⟨#[]⟩⟩)).1 else delF d out y k := by
  simp [delF, List.range_succ]
def stepF (x : Nat → LEnd) (q : Q4) : Nat → LEnd :=
  let n := (pickI q.a 2).toNat
  if pickI q.b 2 = 0 then upd x n (sendF (x n) (bodyB q.c)).1 else upd x (1 - n) (delF q.d (outF (x n)) (x (1 - n)) (outF (x n)).length)
def startF : Nat → LEnd := fun n => newF (keyB n) (keyB (1 - n : Nat))
def busyF (ops : List Q4) : Nat → LEnd := (ops.take 12).foldl stepF startF
theorem startF_sys : Sys startF where
  ok := fun n _ => newF_ok (keyB_size _) (keyB_size _)
  key := fun n _ => rfl
  other := fun n _ => rfl
  got := fun n _ => Nat.zero_le _
  acked := fun n _ => Nat.zero_le _
  early := fun n _ k s h => by simp [startF, newF] at h
/-- what an end has in wait, and has received, is of the other's messages -/
theorem drain_of {sent : List ByteArray} : ∀ (f g : Nat) (e : Nat → Option ByteArray), g ≤ sent.length → (∀ k s, e k = some s → sent[k - 1]? = some s) →
    (drainF f g e).1 = (sent.drop g).take (drainF f g e).1.length ∧ (drainF f g e).2.1 = g + (drainF f g e).1.length ∧ (drainF f g e).2.1 ≤ sent.length ∧ (∀ k s, (drainF f g e).2.2 k = some s → sent[k - 1]? = some s)
  | 0, g, e, hg, he => ⟨by simp [drainF], by simp [drainF], hg, he⟩
  | f + 1, g, e, hg, he => by
    cases hs : e (g + 1) with
    | none => rw [drainF_stop hs]; exact ⟨by simp, by simp, hg, he⟩
    | some s =>
      rw [drainF_step hs]
      have h1 : sent[g]? = some s := by simpa using he _ _ hs
      obtain ⟨h2, h3⟩ := List.getElem?_eq_some_iff.1 h1
      have ih := drain_of (sent := sent) f (g + 1) (fun k => if k = g + 1 then none else e k) (by omega) (fun k t ht => by
        have ht' : (if k = g + 1 then none else e k) = some t := ht
        split at ht'
        · cases ht'
        · exact he k t ht')
      obtain ⟨i1, i2, i3, i4⟩ := ih
      refine ⟨?_, ?_, i3, i4⟩
      · rw [List.drop_eq_getElem_cons h2, h3]
        simp only [List.length_cons, List.take_succ_cons]
        rw [← i1]
      · simp only [List.length_cons]; omega
/-- what goes out is genuine, and of the messages -/
theorem out_of {x : Nat → LEnd} (hs : Sys x) {n : Nat} (hn : n < 2) {p : Pkt} (hp : p ∈ outF (x n)) :
    genF (keyB n) p = true ∧ Form p ∧ p.ack = (x n).got ∧ (p.ser = 0 ∨ (x n).acked < p.ser.toNat ∧ (x n).sent[p.ser.toNat - 1]? = some p.body) := by
  have hok := hs.ok n hn
  have hg := hok.got; have ha := hok.acked; have hl := hok.sent
  simp only [outF, List.mem_map] at hp
  obtain ⟨b, hb, rfl⟩ := hp
  rw [hs.key n hn]
  have key : Form (sealed (keyB n) b) ∧ b.ack = (x n).got ∧ (b.ser = 0 ∨ (x n).acked < b.ser.toNat ∧ (x n).sent[b.ser.toNat - 1]? = some b.body) := by
    unfold bareF at hb
    split at hb
    · simp only [List.mem_singleton] at hb; subst hb
      exact ⟨⟨by simp [sealed], by simp [sealed], by simp only [sealed]; omega, by simp only [sealed]; omega, by simp [sealed, ByteArray.size], fun _ => rfl, sealF_size _ _⟩, rfl, .inl rfl⟩
    · simp only [List.mem_map, List.mem_range] at hb
      obtain ⟨i, hi, rfl⟩ := hb
      have hlt : (x n).acked + i < (x n).sent.length := by omega
      have hbody := hok.body _ (getD_mem (l := (x n).sent) (i := (x n).acked + i) (d := ⟨#[]⟩) hlt)
      refine ⟨⟨by simp only [sealed]; omega, by simp only [sealed]; omega, by simp only [sealed]; omega, by simp only [sealed]; omega, by simpa only [sealed] using hbody, fun h0 => by simp only [sealed] at h0; omega, sealF_size _ _⟩, rfl, .inr ⟨by simp only; omega, ?_⟩⟩
      rw [show (((x n).acked + i + 1 : Nat) : Int).toNat - 1 = (x n).acked + i by omega]
      simp [hlt]
  exact ⟨(genF_iff _ _).2 ⟨keyB_size _, key.1, rfl⟩, key.1, key.2.1, key.2.2⟩
/-- a packet of the other end comes in -/
theorem in_sys {x : Nat → LEnd} (hs : Sys x) {n : Nat} (hn : n < 2) {p : Pkt} (hg : genF (keyB n) p = true) (hf : Form p) (ha : p.ack ≤ (x n).got) (hb : p.ser = 0 ∨ (x n).sent[p.ser.toNat - 1]? = some p.body) :
    (inF (x (1 - n)) p).2.2 = 0 ∧ Sys (upd x (1 - n) (inF (x (1 - n)) p).1) ∧ (inF (x (1 - n)) p).2.1 = ((x n).sent.drop (x (1 - n)).got).take (inF (x (1 - n)) p).2.1.length ∧ (inF (x (1 - n)) p).1.got = (x (1 - n)).got + (inF (x (1 - n)) p).2.1.length ∧ (inF (x (1 - n)) p).1.sent = (x (1 - n)).sent := by
  have hm : 1 - n < 2 := by omega
  have hnn : 1 - (1 - n) = n := by omega
  have hno : n ≠ 1 - n := by omega
  have hok := inF_ok (hs.ok (1 - n) hm) p
  have hgot := hs.got n hn
  have hoth : (x (1 - n)).other = keyB n := by rw [hs.other _ hm]; congr 1; omega
  have hcond : genF (x (1 - n)).other p = true ∧ p.ack ≤ (x (1 - n)).sent.length := ⟨by rw [hoth]; exact hg, by omega⟩
  have hgot' := hs.got (1 - n) hm
  rw [hnn] at hgot'
  have hearly := hs.early (1 - n) hm
  rw [hnn] at hearly
  have hte : ∀ k s, (takeF (x (1 - n)) p).early k = some s → (x n).sent[k - 1]? = some s := by
    intro k s hk
    by_cases hc : (x (1 - n)).early p.ser.toNat = none ∧ (x (1 - n)).got + 1 ≤ p.ser ∧ p.ser ≤ (x (1 - n)).got + 4
    · rw [takeF_put hc] at hk
      have hk' : (if k = p.ser.toNat then some p.body else (x (1 - n)).early k) = some s := hk
      split at hk'
      · next hkp => simp only [Option.some.injEq] at hk'; subst hk'; subst hkp; exact hb.resolve_left (by omega)
      · exact hearly k s hk'
    · rw [takeF_skip hc] at hk; exact hearly k s hk
  obtain ⟨d1, d2, d3, d4⟩ := drain_of (sent := (x n).sent) 101 (takeF (x (1 - n)) p).got (takeF (x (1 - n)) p).early hgot' hte
  have he : inF (x (1 - n)) p = ({ takeF (x (1 - n)) p with got := (drainF 101 (takeF (x (1 - n)) p).got (takeF (x (1 - n)) p).early).2.1, early := (drainF 101 (takeF (x (1 - n)) p).got (takeF (x (1 - n)) p).early).2.2 }, (drainF 101 (takeF (x (1 - n)) p).got (takeF (x (1 - n)) p).early).1, 0) := if_pos hcond
  rw [he] at hok ⊢
  refine ⟨rfl, ⟨?_, ?_, ?_, ?_, ?_, ?_⟩, d1, d2, rfl⟩
  · intro k hk
    by_cases h : k = 1 - n
    · subst h; rw [upd_self]; exact hok
    · rw [upd_other _ _ h]; exact hs.ok k hk
  · intro k hk
    by_cases h : k = 1 - n
    · subst h; rw [upd_self]; exact hs.key _ hm
    · rw [upd_other _ _ h]; exact hs.key k hk
  · intro k hk
    by_cases h : k = 1 - n
    · subst h; rw [upd_self]; exact hs.other _ hm
    · rw [upd_other _ _ h]; exact hs.other k hk
  · intro k hk
    by_cases h : k = 1 - n
    · subst h; rw [upd_self, hnn, upd_other _ _ hno]; exact d3
    · obtain rfl : k = n := by omega
      rw [upd_other _ _ h, upd_self]; exact hgot
  · intro k hk
    have h1 := hs.acked n hn
    have h2 := hs.acked (1 - n) hm
    rw [hnn] at h2
    have h3 : (takeF (x (1 - n)) p).got = (x (1 - n)).got := rfl
    by_cases h : k = 1 - n
    · subst h; rw [upd_self, hnn, upd_other _ _ hno]
      have := hf.a0
      show max (x (1 - n)).acked p.ack.toNat ≤ _; omega
    · obtain rfl : k = n := by omega
      rw [upd_other _ _ h, upd_self]; show (x k).acked ≤ _; simp only; omega
  · intro k hk j s hj
    by_cases h : k = 1 - n
    · subst h; rw [upd_self] at hj; rw [hnn, upd_other _ _ hno]; exact d4 j s hj
    · obtain rfl : k = n := by omega
      rw [upd_other _ _ h] at hj; rw [upd_self]; exact hs.early k hk j s hj
theorem upd_upd {α : Type} (f : Nat → α) (n : Nat) (v w : α) : upd (upd f n v) n w = upd f n w := by
  funext k; by_cases h : k = n
  · simp [upd, h]
  · simp [upd, h]
theorem upd_same {α : Type} (f : Nat → α) (n : Nat) : upd f n (f n) = f := by
  funext k; by_cases h : k = n
  · simp [upd, h]
  · simp [upd, h]
theorem send_sys {x : Nat → LEnd} (hs : Sys x) {n : Nat} (hn : n < 2) {s : ByteArray} (h1 : s.size ≤ 200) (h2 : (x n).sent.length < 100) :
    sendF (x n) s = ({ x n with sent := (x n).sent ++ [s] }, 0) ∧ Sys (upd x n { x n with sent := (x n).sent ++ [s] }) := by
  have he : sendF (x n) s = ({ x n with sent := (x n).sent ++ [s] }, 0) := if_pos ⟨h1, h2⟩
  have hok := sendF_ok (hs.ok n hn) s
  rw [he] at hok
  refine ⟨he, ?_, ?_, ?_, ?_, ?_, ?_⟩
  · intro k hk; by_cases h : k = n
    · subst h; rw [upd_self]; exact hok
    · rw [upd_other _ _ h]; exact hs.ok k hk
  · intro k hk; by_cases h : k = n
    · subst h; rw [upd_self]; exact hs.key k hk
    · rw [upd_other _ _ h]; exact hs.key k hk
  · intro k hk; by_cases h : k = n
    · subst h; rw [upd_self]; exact hs.other k hk
    · rw [upd_other _ _ h]; exact hs.other k hk
  · intro k hk
    have hg := hs.got k hk
    by_cases h : k = n
    · subst h; rw [upd_self, upd_other _ _ (by omega : 1 - k ≠ k)]; exact hg
    · obtain rfl : n = 1 - k := by omega
      rw [upd_other _ _ h, upd_self]; simp only [List.length_append]; omega
  · intro k hk
    have hg := hs.acked k hk
    by_cases h : k = n
    · subst h; rw [upd_self, upd_other _ _ (by omega : 1 - k ≠ k)]; exact hg
    · obtain rfl : n = 1 - k := by omega
      rw [upd_other _ _ h, upd_self]; exact hg
  · intro k hk j t hj
    by_cases h : k = n
    · subst h; rw [upd_self] at hj; rw [upd_other _ _ (by omega : 1 - k ≠ k)]; exact hs.early k hk j t hj
    · obtain rfl : n = 1 - k := by omega
      rw [upd_other _ _ h] at hj; rw [upd_self]
      have := hs.early k hk j t hj
      obtain ⟨hl, _⟩ := List.getElem?_eq_some_iff.1 this
      show ((x (1 - k)).sent ++ [s])[j - 1]? = some t
      rw [List.getElem?_append_left hl]; exact this
theorem del_sys {x : Nat → LEnd} (hs : Sys x) {n : Nat} (hn : n < 2) (d : Int) : ∀ k, k ≤ (outF (x n)).length → Sys (upd x (1 - n) (delF d (outF (x n)) (x (1 - n)) k)) ∧ (delF d (outF (x n)) (x (1 - n)) k).sent = (x (1 - n)).sent
  | 0, _ => by
    rw [show delF d (outF (x n)) (x (1 - n)) 0 = x (1 - n) from rfl, upd_same]; exact ⟨hs, rfl⟩
  | k + 1, hk => by
    obtain ⟨h1, h2⟩ := del_sys hs hn d k (by omega)
    rw [delF_succ]
    by_cases hb : bitF d k = true
    · rw [if_pos hb]
      have hp : (outF (x n)).getD k ⟨0, 0, ⟨#[]⟩, ⟨#[]⟩⟩ ∈ outF (x n) := getD_mem (by omega)
      obtain ⟨g1, g2, g3, g4⟩ := out_of hs hn hp
      have hne : n ≠ 1 - n := by omega
      have hx : (upd x (1 - n) (delF d (outF (x n)) (x (1 - n)) k)) n = x n := upd_other _ _ hne
      have := in_sys h1 hn (p := (outF (x n)).getD k ⟨0, 0, ⟨#[]⟩, ⟨#[]⟩⟩) g1 g2 (by rw [hx, g3]; exact Int.le_refl _) (by rw [hx]; exact g4.imp id And.right)
      rw [upd_self, upd_upd] at this
      exact ⟨this.2.1, this.2.2.2.2.trans h2⟩
    · rw [if_neg hb]; exact ⟨h1, h2⟩
theorem pick2 (c : Int) : (pickI c 2).toNat < 2 := by have := pickI_range (c := c) (n := 2) (by omega); omega
theorem step_sys {x : Nat → LEnd} (hs : Sys x) (q : Q4) {k : Nat} (hk : k < 100) (hl : ∀ n, n < 2 → (x n).sent.length ≤ k) : Sys (stepF x q) ∧ ∀ n, n < 2 → (stepF x q n).sent.length ≤ k + 1 := by
  have hn := pick2 q.a
  unfold stepF
  by_cases hb : pickI q.b 2 = 0
  · simp only [if_pos hb]
    have h1 := bodyB_size q.c
    have h2 := hl _ hn
    obtain ⟨e, h3⟩ := send_sys hs hn (s := bodyB q.c) (by omega) (by omega)
    rw [e]
    refine ⟨h3, fun m hm => ?_⟩
    by_cases h : m = (pickI q.a 2).toNat
    · subst h; rw [upd_self]; simp only [List.length_append, List.length_singleton]; omega
    · rw [upd_other _ _ h]; have := hl m hm; omega
  · simp only [if_neg hb]
    obtain ⟨h3, h4⟩ := del_sys hs hn q.d _ (Nat.le_refl _)
    refine ⟨h3, fun m hm => ?_⟩
    by_cases h : m = 1 - (pickI q.a 2).toNat
    · subst h; rw [upd_self, h4]; have := hl _ hm; omega
    · rw [upd_other _ _ h]; have := hl m hm; omega
def runF (ops : List Q4) (k : Nat) : Nat → LEnd := (ops.take k).foldl stepF startF
theorem runF_succ {ops : List Q4} {k : Nat} (h : k < ops.length) : runF ops (k + 1) = stepF (runF ops k) ops[k] := by
  unfold runF; rw [List.take_succ_eq_append_getElem h, List.foldl_append]; rfl
theorem run_sys (ops : List Q4) : ∀ k, k ≤ 12 → Sys (runF ops k) ∧ ∀ n, n < 2 → (runF ops k n).sent.length ≤ k
  | 0, _ => ⟨startF_sys, fun n _ => Nat.le_refl _⟩
  | k + 1, hk => by
    obtain ⟨h1, h2⟩ := run_sys ops k (by omega)
    by_cases h : k < ops.length
    · rw [runF_succ h]; exact step_sys h1 _ (by omega) h2
    · have e : runF ops (k + 1) = runF ops k := by simp only [runF]; rw [List.take_of_length_le (by omega), List.take_of_length_le (by omega)]
      rw [e]; exact ⟨h1, fun n hn => by have := h2 n hn; omega⟩
theorem busy_sys (ops : List Q4) : Sys (busyF ops) ∧ ∀ n, n < 2 → (busyF ops n).sent.length ≤ 12 := run_sys ops 12 (Nat.le_refl _)
theorem run_end {ops : List Q4} {k : Nat} (h : 12 ≤ k ∨ ops.length ≤ k) (hk : k ≤ 12) : runF ops k = busyF ops := by
  rcases h with h | h
  · obtain rfl : k = 12 := by omega
    rfl
  · unfold runF busyF; rw [List.take_of_length_le h, List.take_of_length_le (by omega)]
theorem run_send {ops : List Q4} {k n : Nat} {y : LEnd} {e : Int} (h : k < ops.length) (hb : pickI ops[k].b 2 = 0) (hn : (pickI ops[k].a 2).toNat = n) (hs : sendF (runF ops k n) (bodyB ops[k].c) = (y, e)) : runF ops (k + 1) = upd (runF ops k) n y := by
  rw [runF_succ h]; simp only [stepF, if_pos hb, hn, hs]
theorem run_del {ops : List Q4} {k n : Nat} (h : k < ops.length) (hb : ¬ pickI ops[k].b 2 = 0) (hn : (pickI ops[k].a 2).toNat = n) : runF ops (k + 1) = upd (runF ops k) (1 - n) (delF ops[k].d (outF (runF ops k n)) (runF ops k (1 - n)) (outF (runF ops k n)).length) := by
  rw [runF_succ h]; simp only [stepF, if_neg hb, hn]
theorem upd_is {x : Nat → LEnd} {h : Nat → EH} {n : Nat} {y : LEnd} {h' : EH} (hE : ∀ n, n < 2 → EndIs (x n) (h n)) (hy : EndIs y h') : ∀ m, m < 2 → EndIs (upd x n y m) (upd h n h' m) := by
  intro m hm
  by_cases hmn : m = n
  · subst hmn; rw [upd_self, upd_self]; exact hy
  · rw [upd_other _ _ hmn, upd_other _ _ hmn]; exact hE m hm
theorem twoL_in2 {b : Nat → Nat} {x : Nat → LEnd} {h : Nat → EH} {n : Nat} {y : LEnd} {h' : EH} (hn : n < 2) : (endL (b n) (x n) (h n) ++ endL (b (1 - n)) y h').Perm (twoL b (upd x (1 - n) y) (upd h (1 - n) h')) := by
  match n, hn with
  | 0, _ => exact List.Perm.refl _
  | 1, _ => exact List.perm_append_comm
theorem outF_in {x : LEnd} (h : x.Ok) : ∀ p ∈ outF x, p.In := by
  intro p hp
  simp only [outF, List.mem_map] at hp
  obtain ⟨b, hb, rfl⟩ := hp
  have := bareF_in h b hb
  exact ⟨this.ser, this.ack, this.body⟩
theorem del_in {x : Nat → LEnd} (hs : Sys x) {n : Nat} (hn : n < 2) {d : Int} {j : Nat} (hj : j < (outF (x n)).length) : ∃ y ms, inF (delF d (outF (x n)) (x (1 - n)) j) (outF (x n))[j] = (y, ms, 0) := by
  obtain ⟨h1, h2⟩ := del_sys hs hn d j (by omega)
  obtain ⟨g1, g2, g3, g4⟩ := out_of hs hn (List.getElem_mem hj)
  have hne : n ≠ 1 - n := by omega
  have hx : (upd x (1 - n) (delF d (outF (x n)) (x (1 - n)) j)) n = x n := upd_other _ _ hne
  have := in_sys h1 hn (p := (outF (x n))[j]) g1 g2 (by rw [hx, g3]; exact Int.le_refl _) (by rw [hx]; exact g4.imp id And.right)
  rw [upd_self] at this
  exact ⟨_, _, Prod.ext rfl (Prod.ext rfl this.1)⟩
end Go.Lk
