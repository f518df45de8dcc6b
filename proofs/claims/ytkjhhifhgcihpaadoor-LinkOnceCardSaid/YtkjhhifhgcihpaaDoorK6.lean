/- Rounds in which packets arrive now and then: all is received, and acknowledged, after enough of them. -/
import Derived.Test.YtkjhhifhgcihpaaDoorK4
namespace Go.Lk
open Go Go.Xe Go.Sh

/-- in which round of a block a packet arrives -/
def whenF (ws : List Int) (size b : Int) (n : Nat) (ser : Int) : Int :=
  if ws.length = 0 then 0 else pickI (ws.getD (pickI (7 * b + 3 * ser + n) ws.length).toNat 0) size
def hitF (ws : List Int) (size : Nat) (r n : Nat) (p : Pkt) : Bool := decide (((r % size : Nat) : Int) = whenF ws size ((r / size : Nat) : Int) n p.ser)
theorem whenF_range {ws : List Int} {size : Nat} (hs : 0 < size) (b : Int) (n : Nat) (ser : Int) : 0 ≤ whenF ws size b n ser ∧ whenF ws size b n ser < size := by
  unfold whenF; split
  · omega
  · exact pickI_range (by omega)
/-- a round -/
def roundF (ws : List Int) (size r : Nat) (x : Nat → LEnd) : Nat → LEnd := fun k => (arrF (x k) ((outF (x (1 - k))).filter (hitF ws size r (1 - k)))).1
def newsF (ws : List Int) (size r : Nat) (x : Nat → LEnd) : Nat → List ByteArray := fun k => (arrF (x k) ((outF (x (1 - k))).filter (hitF ws size r (1 - k)))).2
def runR (ws : List Int) (size : Nat) (x : Nat → LEnd) : Nat → Nat → LEnd
  | 0 => x
  | r + 1 => roundF ws size r (runR ws size x r)
structure Good (x : Nat → LEnd) : Prop where
  sys : Sys x
  calm : ∀ k, k < 2 → Calm (x k)
theorem Good.rcv {x : Nat → LEnd} (h : Good x) {k : Nat} (hk : k < 2) : Rec (1 - k) (x (1 - k)) (x k) := by
  refine ⟨h.sys.congr (fun j hj => ?_), h.calm k hk⟩
  have := two_of (x := x) (n := 1 - k) (k := j) (by omega) hj
  rw [show 1 - (1 - k) = k by omega] at this
  exact this
theorem Good.arr {x : Nat → LEnd} (h : Good x) {k : Nat} (hk : k < 2) (f : Pkt → Bool) : ArrRec (1 - k) (x (1 - k)) (x k) ((outF (x (1 - k))).filter f) :=
  arr_rec (by omega) (h.rcv hk) _ (fun p hp => (List.mem_filter.1 hp).1)
section
variable {ws : List Int} {size : Nat} {x : Nat → LEnd}
theorem round_sent (h : Good x) (r : Nat) {k : Nat} (hk : k < 2) : (roundF ws size r x k).sent = (x k).sent := (h.arr hk _).sent
theorem round_got (h : Good x) (r : Nat) {k : Nat} (hk : k < 2) : (roundF ws size r x k).got = (x k).got + (newsF ws size r x k).length := (h.arr hk _).got
theorem round_acked (h : Good x) (r : Nat) {k : Nat} (hk : k < 2) : (x k).acked ≤ (roundF ws size r x k).acked ∧ ((roundF ws size r x k).acked ≤ max (x k).acked (x (1 - k)).got) := by
  have := (h.arr hk (hitF ws size r (1 - k))).acked
  unfold roundF; rw [this]; split <;> omega
theorem round_sysk (h : Good x) (r : Nat) {k : Nat} (hk : k < 2) : (roundF ws size r x k).Ok ∧ (roundF ws size r x k).key = keyB k ∧ (roundF ws size r x k).other = keyB (1 - k : Nat) ∧ (roundF ws size r x k).got ≤ (x (1 - k)).sent.length ∧
    (∀ j s, (roundF ws size r x k).early j = some s → (x (1 - k)).sent[j - 1]? = some s) ∧ Calm (roundF ws size r x k) := by
  have a := (h.arr hk (hitF ws size r (1 - k))).is
  have e : two (1 - k) (x (1 - k)) (roundF ws size r x k) k = roundF ws size r x k := by simp only [two]; rw [if_neg (by omega)]
  have e2 : two (1 - k) (x (1 - k)) (roundF ws size r x k) (1 - k) = x (1 - k) := two_self _ _ _
  have h1 := a.sys.ok k hk
  have h2 := a.sys.key k hk
  have h3 := a.sys.other k hk
  have h4 := a.sys.got k hk
  have h5 := a.sys.early k hk
  have g : (arrF (x k) ((outF (x (1 - k))).filter (hitF ws size r (1 - k)))).1 = roundF ws size r x k := rfl
  rw [g] at h1 h2 h3 h4 h5
  rw [e] at h1 h2 h3 h4 h5
  rw [e2] at h4 h5
  exact ⟨h1, h2, h3, h4, h5, a.calm⟩
theorem round_good (h : Good x) (r : Nat) : Good (roundF ws size r x) := by
  refine ⟨⟨fun k hk => (round_sysk h r hk).1, fun k hk => (round_sysk h r hk).2.1, fun k hk => (round_sysk h r hk).2.2.1, fun k hk => ?_, fun k hk => ?_, fun k hk j s hj => ?_⟩, fun k hk => (round_sysk h r hk).2.2.2.2.2⟩
  · rw [round_sent h r (by omega : 1 - k < 2)]; exact (round_sysk h r hk).2.2.2.1
  · have h1 := (round_acked (ws := ws) (size := size) h r hk).2
    have h2 := h.sys.acked k hk
    have h3 := round_got (ws := ws) (size := size) h r (by omega : 1 - k < 2)
    omega
  · rw [round_sent h r (by omega : 1 - k < 2)]; exact (round_sysk h r hk).2.2.2.2.1 j s hj
theorem run_good (h : Good x) : ∀ r, Good (runR ws size x r)
  | 0 => h
  | r + 1 => round_good (run_good h r) r
theorem run_sent (h : Good x) {k : Nat} (hk : k < 2) : ∀ r, (runR ws size x r k).sent = (x k).sent
  | 0 => rfl
  | r + 1 => (round_sent (run_good h r) r hk).trans (run_sent h hk r)
theorem run_mono (h : Good x) {k : Nat} (hk : k < 2) (r : Nat) : ∀ d, (runR ws size x r k).got ≤ (runR ws size x (r + d) k).got ∧ (runR ws size x r k).acked ≤ (runR ws size x (r + d) k).acked
  | 0 => ⟨Nat.le_refl _, Nat.le_refl _⟩
  | d + 1 => by
    have ih := run_mono h hk r d
    have h1 := round_got (ws := ws) (size := size) (run_good h (ws := ws) (size := size) (r + d)) (r + d) hk
    have h2 := (round_acked (ws := ws) (size := size) (run_good h (ws := ws) (size := size) (r + d)) (r + d) hk).1
    constructor
    · show _ ≤ (roundF ws size (r + d) (runR ws size x (r + d)) k).got
      omega
    · show _ ≤ (roundF ws size (r + d) (runR ws size x (r + d)) k).acked
      omega
/-- how far all has come -/
def far (x : Nat → LEnd) : Nat := (x 0).got + (x 1).got + (x 0).acked + (x 1).acked
theorem run_far (h : Good x) (r d : Nat) : far (runR ws size x r) ≤ far (runR ws size x (r + d)) := by
  have h0 := run_mono (ws := ws) (size := size) h (by decide : 0 < 2) r d
  have h1 := run_mono (ws := ws) (size := size) h (by decide : 1 < 2) r d
  unfold far; omega
/-- nothing moves between two rounds that are as far as each other -/
theorem still (h : Good x) {r d e : Nat} (hd : d ≤ e) (hf : far (runR ws size x (r + e)) = far (runR ws size x r)) {k : Nat} (hk : k < 2) :
    (runR ws size x (r + d) k).got = (runR ws size x r k).got ∧ (runR ws size x (r + d) k).acked = (runR ws size x r k).acked := by
  have h0 := run_mono (ws := ws) (size := size) h (by decide : 0 < 2) r d
  have h1 := run_mono (ws := ws) (size := size) h (by decide : 1 < 2) r d
  have h2 := run_far (ws := ws) (size := size) h (r + d) (e - d)
  rw [show r + d + (e - d) = r + e by omega, hf] at h2
  unfold far at h2
  match k, hk with
  | 0, _ => omega
  | 1, _ => omega
/-- what is hit arrives -/
theorem hit_has (h : Good x) {r n : Nat} (hn : n < 2) {p : Pkt} (hp : p ∈ outF (x n)) (hh : hitF ws size r n p = true) :
    has (roundF ws size r x (1 - n)) p.ser.toNat ∧ (x n).got ≤ (roundF ws size r x (1 - n)).acked := by
  have hk : 1 - n < 2 := by omega
  have a := h.arr hk (hitF ws size r (1 - (1 - n)))
  have e : 1 - (1 - n) = n := by omega
  have hm : p ∈ (outF (x (1 - (1 - n)))).filter (hitF ws size r (1 - (1 - n))) := by rw [e]; exact List.mem_filter.2 ⟨hp, hh⟩
  constructor
  · exact (a.has _).2 (.inr ⟨p, hm, rfl⟩)
  · have h1 := a.acked
    rw [if_neg (by intro h0; rw [h0] at hm; cases hm)] at h1
    unfold roundF
    rw [h1, e]; omega
/-- the round of a block in which a packet arrives -/
theorem hit_at {B n : Nat} (hs : 0 < size) {p : Pkt} : ∃ j, j < size ∧ hitF ws size (B * size + j) n p = true := by
  have hw := whenF_range (ws := ws) hs ((B : Nat) : Int) n p.ser
  refine ⟨(whenF ws size ((B : Nat) : Int) n p.ser).toNat, by omega, decide_eq_true ?_⟩
  have hj : (whenF ws size ((B : Nat) : Int) n p.ser).toNat < size := by omega
  rw [Nat.mul_comm B size, Nat.mul_add_mod, Nat.mod_eq_of_lt hj, Nat.mul_add_div hs, Nat.div_eq_of_lt hj, Nat.add_zero]
  omega
theorem first_out {y : LEnd} (h : y.acked ≤ y.sent.length) : ∃ p ∈ outF y, p.ser = (if y.acked = y.sent.length then (0 : Int) else ((y.acked + 1 : Nat) : Int)) := by
  by_cases he : y.acked = y.sent.length
  · exact ⟨sealed y.key ⟨0, y.got, ⟨#[]⟩, ⟨#[]⟩⟩, by rw [outF, bareF_none he]; simp, by rw [if_pos he]; rfl⟩
  · refine ⟨sealed y.key ⟨(y.acked + 0 + 1 : Nat), y.got, y.sent.getD (y.acked + 0) ⟨#[]⟩, ⟨#[]⟩⟩, ?_, by rw [if_neg he]; rfl⟩
    rw [outF, bareF, if_neg he]
    refine List.mem_map_of_mem (List.mem_map.2 ⟨0, List.mem_range.2 (by omega), rfl⟩)
/-- a block in which nothing moves is one behind the end -/
theorem block_done (h : Good x) (hs : 0 < size) {B : Nat} (hf : far (runR ws size x (B * size + size)) = far (runR ws size x (B * size))) {n : Nat} (hn : n < 2) : (runR ws size x (B * size) n).acked = (x n).sent.length := by
  have hk : 1 - n < 2 := by omega
  have hg0 := run_good (ws := ws) (size := size) h (B * size)
  have s0 := run_sent (ws := ws) (size := size) h hn (B * size)
  have b1 := (hg0.sys.ok n hn).acked
  have b2 := hg0.sys.acked n hn
  by_cases hd : (runR ws size x (B * size) n).acked = (x n).sent.length
  · exact hd
  · exfalso
    rw [s0] at b1
    by_cases hc : (runR ws size x (B * size) (1 - n)).got = (runR ws size x (B * size) n).acked
    · -- the first packet that waits is the next one there
      obtain ⟨p0, hp0, hser0⟩ := first_out (hg0.sys.ok n hn).acked
      obtain ⟨j, hj, hh⟩ := hit_at (ws := ws) (size := size) (B := B) (n := n) hs (p := p0)
      have hg := run_good (ws := ws) (size := size) h (B * size + j)
      have st := still h (Nat.le_of_lt hj) hf hn
      have stk := still h (Nat.le_of_lt hj) hf hk
      have st1 := still h (d := j + 1) (by omega) hf hk
      have s1 := run_sent (ws := ws) (size := size) h hn (B * size + j)
      obtain ⟨p, hp, hser⟩ := first_out (hg.sys.ok n hn).acked
      have hse : p.ser = p0.ser := by rw [hser, hser0, st.2, s0, s1]
      have hh' : hitF ws size (B * size + j) n p = true := by unfold hitF at hh ⊢; rw [hse]; exact hh
      have hx := (hit_has hg hn hp hh').1
      have hcalm := (run_good (ws := ws) (size := size) h (B * size + j + 1)).calm (1 - n) hk
      rw [hser, st.2, s1, if_neg hd] at hx
      rcases hx with hx | hx
      · have : (runR ws size x (B * size + (j + 1)) (1 - n)).got = (roundF ws size (B * size + j) (runR ws size x (B * size + j)) (1 - n)).got := rfl
        rw [st1.1] at this
        omega
      · refine hx ?_
        have e : (runR ws size x (B * size + j + 1) (1 - n)).got + 1 = (((runR ws size x (B * size) n).acked + 1 : Nat) : Int).toNat := by
          have := st1.1
          rw [show B * size + (j + 1) = B * size + j + 1 by omega] at this
          omega
        rw [Calm, e] at hcalm
        exact hcalm
    · -- any packet of the other end acknowledges more
      have b3 := (hg0.sys.ok (1 - n) hk).acked
      obtain ⟨p0, hp0, hser0⟩ := first_out b3
      obtain ⟨j, hj, hh⟩ := hit_at (ws := ws) (size := size) (B := B) (n := 1 - n) hs (p := p0)
      have hg := run_good (ws := ws) (size := size) h (B * size + j)
      have st := still h (Nat.le_of_lt hj) hf hk
      have st1 := still h (d := j + 1) (by omega) hf hn
      have sk := run_sent (ws := ws) (size := size) h hk (B * size)
      have sk1 := run_sent (ws := ws) (size := size) h hk (B * size + j)
      obtain ⟨p, hp, hser⟩ := first_out (hg.sys.ok (1 - n) hk).acked
      have hse : p.ser = p0.ser := by rw [hser, hser0, st.2, sk, sk1]
      have hh' : hitF ws size (B * size + j) (1 - n) p = true := by unfold hitF at hh ⊢; rw [hse]; exact hh
      have hx := (hit_has hg hk hp hh').2
      rw [show 1 - (1 - n) = n by omega] at hx
      have e : (runR ws size x (B * size + (j + 1)) n).acked = (roundF ws size (B * size + j) (runR ws size x (B * size + j)) n).acked := rfl
      rw [st1.2] at e
      rw [← e, st.1] at hx
      omega
theorem done_far (h : Good x) (hd : ∀ n, n < 2 → (x n).acked = (x n).sent.length) : far x = 2 * ((x 0).sent.length + (x 1).sent.length) := by
  have a0 := hd 0 (by decide); have a1 := hd 1 (by decide)
  have k0 : (x 0).acked ≤ (x 1).got := h.sys.acked 0 (by decide)
  have k1 : (x 1).acked ≤ (x 0).got := h.sys.acked 1 (by decide)
  have g0 : (x 0).got ≤ (x 1).sent.length := h.sys.got 0 (by decide)
  have g1 : (x 1).got ≤ (x 0).sent.length := h.sys.got 1 (by decide)
  unfold far; omega
theorem far_done (h : Good x) (hf : 2 * ((x 0).sent.length + (x 1).sent.length) ≤ far x) : ∀ n, n < 2 → (x n).acked = (x n).sent.length ∧ (x (1 - n)).got = (x n).sent.length := by
  have k0 : (x 0).acked ≤ (x 1).got := h.sys.acked 0 (by decide)
  have k1 : (x 1).acked ≤ (x 0).got := h.sys.acked 1 (by decide)
  have g0 : (x 0).got ≤ (x 1).sent.length := h.sys.got 0 (by decide)
  have g1 : (x 1).got ≤ (x 0).sent.length := h.sys.got 1 (by decide)
  unfold far at hf
  intro n hn
  match n, hn with
  | 0, _ => show _ ∧ (x 1).got = _; omega
  | 1, _ => show _ ∧ (x 0).got = _; omega
theorem blocks_far (h : Good x) (hs : 0 < size) : ∀ B, min B (2 * ((x 0).sent.length + (x 1).sent.length)) ≤ far (runR ws size x (B * size))
  | 0 => by omega
  | B + 1 => by
    have ih := blocks_far h hs B
    have hm := run_far (ws := ws) (size := size) h (B * size) size
    rw [show (B + 1) * size = B * size + size by rw [Nat.add_mul, Nat.one_mul]]
    by_cases hf : far (runR ws size x (B * size + size)) = far (runR ws size x (B * size))
    · have hg := run_good (ws := ws) (size := size) h (B * size)
      have := done_far hg (fun n hn => by rw [run_sent h hn]; exact block_done h hs hf hn)
      rw [run_sent h (by decide : 0 < 2), run_sent h (by decide : 1 < 2)] at this
      omega
    · omega
/-- all is received and acknowledged -/
theorem all_done (h : Good x) (hs : 0 < size) {N : Nat} (hN : 2 * ((x 0).sent.length + (x 1).sent.length) * size ≤ N) : ∀ n, n < 2 → (runR ws size x N n).acked = (x n).sent.length ∧ (runR ws size x N (1 - n)).got = (x n).sent.length := by
  have h1 := blocks_far (ws := ws) h hs (2 * ((x 0).sent.length + (x 1).sent.length))
  have h2 := run_far (ws := ws) (size := size) h (2 * ((x 0).sent.length + (x 1).sent.length) * size) (N - 2 * ((x 0).sent.length + (x 1).sent.length) * size)
  rw [show 2 * ((x 0).sent.length + (x 1).sent.length) * size + (N - 2 * ((x 0).sent.length + (x 1).sent.length) * size) = N by omega] at h2
  intro n hn
  have := far_done (run_good (ws := ws) (size := size) h N) (by rw [run_sent h (by decide : 0 < 2), run_sent h (by decide : 1 < 2)]; omega) n hn
  rw [run_sent h hn] at this
  exact this
end
end Go.Lk
