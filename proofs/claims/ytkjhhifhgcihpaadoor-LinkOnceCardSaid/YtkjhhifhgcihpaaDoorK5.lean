/- Seals: what two packets with the same seal have in common, or there are two strings with the same digest. -/
import Derived.Test.YtkjhhifhgcihpaaDoorK3
namespace Go.Lk
open Go Go.Xe Go.Sh

theorem vb_inj : ∀ (f z z' : Nat) (r r' : List UInt8), z < 128 ^ f → z' < 128 ^ f → vb f z ++ r = vb f z' ++ r' → z = z' ∧ r = r'
  | 0, z, z', r, r', h, h', e => ⟨by simp at h h'; omega, by simpa [vb] using e⟩
  | f + 1, z, z', r, r', h, h', e => by
    have ho : ∀ a b : Nat, a < 256 → b < 256 → UInt8.ofNat a = UInt8.ofNat b → a = b := fun a b ha hb hab => by
      have := congrArg UInt8.toNat hab
      rw [UInt8.toNat_ofNat', UInt8.toNat_ofNat'] at this
      simp only [Nat.reducePow] at this
      omega
    unfold vb at e
    by_cases h1 : z < 128 <;> by_cases h2 : z' < 128
    · rw [if_pos h1, if_pos h2] at e
      simp only [List.cons_append, List.nil_append, List.cons.injEq] at e
      exact ⟨ho _ _ (by omega) (by omega) e.1, e.2⟩
    · rw [if_pos h1, if_neg h2] at e
      simp only [List.cons_append, List.nil_append, List.cons.injEq] at e
      have := ho _ _ (by omega) (by omega) e.1
      omega
    · rw [if_neg h1, if_pos h2] at e
      simp only [List.cons_append, List.nil_append, List.cons.injEq] at e
      have := ho _ _ (by omega) (by omega) e.1
      omega
    · rw [if_neg h1, if_neg h2] at e
      simp only [List.cons_append, List.cons.injEq] at e
      have g1 := ho _ _ (by omega) (by omega) e.1
      have g2 := vb_inj f (z / 128) (z' / 128) r r' (by rw [Nat.pow_succ] at h; omega) (by rw [Nat.pow_succ] at h'; omega) e.2
      exact ⟨by omega, g2.2⟩
theorem putX_list {n : Int} (h : 0 ≤ n) (h' : n ≤ 1000) : (putX n).data.toList = vb 10 (zz n) := by
  unfold putX; rw [if_pos (okI_iff.2 ⟨by omega, by omega⟩)]; rfl
theorem zz_small {n : Int} (h : 0 ≤ n) (h' : n ≤ 1000) : zz n < 128 ^ 10 ∧ zz n = n.toNat * 2 := by
  unfold zz; rw [if_neg (by omega)]; exact ⟨by simp only [Nat.reducePow]; omega, rfl⟩
theorem toList_append (a b : ByteArray) : (a ++ b).data.toList = a.data.toList ++ b.data.toList := by simp
theorem content_list {p : Pkt} (h : Form p) : (content p).data.toList = vb 10 16 ++ (vb 10 (zz p.ser) ++ (vb 10 (zz p.ack) ++ (vb 10 (zz p.body.size) ++ p.body.data.toList))) := by
  have h1 := h.s0; have h2 := h.s1; have h3 := h.a0; have h4 := h.a1; have h5 := h.body
  unfold content putS
  rw [if_pos (by omega)]
  simp only [toList_append]
  rw [putX_list (n := 8) (by decide) (by decide), putX_list h1 (by omega), putX_list h3 (by omega), putX_list (n := p.body.size) (by omega) (by omega)]
  simp only [List.append_assoc]
  rfl
theorem content_inj {p q : Pkt} (hp : Form p) (hq : Form q) (h : content p = content q) : p.ser = q.ser ∧ p.ack = q.ack ∧ p.body = q.body := by
  have e : (content p).data.toList = (content q).data.toList := by rw [h]
  rw [content_list hp, content_list hq] at e
  obtain ⟨_, e⟩ := vb_inj 10 16 16 _ _ (by decide) (by decide) e
  have p1 := zz_small hp.s0 (by have := hp.s1; omega)
  have q1 := zz_small hq.s0 (by have := hq.s1; omega)
  have p2 := zz_small hp.a0 (by have := hp.a1; omega)
  have q2 := zz_small hq.a0 (by have := hq.a1; omega)
  have p3 := zz_small (n := (p.body.size : Int)) (by omega) (by have := hp.body; omega)
  have q3 := zz_small (n := (q.body.size : Int)) (by omega) (by have := hq.body; omega)
  obtain ⟨e1, e⟩ := vb_inj 10 _ _ _ _ p1.1 q1.1 e
  obtain ⟨e2, e⟩ := vb_inj 10 _ _ _ _ p2.1 q2.1 e
  obtain ⟨_, e⟩ := vb_inj 10 _ _ _ _ p3.1 q3.1 e
  rw [p1.2, q1.2] at e1
  rw [p2.2, q2.2] at e2
  have := hp.s0; have := hq.s0; have := hp.a0; have := hq.a0
  refine ⟨by omega, by omega, ?_⟩
  exact ByteArray.ext (Array.ext' e)
/-- the strings whose digests are computed for a seal -/
def hashF (key : ByteArray) (p : Pkt) : List ByteArray := [⟨#[0]⟩ ++ content p, ⟨#[1]⟩ ++ key ++ leaf (content p)]
theorem append_inj {a b c d : ByteArray} (hs : a.size = c.size) (h : a ++ b = c ++ d) : a = c ∧ b = d := by
  have e : (a ++ b).data.toList = (c ++ d).data.toList := by rw [h]
  rw [toList_append, toList_append] at e
  obtain ⟨e1, e2⟩ := List.append_inj e (by rw [Array.length_toList, Array.length_toList]; exact hs)
  exact ⟨ByteArray.ext (Array.ext' e1), ByteArray.ext (Array.ext' e2)⟩
theorem coll_of {a b : List ByteArray} {i j : Nat} (hi : i < a.length) (hj : j < b.length) (hne : a.getD i ⟨#[]⟩ ≠ b.getD j ⟨#[]⟩) (he : sha (a.getD i ⟨#[]⟩) = sha (b.getD j ⟨#[]⟩)) : collF a b = true :=
  collF_yes hi hj (by simp only [coll1, Bool.and_eq_true, Bool.not_eq_true', decide_eq_false_iff_not, decide_eq_true_eq]; exact ⟨hne, he⟩)
/-- the same seal, of whatever keys -/
theorem seal_inj {k k' : ByteArray} {p q : Pkt} (hk : k.size = 32) (hk' : k'.size = 32) (hp : Form p) (hq : Form q) (h : sealF k p = sealF k' q) (hc : collF (hashF k p) (hashF k' q) = false) : k = k' ∧ p.ser = q.ser ∧ p.ack = q.ack ∧ p.body = q.body := by
  by_cases h1 : (⟨#[1]⟩ ++ k ++ leaf (content p) : ByteArray) = ⟨#[1]⟩ ++ k' ++ leaf (content q)
  · obtain ⟨h2, h3⟩ := append_inj (by rw [ByteArray.size_append, ByteArray.size_append, hk, hk']) h1
    obtain ⟨_, h2⟩ := append_inj rfl h2
    refine ⟨h2, ?_⟩
    by_cases h4 : content p = content q
    · exact content_inj hp hq h4
    · exact absurd (coll_of (a := hashF k p) (b := hashF k' q) (i := 0) (j := 0) (Nat.zero_lt_succ 1) (Nat.zero_lt_succ 1) (fun h5 => h4 (append_inj rfl (show (⟨#[0]⟩ ++ content p : ByteArray) = ⟨#[0]⟩ ++ content q from h5)).2) h3) (by rw [hc]; decide)
  · exact absurd (coll_of (a := hashF k p) (b := hashF k' q) (i := 1) (j := 1) (Nat.lt_succ_self 1) (Nat.lt_succ_self 1) h1 h) (by rw [hc]; decide)
theorem pkt_ext {p q : Pkt} (h1 : p.ser = q.ser) (h2 : p.ack = q.ack) (h3 : p.body = q.body) (h4 : p.sl = q.sl) : p = q := by
  obtain ⟨a, b, c, d⟩ := p
  obtain ⟨a', b', c', d'⟩ := q
  simp only at h1 h2 h3 h4
  subst h1; subst h2; subst h3; subst h4; rfl
theorem bent_sl {p : Pkt} {how n : Int} (h : pickI how 5 ≠ 4) : (bentF p how n).sl = p.sl := by
  have := pickI_range (c := how) (n := 5) (by decide)
  unfold bentF
  split; · rfl
  split; · rfl
  split; · rfl
  split; · rfl
  omega
/-- a packet that is changed is not genuine, or there is a collision -/
theorem forged {key : ByteArray} {p q : Pkt} (hp : genF key p = true) (hq : genF key q = true) (hs : p.sl = q.sl) (hc : collF (hashF key p) (hashF key q) = false) : p = q := by
  obtain ⟨hk, fp, sp⟩ := (genF_iff _ _).1 hp
  obtain ⟨_, fq, sq⟩ := (genF_iff _ _).1 hq
  obtain ⟨_, h1, h2, h3⟩ := seal_inj hk hk fp fq (by rw [← sp, ← sq, hs]) hc
  exact pkt_ext h1 h2 h3 hs
theorem pick_small {c n : Int} (h : 0 ≤ c) (h' : c < n) : pickI c n = c := by unfold pickI; rw [if_neg (by omega)]; exact Int.emod_eq_of_lt h h'
end Go.Lk
