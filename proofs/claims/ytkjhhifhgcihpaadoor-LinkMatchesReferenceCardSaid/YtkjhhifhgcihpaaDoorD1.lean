/- Walks: seals of packets. -/
import Derived.Test.YtkjhhifhgcihpaaDoorC6
import Derived.Test.YtkjhhifhgcihpaaDoorC7
import Derived.Test.YtkjhhifhgcihpaaDoorK1
namespace Go.Proofs.YtkjhhifhgcihpaaDoor
open Go.Xe Go.Sh Go Go.Lk

theorem isKey_any (s : ByteArray) (I : Im) : FC Tryd.prog 50 [.string s] I (fun u I' => u = .bool (decide (s.size = 32)) ∧ I' = I) := by
  refine FSo.intro (n := 6) Tryd.func50 rfl rfl rfl (fun K Lf => ?_)
  refine XC.seq ?_
  refine XC.region ?_
  refine XO.rd rfl rfl rfl (Reads.assign rfl) ?_
  refine XO.nil ?_
  refine XQ.then_normal ?_
  refine XC.seq ?_
  refine XC.region ?_
  refine XO.rd rfl rfl rfl (Reads.move rfl) ?_
  refine XO.rd rfl rfl rfl (Reads.len_string Tryd.underlying9 rfl) ?_
  refine XO.rd rfl rfl rfl (Reads.cmp rfl rfl rfl) ?_
  refine XO.rd rfl rfl rfl (Reads.assign rfl) ?_
  refine XO.nil ?_
  refine XQ.then_normal ?_
  refine XC.ret ?_
  refine XQ.done1 rfl rfl (Im.le_refl _) ?_
  exact ⟨rfl, congrArg Value.bool (by simp only [cmpInt]; exact Bool.eq_iff_iff.2 (by simp; omega)), rfl⟩

theorem isIn_any (n lo hi : Int) (I : Im) : FC Tryd.prog 49 [.int .i64 n, .int .i64 lo, .int .i64 hi] I (fun u I' => u = .bool (Pkt.isF n lo hi) ∧ I' = I) := by
  refine FSo.intro (n := 15) Tryd.func49 rfl rfl rfl (fun K Lf => ?_)
  refine XC.seq ?_
  refine XC.region ?_
  refine XO.rd rfl rfl rfl (Reads.assign rfl) ?_
  refine XO.nil ?_
  refine XQ.then_normal ?_
  refine XC.seq ?_
  refine XC.region ?_
  refine XO.rd rfl rfl rfl (Reads.move rfl) ?_
  refine XO.rd rfl rfl rfl (Reads.move rfl) ?_
  refine XO.rd rfl rfl rfl (Reads.cmp rfl rfl rfl) ?_
  refine XO.rd rfl rfl rfl (Reads.move rfl) ?_
  refine XO.split (d := 10) rfl (fun h1 => ?_) (fun h1 => ?_)
  · skip
    try simp only [cmpInt, decide_eq_true_eq, decide_eq_false_iff_not, beq_iff_eq, bne_iff_ne, beq_eq_false_iff_ne, bne_eq_false_iff_eq] at h1
    refine XO.rd (wg rfl rfl rfl) rfl rfl (Reads.move rfl) ?_
    refine XO.rd (wg rfl rfl rfl) rfl rfl (Reads.move rfl) ?_
    refine XO.rd (wg rfl rfl rfl) rfl rfl (Reads.cmp rfl rfl rfl) ?_
    refine XO.rd rfl rfl rfl (Reads.pick_true rfl rfl) ?_
    refine XO.rd rfl rfl rfl (Reads.assign rfl) ?_
    refine XO.nil ?_
    refine XQ.then_normal ?_
    refine XC.ret ?_
    refine XQ.done1 rfl rfl (Im.le_refl _) ?_
    exact ⟨rfl, congrArg Value.bool (by simp [Pkt.isF, cmpInt, h1]), rfl⟩
  · skip
    try simp only [cmpInt, decide_eq_true_eq, decide_eq_false_iff_not, beq_iff_eq, bne_iff_ne, beq_eq_false_iff_ne, bne_eq_false_iff_eq] at h1
    refine XO.s (wg rfl rfl rfl) rfl ?_
    refine XO.s (wg rfl rfl rfl) rfl ?_
    refine XO.s (wg rfl rfl rfl) rfl ?_
    refine XO.rd rfl rfl rfl (Reads.pick_false rfl rfl) ?_
    refine XO.rd rfl rfl rfl (Reads.assign rfl) ?_
    refine XO.nil ?_
    refine XQ.then_normal ?_
    refine XC.ret ?_
    refine XQ.done1 rfl rfl (Im.le_refl _) ?_
    exact ⟨rfl, congrArg Value.bool (by simp [Pkt.isF, cmpInt, h1]), rfl⟩

theorem put_any (a : Option Addr) (cap : Nat) (xs : List Int) (I : Im) (hA : Arr I a xs) (hn : xs.length ≤ 1000) (hx : ∀ x ∈ xs, -9223372036854775808 ≤ x ∧ x ≤ 9223372036854775807) : FC Tryd.prog 60 [.slice a xs.length cap] I (fun u I' => u = .string (catX xs) ∧ I' = I) := by
  refine FSo.intro (n := 24) Tryd.func60 rfl rfl rfl (fun K Lf => ?_)
  refine XC.seq ?_
  refine XC.region ?_
  refine XO.rd rfl rfl rfl (Reads.assign rfl) ?_
  refine XO.nil ?_
  refine XQ.then_normal ?_
  refine XC.seq ?_
  refine XC.region ?_
  refine XO.rd rfl rfl rfl (Reads.assign rfl) ?_
  refine XO.nil ?_
  refine XQ.then_normal ?_
  refine XC.seq ?_
  refine XC.seq ?_
  refine XC.region ?_
  refine XO.rd rfl rfl rfl (Reads.move rfl) ?_
  refine XO.rd rfl rfl rfl (Reads.len_slice Tryd.underlying52 rfl) ?_
  refine XO.rd rfl rfl rfl (Reads.move rfl) ?_
  refine XO.nil ?_
  refine XQ.then_normal ?_
  refine XC.block ?_
  refine XC.loop (ι := Nat) (fun q => [(3, .string (catX (xs.take q))), (8, .slice a xs.length cap), (9, .int .i64 xs.length), (10, .int .i64 q)]) (fun q => I) (fun q => [] ++ Lf) (fun q => q ≤ xs.length) (fun q => xs.length - q) 0 (Nat.zero_le _) ⟨rfl, rfl, rfl, rfl, trivial⟩ rfl (List.Perm.refl _) (fun k hk => ?_)
  refine XC.seq ?_
  refine XC.region ?_
  refine XO.rd rfl rfl rfl (Reads.cmp rfl rfl rfl) ?_
  refine XO.nil ?_
  refine XQ.then_normal ?_
  refine XC.seq ?_
  refine XC.cond rfl (fun h1 => ?_) (fun h1 => ?_)
  · skip
    simp only [cmpInt, decide_eq_true_eq] at h1
    have hk3 : k < xs.length := by omega
    refine XC.skip ?_
    refine XQ.then_normal ?_
    refine XC.seq ?_
    refine XC.block ?_
    refine XC.seq ?_
    refine XC.region ?_
    refine XO.rd rfl rfl rfl (Reads.index_slot (q := k) Tryd.underlying52 z3 rfl rfl (by omega) (hA.isSome (by decide) (by omega)) (by omega)) ?_
    refine XO.rd rfl rfl rfl (Reads.load_at k3 rfl (by simpa using hA.int hk3)) ?_
    refine XO.rd rfl rfl rfl (Reads.assign rfl) ?_
    refine XO.nil ?_
    refine XQ.then_normal ?_
    refine XC.seq ?_
    refine XC.region ?_
    refine XO.rd rfl rfl rfl (Reads.move rfl) ?_
    refine XO.callp rfl rfl en66 (putInt_any xs[k] _ (hx _ (List.getElem_mem hk3))) ⟨rfl, trivial⟩ ?_
    refine XO.rd rfl rfl rfl (Reads.move rfl) ?_
    refine XO.rd rfl rfl rfl (Reads.extract rfl rfl) ?_
    refine XO.rd rfl rfl rfl (Reads.extract rfl rfl) ?_
    refine XO.rd rfl rfl rfl (Reads.assign rfl) ?_
    refine XO.rd rfl rfl rfl (Reads.assign rfl) ?_
    refine XO.nil ?_
    refine XQ.then_normal ?_
    refine XC.region ?_
    refine XO.rd rfl rfl rfl (Reads.move rfl) ?_
    refine XO.rd rfl rfl rfl (Reads.move rfl) ?_
    refine XO.rd rfl rfl rfl (Reads.sadd rfl rfl (by have h1 := catX_size (xs.take k); have h2 := putX_size xs[k]; rw [List.length_take] at h1; omega)) ?_
    rw [← catX_snoc, ← List.take_succ_eq_append_getElem hk3]
    refine XO.rd rfl rfl rfl (Reads.assign rfl) ?_
    refine XO.nil ?_
    refine XQ.block_normal ?_
    refine XQ.then_normal ?_
    refine XC.region ?_
    refine XO.rd rfl rfl rfl (Reads.add rfl rfl (by omega)) ?_
    refine XO.rd rfl rfl rfl (Reads.move rfl) ?_
    refine XO.nil ?_
    refine XQ.back (k + 1) (by omega) (by omega) ⟨rfl, rfl, rfl, rfl, trivial⟩ rfl (List.Perm.refl _)
  · skip
    simp only [cmpInt, decide_eq_false_iff_not] at h1
    rw [List.take_of_length_le (by omega)]
    refine XC.exit ?_
    refine XQ.then_exit ?_
    refine XQ.then_exit ?_
    refine XQ.block_exit ?_
    refine XQ.then_normal ?_
    refine XC.seq ?_
    refine XC.region ?_
    refine XO.rd rfl rfl rfl (Reads.move rfl) ?_
    refine XO.rd rfl rfl rfl (Reads.assign rfl) ?_
    refine XO.nil ?_
    refine XQ.then_normal ?_
    refine XC.ret ?_
    refine XQ.done1 rfl rfl (Im.le_refl _) ?_
    exact ⟨rfl, rfl, rfl⟩

theorem seal_all (key : ByteArray) (p : Pkt) (I : Im) (hk : key.size ≤ 1000000) (hp : p.In) (hG : ∃ e fr, I 0 = some (.cells (wC KR).toArray e fr)) : FC Tryd.prog 48 [.string key, .agg #[.int .i64 p.ser, .int .i64 p.ack, .string p.body, .string p.sl]] I (fun u I' => u = .string (sealF key p)) := by
  have hcs := content_size p
  have hpb := hp.body
  have hps := putS_size p.body
  have hcx := catX_size [8, p.ser, p.ack]
  refine FSo.intro (n := 24) Tryd.func48 rfl rfl rfl (fun K Lf => ?_)
  refine XC.seq ?_
  refine XC.region ?_
  refine XO.box_agg rfl rfl rfl (fun b3 => ?_)
  refine XO.rd rfl rfl rfl (Reads.assign rfl) ?_
  refine XO.nil ?_
  refine XQ.then_normal ?_
  refine XC.seq ?_
  refine XC.region ?_
  refine XO.rd rfl rfl rfl (fa24_2 rfl) ?_
  refine XO.rd rfl rfl rfl (Reads.load_own k9 rfl (by first | exact OwnAt.of 0 rfl rfl | exact OwnAt.of 1 rfl rfl | exact OwnAt.of 2 rfl rfl | exact OwnAt.of 3 rfl rfl | exact OwnAt.of 4 rfl rfl | exact OwnAt.of 5 rfl rfl)) ?_
  refine XO.callp rfl rfl en57 (putString_any p.body _ (by omega)) ⟨rfl, trivial⟩ ?_
  refine XO.rd rfl rfl rfl (Reads.move rfl) ?_
  refine XO.rd rfl rfl rfl (Reads.extract rfl rfl) ?_
  refine XO.rd rfl rfl rfl (Reads.extract rfl rfl) ?_
  refine XO.rd rfl rfl rfl (Reads.assign rfl) ?_
  refine XO.rd rfl rfl rfl (Reads.assign rfl) ?_
  refine XO.nil ?_
  refine XQ.then_normal ?_
  refine XC.seq ?_
  refine XC.region ?_
  refine XO.rd rfl rfl rfl (Reads.move rfl) ?_
  refine XO.rd rfl rfl rfl (fa24_0 rfl) ?_
  refine XO.rd rfl rfl rfl (Reads.load_own k3 rfl (by first | exact OwnAt.of 0 rfl rfl | exact OwnAt.of 1 rfl rfl | exact OwnAt.of 2 rfl rfl | exact OwnAt.of 3 rfl rfl | exact OwnAt.of 4 rfl rfl | exact OwnAt.of 5 rfl rfl)) ?_
  refine XO.rd rfl rfl rfl (fa24_1 rfl) ?_
  refine XO.rd rfl rfl rfl (Reads.load_own k3 rfl (by first | exact OwnAt.of 0 rfl rfl | exact OwnAt.of 1 rfl rfl | exact OwnAt.of 2 rfl rfl | exact OwnAt.of 3 rfl rfl | exact OwnAt.of 4 rfl rfl | exact OwnAt.of 5 rfl rfl)) ?_
  refine XO.lit (α := Int) [8, p.ser, p.ack] [.int .i64 8, .int .i64 p.ser, .int .i64 p.ack] [.int .i64 8, .int .i64 p.ser, .int .i64 p.ack] rfl rfl Tryd.underlying52 el3 rfl (by simp) ⟨rfl, rfl, rfl, rfl, rfl, rfl, trivial⟩ rfl rfl (by decide) rfl (.cons (cs := [.int .i64 8]) rfl (.cons (cs := [.int .i64 p.ser]) rfl (.cons (cs := [.int .i64 p.ack]) rfl .nil))) (fun bl J1 hle1 hsl => ?_)
  have hG1 : ∃ e fr, J1 0 = some (.cells (wC KR).toArray e fr) := let ⟨e, fr, h⟩ := hG; ⟨e, fr, hle1 _ _ h⟩
  refine XO.callp rfl rfl en60 (put_any _ _ [8, p.ser, p.ack] J1 hsl.arr.1 (by simp) (by simp only [List.mem_cons, List.not_mem_nil, or_false]; rintro x (rfl | rfl | rfl); decide; exact hp.ser; exact hp.ack)) ⟨rfl, trivial⟩ ?_
  refine XO.rd rfl rfl rfl (Reads.move rfl) ?_
  refine XO.rd rfl rfl rfl (Reads.sadd rfl rfl (by simp only [List.length_cons, List.length_nil] at hcx; omega)) ?_
  rw [content_catX]
  refine XO.callp rfl rfl en59 (FC.pure (leaf_all (content p) _ (by omega) hG1)) ⟨rfl, trivial⟩ ?_
  refine XO.callp rfl rfl en58 (FC.pure (node_all key (leaf (content p)) _ (by omega) (by rw [leaf, sha_size]; decide) hG1)) ⟨rfl, rfl, trivial⟩ ?_
  refine XO.rd rfl rfl rfl (Reads.assign rfl) ?_
  refine XO.nil ?_
  refine XQ.then_normal ?_
  refine XC.ret ?_
  refine XQ.dropn 1 ?_
  refine XQ.done1 (L := []) rfl rfl hle1 ?_
  exact ⟨rfl, rfl⟩

theorem genuine_all (key : ByteArray) (p : Pkt) (I : Im) (hk : key.size ≤ 1000000) (hp : p.In) (hG : ∃ e fr, I 0 = some (.cells (wC KR).toArray e fr)) : FC Tryd.prog 29 [.string key, .agg #[.int .i64 p.ser, .int .i64 p.ack, .string p.body, .string p.sl]] I (fun u I' => u = .bool (genF key p)) := by
  refine FSo.intro (n := 48) Tryd.func29 rfl rfl rfl (fun K Lf => ?_)
  refine XC.seq ?_
  refine XC.region ?_
  refine XO.box_agg rfl rfl rfl (fun b3 => ?_)
  refine XO.rd rfl rfl rfl (Reads.assign rfl) ?_
  refine XO.nil ?_
  refine XQ.then_normal ?_
  refine XC.seq ?_
  refine XC.seq ?_
  refine XC.region ?_
  refine XO.rd rfl rfl rfl (Reads.move rfl) ?_
  refine XO.callp rfl rfl en50 (isKey_any key _) ⟨rfl, trivial⟩ ?_
  refine XO.rd rfl rfl rfl (Reads.not rfl) ?_
  refine XO.rd rfl rfl rfl (Reads.move rfl) ?_
  refine XO.split (d := 8) rfl (fun h1 => ?_) (fun h1 => ?_)
  · skip
    simp only [Bool.not_eq_true', decide_eq_false_iff_not] at h1
    refine XO.s (wg rfl rfl rfl) rfl ?_
    refine XO.s (wg rfl rfl rfl) rfl ?_
    refine XO.s (wg rfl rfl rfl) rfl ?_
    refine XO.s (wg rfl rfl rfl) rfl ?_
    refine XO.rd rfl rfl rfl (Reads.pick_true rfl rfl) ?_
    refine XO.rd rfl rfl rfl (Reads.move rfl) ?_
    refine XO.s (wg rfl rfl rfl) rfl ?_
    refine XO.s (wg rfl rfl rfl) rfl ?_
    refine XO.s (wg rfl rfl rfl) rfl ?_
    refine XO.s (wg rfl rfl rfl) rfl ?_
    refine XO.rd rfl rfl rfl (Reads.pick_true rfl rfl) ?_
    refine XO.rd rfl rfl rfl (Reads.move rfl) ?_
    refine XO.s (wg rfl rfl rfl) rfl ?_
    refine XO.s (wg rfl rfl rfl) rfl ?_
    refine XO.s (wg rfl rfl rfl) rfl ?_
    refine XO.s (wg rfl rfl rfl) rfl ?_
    refine XO.rd rfl rfl rfl (Reads.pick_true rfl rfl) ?_
    refine XO.rd rfl rfl rfl (Reads.move rfl) ?_
    refine XO.s (wg rfl rfl rfl) rfl ?_
    refine XO.s (wg rfl rfl rfl) rfl ?_
    refine XO.s (wg rfl rfl rfl) rfl ?_
    refine XO.s (wg rfl rfl rfl) rfl ?_
    refine XO.rd rfl rfl rfl (Reads.pick_true rfl rfl) ?_
    refine XO.rd rfl rfl rfl (Reads.move rfl) ?_
    refine XO.s (wg rfl rfl rfl) rfl ?_
    refine XO.s (wg rfl rfl rfl) rfl ?_
    refine XO.s (wg rfl rfl rfl) rfl ?_
    refine XO.s (wg rfl rfl rfl) rfl ?_
    refine XO.s (wgu rfl rfl) rfl ?_
    refine XO.s (wgu rfl rfl) rfl ?_
    refine XO.s (wgu rfl rfl) rfl ?_
    refine XO.s (wg rfl rfl rfl) rfl ?_
    refine XO.rd rfl rfl rfl (Reads.pick_true rfl rfl) ?_
    refine XO.nil ?_
    refine XQ.then_normal ?_
    refine XC.cond rfl (fun _ => ?_) (fun hx => by cases hx)
    refine XC.seq ?_
    refine XC.region ?_
    refine XO.rd rfl rfl rfl (Reads.assign rfl) ?_
    refine XO.nil ?_
    refine XQ.then_normal ?_
    refine XC.ret ?_
    refine XQ.then_ret ?_
    refine XQ.dropn 1 ?_
    refine XQ.done1 (L := []) rfl rfl (Im.le_refl _) ?_
    refine ⟨rfl, congrArg Value.bool ?_⟩
    apply Bool.eq_iff_iff.2
    rw [genF_iff]
    simp only [Pkt.isF, Bool.and_eq_true, Bool.and_eq_false_iff, decide_eq_true_eq, decide_eq_false_iff_not] at *
    constructor
    · intro h0
      first | exact absurd h0 (by decide) | exact ⟨h1, ⟨by omega, by omega, by omega, by omega, by omega, (by first | (intro hz; omega) | (intro _; assumption)), h2⟩, h0⟩
    · rintro ⟨ha, ⟨a1, a2, a3, a4, a5, a6, a7⟩, hs⟩
      first | exact hs | (exfalso; omega) | exact absurd ha (by assumption) | exact absurd a7 (by assumption) | exact absurd (a6 (by assumption)) (by assumption)
  · skip
    simp only [Bool.not_eq_false', decide_eq_true_eq] at h1
    refine XO.rd (wg rfl rfl rfl) rfl rfl (fa24_3 rfl) ?_
    refine XO.rd (wg rfl rfl rfl) rfl rfl (Reads.load_own k9 rfl (by first | exact OwnAt.of 0 rfl rfl | exact OwnAt.of 1 rfl rfl | exact OwnAt.of 2 rfl rfl | exact OwnAt.of 3 rfl rfl | exact OwnAt.of 4 rfl rfl | exact OwnAt.of 5 rfl rfl)) ?_
    refine XO.callp (wg rfl rfl rfl) rfl en50 (isKey_any p.sl _) ⟨rfl, trivial⟩ ?_
    refine XO.rd (wg rfl rfl rfl) rfl rfl (Reads.not rfl) ?_
    refine XO.rd rfl rfl rfl (Reads.pick_false rfl rfl) ?_
    refine XO.rd rfl rfl rfl (Reads.move rfl) ?_
    refine XO.split (d := 14) rfl (fun h2 => ?_) (fun h2 => ?_)
    · skip
      simp only [Bool.not_eq_true', decide_eq_false_iff_not] at h2
      refine XO.s (wg rfl rfl rfl) rfl ?_
      refine XO.s (wg rfl rfl rfl) rfl ?_
      refine XO.s (wg rfl rfl rfl) rfl ?_
      refine XO.s (wg rfl rfl rfl) rfl ?_
      refine XO.rd rfl rfl rfl (Reads.pick_true rfl rfl) ?_
      refine XO.rd rfl rfl rfl (Reads.move rfl) ?_
      refine XO.s (wg rfl rfl rfl) rfl ?_
      refine XO.s (wg rfl rfl rfl) rfl ?_
      refine XO.s (wg rfl rfl rfl) rfl ?_
      refine XO.s (wg rfl rfl rfl) rfl ?_
      refine XO.rd rfl rfl rfl (Reads.pick_true rfl rfl) ?_
      refine XO.rd rfl rfl rfl (Reads.move rfl) ?_
      refine XO.s (wg rfl rfl rfl) rfl ?_
      refine XO.s (wg rfl rfl rfl) rfl ?_
      refine XO.s (wg rfl rfl rfl) rfl ?_
      refine XO.s (wg rfl rfl rfl) rfl ?_
      refine XO.rd rfl rfl rfl (Reads.pick_true rfl rfl) ?_
      refine XO.rd rfl rfl rfl (Reads.move rfl) ?_
      refine XO.s (wg rfl rfl rfl) rfl ?_
      refine XO.s (wg rfl rfl rfl) rfl ?_
      refine XO.s (wg rfl rfl rfl) rfl ?_
      refine XO.s (wg rfl rfl rfl) rfl ?_
      refine XO.s (wgu rfl rfl) rfl ?_
      refine XO.s (wgu rfl rfl) rfl ?_
      refine XO.s (wgu rfl rfl) rfl ?_
      refine XO.s (wg rfl rfl rfl) rfl ?_
      refine XO.rd rfl rfl rfl (Reads.pick_true rfl rfl) ?_
      refine XO.nil ?_
      refine XQ.then_normal ?_
      refine XC.cond rfl (fun _ => ?_) (fun hx => by cases hx)
      refine XC.seq ?_
      refine XC.region ?_
      refine XO.rd rfl rfl rfl (Reads.assign rfl) ?_
      refine XO.nil ?_
      refine XQ.then_normal ?_
      refine XC.ret ?_
      refine XQ.then_ret ?_
      refine XQ.dropn 1 ?_
      refine XQ.done1 (L := []) rfl rfl (Im.le_refl _) ?_
      refine ⟨rfl, congrArg Value.bool ?_⟩
      apply Bool.eq_iff_iff.2
      rw [genF_iff]
      simp only [Pkt.isF, Bool.and_eq_true, Bool.and_eq_false_iff, decide_eq_true_eq, decide_eq_false_iff_not] at *
      constructor
      · intro h0
        first | exact absurd h0 (by decide) | exact ⟨h1, ⟨by omega, by omega, by omega, by omega, by omega, (by first | (intro hz; omega) | (intro _; assumption)), h2⟩, h0⟩
      · rintro ⟨ha, ⟨a1, a2, a3, a4, a5, a6, a7⟩, hs⟩
        first | exact hs | (exfalso; omega) | exact absurd ha (by assumption) | exact absurd a7 (by assumption) | exact absurd (a6 (by assumption)) (by assumption)
    · skip
      simp only [Bool.not_eq_false', decide_eq_true_eq] at h2
      refine XO.rd (wg rfl rfl rfl) rfl rfl (fa24_0 rfl) ?_
      refine XO.rd (wg rfl rfl rfl) rfl rfl (Reads.load_own k3 rfl (by first | exact OwnAt.of 0 rfl rfl | exact OwnAt.of 1 rfl rfl | exact OwnAt.of 2 rfl rfl | exact OwnAt.of 3 rfl rfl | exact OwnAt.of 4 rfl rfl | exact OwnAt.of 5 rfl rfl)) ?_
      refine XO.callp (wg rfl rfl rfl) rfl en49 (isIn_any _ _ _ _) ⟨rfl, rfl, rfl, trivial⟩ ?_
      refine XO.rd (wg rfl rfl rfl) rfl rfl (Reads.not rfl) ?_
      refine XO.rd rfl rfl rfl (Reads.pick_false rfl rfl) ?_
      refine XO.rd rfl rfl rfl (Reads.move rfl) ?_
      refine XO.split (d := 20) rfl (fun h3 => ?_) (fun h3 => ?_)
      · skip
        simp only [Bool.not_eq_true'] at h3
        refine XO.s (wg rfl rfl rfl) rfl ?_
        refine XO.s (wg rfl rfl rfl) rfl ?_
        refine XO.s (wg rfl rfl rfl) rfl ?_
        refine XO.s (wg rfl rfl rfl) rfl ?_
        refine XO.rd rfl rfl rfl (Reads.pick_true rfl rfl) ?_
        refine XO.rd rfl rfl rfl (Reads.move rfl) ?_
        refine XO.s (wg rfl rfl rfl) rfl ?_
        refine XO.s (wg rfl rfl rfl) rfl ?_
        refine XO.s (wg rfl rfl rfl) rfl ?_
        refine XO.s (wg rfl rfl rfl) rfl ?_
        refine XO.rd rfl rfl rfl (Reads.pick_true rfl rfl) ?_
        refine XO.rd rfl rfl rfl (Reads.move rfl) ?_
        refine XO.s (wg rfl rfl rfl) rfl ?_
        refine XO.s (wg rfl rfl rfl) rfl ?_
        refine XO.s (wg rfl rfl rfl) rfl ?_
        refine XO.s (wg rfl rfl rfl) rfl ?_
        refine XO.s (wgu rfl rfl) rfl ?_
        refine XO.s (wgu rfl rfl) rfl ?_
        refine XO.s (wgu rfl rfl) rfl ?_
        refine XO.s (wg rfl rfl rfl) rfl ?_
        refine XO.rd rfl rfl rfl (Reads.pick_true rfl rfl) ?_
        refine XO.nil ?_
        refine XQ.then_normal ?_
        refine XC.cond rfl (fun _ => ?_) (fun hx => by cases hx)
        refine XC.seq ?_
        refine XC.region ?_
        refine XO.rd rfl rfl rfl (Reads.assign rfl) ?_
        refine XO.nil ?_
        refine XQ.then_normal ?_
        refine XC.ret ?_
        refine XQ.then_ret ?_
        refine XQ.dropn 1 ?_
        refine XQ.done1 (L := []) rfl rfl (Im.le_refl _) ?_
        refine ⟨rfl, congrArg Value.bool ?_⟩
        apply Bool.eq_iff_iff.2
        rw [genF_iff]
        simp only [Pkt.isF, Bool.and_eq_true, Bool.and_eq_false_iff, decide_eq_true_eq, decide_eq_false_iff_not] at *
        constructor
        · intro h0
          first | exact absurd h0 (by decide) | exact ⟨h1, ⟨by omega, by omega, by omega, by omega, by omega, (by first | (intro hz; omega) | (intro _; assumption)), h2⟩, h0⟩
        · rintro ⟨ha, ⟨a1, a2, a3, a4, a5, a6, a7⟩, hs⟩
          first | exact hs | (exfalso; omega) | exact absurd ha (by assumption) | exact absurd a7 (by assumption) | exact absurd (a6 (by assumption)) (by assumption)
      · skip
        simp only [Bool.not_eq_false'] at h3
        refine XO.rd (wg rfl rfl rfl) rfl rfl (fa24_1 rfl) ?_
        refine XO.rd (wg rfl rfl rfl) rfl rfl (Reads.load_own k3 rfl (by first | exact OwnAt.of 0 rfl rfl | exact OwnAt.of 1 rfl rfl | exact OwnAt.of 2 rfl rfl | exact OwnAt.of 3 rfl rfl | exact OwnAt.of 4 rfl rfl | exact OwnAt.of 5 rfl rfl)) ?_
        refine XO.callp (wg rfl rfl rfl) rfl en49 (isIn_any _ _ _ _) ⟨rfl, rfl, rfl, trivial⟩ ?_
        refine XO.rd (wg rfl rfl rfl) rfl rfl (Reads.not rfl) ?_
        refine XO.rd rfl rfl rfl (Reads.pick_false rfl rfl) ?_
        refine XO.rd rfl rfl rfl (Reads.move rfl) ?_
        refine XO.split (d := 26) rfl (fun h4 => ?_) (fun h4 => ?_)
        · skip
          simp only [Bool.not_eq_true'] at h4
          refine XO.s (wg rfl rfl rfl) rfl ?_
          refine XO.s (wg rfl rfl rfl) rfl ?_
          refine XO.s (wg rfl rfl rfl) rfl ?_
          refine XO.s (wg rfl rfl rfl) rfl ?_
          refine XO.rd rfl rfl rfl (Reads.pick_true rfl rfl) ?_
          refine XO.rd rfl rfl rfl (Reads.move rfl) ?_
          refine XO.s (wg rfl rfl rfl) rfl ?_
          refine XO.s (wg rfl rfl rfl) rfl ?_
          refine XO.s (wg rfl rfl rfl) rfl ?_
          refine XO.s (wg rfl rfl rfl) rfl ?_
          refine XO.s (wgu rfl rfl) rfl ?_
          refine XO.s (wgu rfl rfl) rfl ?_
          refine XO.s (wgu rfl rfl) rfl ?_
          refine XO.s (wg rfl rfl rfl) rfl ?_
          refine XO.rd rfl rfl rfl (Reads.pick_true rfl rfl) ?_
          refine XO.nil ?_
          refine XQ.then_normal ?_
          refine XC.cond rfl (fun _ => ?_) (fun hx => by cases hx)
          refine XC.seq ?_
          refine XC.region ?_
          refine XO.rd rfl rfl rfl (Reads.assign rfl) ?_
          refine XO.nil ?_
          refine XQ.then_normal ?_
          refine XC.ret ?_
          refine XQ.then_ret ?_
          refine XQ.dropn 1 ?_
          refine XQ.done1 (L := []) rfl rfl (Im.le_refl _) ?_
          refine ⟨rfl, congrArg Value.bool ?_⟩
          apply Bool.eq_iff_iff.2
          rw [genF_iff]
          simp only [Pkt.isF, Bool.and_eq_true, Bool.and_eq_false_iff, decide_eq_true_eq, decide_eq_false_iff_not] at *
          constructor
          · intro h0
            first | exact absurd h0 (by decide) | exact ⟨h1, ⟨by omega, by omega, by omega, by omega, by omega, (by first | (intro hz; omega) | (intro _; assumption)), h2⟩, h0⟩
          · rintro ⟨ha, ⟨a1, a2, a3, a4, a5, a6, a7⟩, hs⟩
            first | exact hs | (exfalso; omega) | exact absurd ha (by assumption) | exact absurd a7 (by assumption) | exact absurd (a6 (by assumption)) (by assumption)
        · skip
          simp only [Bool.not_eq_false'] at h4
          refine XO.rd (wg rfl rfl rfl) rfl rfl (fa24_2 rfl) ?_
          refine XO.rd (wg rfl rfl rfl) rfl rfl (Reads.load_own k9 rfl (by first | exact OwnAt.of 0 rfl rfl | exact OwnAt.of 1 rfl rfl | exact OwnAt.of 2 rfl rfl | exact OwnAt.of 3 rfl rfl | exact OwnAt.of 4 rfl rfl | exact OwnAt.of 5 rfl rfl)) ?_
          refine XO.rd (wg rfl rfl rfl) rfl rfl (Reads.len_string Tryd.underlying9 rfl) ?_
          refine XO.rd (wg rfl rfl rfl) rfl rfl (Reads.cmp rfl rfl rfl) ?_
          refine XO.rd rfl rfl rfl (Reads.pick_false rfl rfl) ?_
          refine XO.rd rfl rfl rfl (Reads.move rfl) ?_
          refine XO.split (d := 32) rfl (fun h5 => ?_) (fun h5 => ?_)
          · skip
            simp only [cmpInt, decide_eq_true_eq] at h5
            refine XO.s (wg rfl rfl rfl) rfl ?_
            refine XO.s (wg rfl rfl rfl) rfl ?_
            refine XO.s (wg rfl rfl rfl) rfl ?_
            refine XO.s (wg rfl rfl rfl) rfl ?_
            refine XO.s (wgu rfl rfl) rfl ?_
            refine XO.s (wgu rfl rfl) rfl ?_
            refine XO.s (wgu rfl rfl) rfl ?_
            refine XO.s (wg rfl rfl rfl) rfl ?_
            refine XO.rd rfl rfl rfl (Reads.pick_true rfl rfl) ?_
            refine XO.nil ?_
            refine XQ.then_normal ?_
            refine XC.cond rfl (fun _ => ?_) (fun hx => by cases hx)
            refine XC.seq ?_
            refine XC.region ?_
            refine XO.rd rfl rfl rfl (Reads.assign rfl) ?_
            refine XO.nil ?_
            refine XQ.then_normal ?_
            refine XC.ret ?_
            refine XQ.then_ret ?_
            refine XQ.dropn 1 ?_
            refine XQ.done1 (L := []) rfl rfl (Im.le_refl _) ?_
            refine ⟨rfl, congrArg Value.bool ?_⟩
            apply Bool.eq_iff_iff.2
            rw [genF_iff]
            simp only [Pkt.isF, Bool.and_eq_true, Bool.and_eq_false_iff, decide_eq_true_eq, decide_eq_false_iff_not] at *
            constructor
            · intro h0
              first | exact absurd h0 (by decide) | exact ⟨h1, ⟨by omega, by omega, by omega, by omega, by omega, (by first | (intro hz; omega) | (intro _; assumption)), h2⟩, h0⟩
            · rintro ⟨ha, ⟨a1, a2, a3, a4, a5, a6, a7⟩, hs⟩
              first | exact hs | (exfalso; omega) | exact absurd ha (by assumption) | exact absurd a7 (by assumption) | exact absurd (a6 (by assumption)) (by assumption)
          · skip
            simp only [cmpInt, decide_eq_false_iff_not] at h5
            refine XO.rd (wg rfl rfl rfl) rfl rfl (fa24_0 rfl) ?_
            refine XO.rd (wg rfl rfl rfl) rfl rfl (Reads.load_own k3 rfl (by first | exact OwnAt.of 0 rfl rfl | exact OwnAt.of 1 rfl rfl | exact OwnAt.of 2 rfl rfl | exact OwnAt.of 3 rfl rfl | exact OwnAt.of 4 rfl rfl | exact OwnAt.of 5 rfl rfl)) ?_
            refine XO.rd (wg rfl rfl rfl) rfl rfl (Reads.cmp rfl rfl rfl) ?_
            refine XO.rd (wg rfl rfl rfl) rfl rfl (Reads.move rfl) ?_
            refine XO.split (d := 36) rfl (fun h6 => ?_) (fun h6 => ?_)
            · skip
              simp only [cmpInt, beq_iff_eq] at h6
              refine XO.rd (wg rfl rfl rfl) rfl rfl (fa24_2 rfl) ?_
              refine XO.rd (wg rfl rfl rfl) rfl rfl (Reads.load_own k9 rfl (by first | exact OwnAt.of 0 rfl rfl | exact OwnAt.of 1 rfl rfl | exact OwnAt.of 2 rfl rfl | exact OwnAt.of 3 rfl rfl | exact OwnAt.of 4 rfl rfl | exact OwnAt.of 5 rfl rfl)) ?_
              refine XO.rd (wg rfl rfl rfl) rfl rfl (Reads.sne rfl rfl) ?_
              refine XO.rd (wg rfl rfl rfl) rfl rfl (Reads.pick_true rfl rfl) ?_
              refine XO.rd rfl rfl rfl (Reads.pick_false rfl rfl) ?_
              refine XO.nil ?_
              refine XQ.then_normal ?_
              refine XC.cond rfl (fun h7 => ?_) (fun h7 => ?_)
              · skip
                simp only [Bool.not_eq_true', decide_eq_false_iff_not] at h7
                refine XC.seq ?_
                refine XC.region ?_
                refine XO.rd rfl rfl rfl (Reads.assign rfl) ?_
                refine XO.nil ?_
                refine XQ.then_normal ?_
                refine XC.ret ?_
                refine XQ.then_ret ?_
                refine XQ.dropn 1 ?_
                refine XQ.done1 (L := []) rfl rfl (Im.le_refl _) ?_
                refine ⟨rfl, congrArg Value.bool ?_⟩
                apply Bool.eq_iff_iff.2
                rw [genF_iff]
                simp only [Pkt.isF, Bool.and_eq_true, Bool.and_eq_false_iff, decide_eq_true_eq, decide_eq_false_iff_not] at *
                constructor
                · intro h0
                  first | exact absurd h0 (by decide) | exact ⟨h1, ⟨by omega, by omega, by omega, by omega, by omega, (by first | (intro hz; omega) | (intro _; assumption)), h2⟩, h0⟩
                · rintro ⟨ha, ⟨a1, a2, a3, a4, a5, a6, a7⟩, hs⟩
                  first | exact hs | (exfalso; omega) | exact absurd ha (by assumption) | exact absurd a7 (by assumption) | exact absurd (a6 (by assumption)) (by assumption)
              · skip
                simp only [Bool.not_eq_false', decide_eq_true_eq] at h7
                refine XC.skip ?_
                refine XQ.then_normal ?_
                refine XC.seq ?_
                refine XC.draw m_mixed none (.pure 0 (.pure 1 (.pure 2 (.pure 3 (.eff 4 (.pure 5 (.pure 6 (.done)))))))) _ (by kernel_rfl) (List.Sublist.refl _) ?_
                refine XR.rd rfl rfl rfl (fa24_3 rfl) ?_
                refine XR.rd rfl rfl rfl (Reads.load_own k9 rfl (by first | exact OwnAt.of 0 rfl rfl | exact OwnAt.of 1 rfl rfl | exact OwnAt.of 2 rfl rfl | exact OwnAt.of 3 rfl rfl | exact OwnAt.of 4 rfl rfl | exact OwnAt.of 5 rfl rfl)) ?_
                refine XR.rd rfl rfl rfl (Reads.move rfl) ?_
                refine XR.rd rfl rfl rfl (Reads.load_whole k24 z24 rfl (by first | exact WholeAt.of 0 rfl | exact WholeAt.of 1 rfl | exact WholeAt.of 2 rfl | exact WholeAt.of 3 rfl | exact WholeAt.of 4 rfl | exact WholeAt.of 5 rfl) (by rfl)) ?_
                refine XR.callp rfl rfl rfl en48 (FC.pure (seal_all key p _ hk hp hG)) ⟨rfl, rfl, trivial⟩ (List.Sublist.refl _) ?_
                refine XR.rd rfl rfl rfl (Reads.seq rfl rfl) ?_
                refine XR.rd rfl rfl rfl (Reads.assign rfl) ?_
                refine XR.nil ?_
                refine XQ.then_normal ?_
                refine XC.ret ?_
                refine XQ.dropn 1 ?_
                refine XQ.done1 (L := []) rfl rfl (Im.le_refl _) ?_
                refine ⟨rfl, congrArg Value.bool ?_⟩
                apply Bool.eq_iff_iff.2
                rw [genF_iff]
                simp only [Pkt.isF, Bool.and_eq_true, Bool.and_eq_false_iff, decide_eq_true_eq, decide_eq_false_iff_not] at *
                constructor
                · intro h0
                  first | exact absurd h0 (by decide) | exact ⟨h1, ⟨by omega, by omega, by omega, by omega, by omega, (by first | (intro hz; omega) | (intro _; assumption)), h2⟩, h0⟩
                · rintro ⟨ha, ⟨a1, a2, a3, a4, a5, a6, a7⟩, hs⟩
                  first | exact hs | (exfalso; omega) | exact absurd ha (by assumption) | exact absurd a7 (by assumption) | exact absurd (a6 (by assumption)) (by assumption)
            · skip
              simp only [cmpInt, beq_eq_false_iff_ne] at h6
              refine XO.s (wg rfl rfl rfl) rfl ?_
              refine XO.s (wg rfl rfl rfl) rfl ?_
              refine XO.s (wg rfl rfl rfl) rfl ?_
              refine XO.rd (wg rfl rfl rfl) rfl rfl (Reads.pick_false rfl rfl) ?_
              refine XO.rd rfl rfl rfl (Reads.pick_false rfl rfl) ?_
              refine XO.nil ?_
              refine XQ.then_normal ?_
              refine XC.cond rfl (fun hx => by cases hx) (fun _ => ?_)
              refine XC.skip ?_
              refine XQ.then_normal ?_
              refine XC.seq ?_
              refine XC.draw m_mixed none (.pure 0 (.pure 1 (.pure 2 (.pure 3 (.eff 4 (.pure 5 (.pure 6 (.done)))))))) _ (by kernel_rfl) (List.Sublist.refl _) ?_
              refine XR.rd rfl rfl rfl (fa24_3 rfl) ?_
              refine XR.rd rfl rfl rfl (Reads.load_own k9 rfl (by first | exact OwnAt.of 0 rfl rfl | exact OwnAt.of 1 rfl rfl | exact OwnAt.of 2 rfl rfl | exact OwnAt.of 3 rfl rfl | exact OwnAt.of 4 rfl rfl | exact OwnAt.of 5 rfl rfl)) ?_
              refine XR.rd rfl rfl rfl (Reads.move rfl) ?_
              refine XR.rd rfl rfl rfl (Reads.load_whole k24 z24 rfl (by first | exact WholeAt.of 0 rfl | exact WholeAt.of 1 rfl | exact WholeAt.of 2 rfl | exact WholeAt.of 3 rfl | exact WholeAt.of 4 rfl | exact WholeAt.of 5 rfl) (by rfl)) ?_
              refine XR.callp rfl rfl rfl en48 (FC.pure (seal_all key p _ hk hp hG)) ⟨rfl, rfl, trivial⟩ (List.Sublist.refl _) ?_
              refine XR.rd rfl rfl rfl (Reads.seq rfl rfl) ?_
              refine XR.rd rfl rfl rfl (Reads.assign rfl) ?_
              refine XR.nil ?_
              refine XQ.then_normal ?_
              refine XC.ret ?_
              refine XQ.dropn 1 ?_
              refine XQ.done1 (L := []) rfl rfl (Im.le_refl _) ?_
              refine ⟨rfl, congrArg Value.bool ?_⟩
              apply Bool.eq_iff_iff.2
              rw [genF_iff]
              simp only [Pkt.isF, Bool.and_eq_true, Bool.and_eq_false_iff, decide_eq_true_eq, decide_eq_false_iff_not] at *
              constructor
              · intro h0
                first | exact absurd h0 (by decide) | exact ⟨h1, ⟨by omega, by omega, by omega, by omega, by omega, (by first | (intro hz; omega) | (intro _; assumption)), h2⟩, h0⟩
              · rintro ⟨ha, ⟨a1, a2, a3, a4, a5, a6, a7⟩, hs⟩
                first | exact hs | (exfalso; omega) | exact absurd ha (by assumption) | exact absurd a7 (by assumption) | exact absurd (a6 (by assumption)) (by assumption)

end Go.Proofs.YtkjhhifhgcihpaaDoor
