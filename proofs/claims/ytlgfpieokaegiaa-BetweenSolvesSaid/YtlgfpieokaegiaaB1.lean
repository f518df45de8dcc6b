/- Walks of layer 6: the small functions. -/
import Derived.Test.YtlgfpieokaegiaaT
import Derived.Test.YtlgfpieokaegiaaXD
import Derived.Test.YtlgfpieokaegiaaXb
namespace Go.Proofs.Ytlgfpieokaegiaa
open Go.Xe

theorem isIn_any (a b c : Int) (I : Im) : FC Try.prog 47 [.int .i64 a, .int .i64 b, .int .i64 c] I (fun u I' => u = .bool (inB a b c) ∧ I' = I) := by
  refine FSo.intro (n := 15) Try.func47 rfl rfl rfl (fun K Lf => ?_)
  refine XC.seq ?_
  refine XC.region ?_
  refine XO.rd rfl rfl rfl (Reads.assign rfl) ?_
  refine XO.nil ?_
  refine XQ.then_normal ?_
  refine XC.seq ?_
  refine XC.region ?_
  refine XO.rd rfl rfl rfl (Reads.move rfl) ?_
  refine XO.rd rfl rfl rfl (Reads.move rfl) ?_
  refine XO.rd rfl rfl rfl (Reads.cmp rfl rfl rfl) ?_
  refine XO.rd rfl rfl rfl (Reads.move rfl) ?_
  refine XO.split (d := 10) rfl (fun h1 => ?_) (fun h1 => ?_)
  · skip
    try simp only [cmpInt, decide_eq_true_eq, decide_eq_false_iff_not, beq_iff_eq, bne_iff_ne, beq_eq_false_iff_ne, bne_eq_false_iff_eq] at h1
    refine XO.rd (wg rfl rfl rfl) rfl rfl (Reads.move rfl) ?_
    refine XO.rd (wg rfl rfl rfl) rfl rfl (Reads.move rfl) ?_
    refine XO.rd (wg rfl rfl rfl) rfl rfl (Reads.cmp rfl rfl rfl) ?_
    refine XO.rd rfl rfl rfl (Reads.pick_true rfl rfl) ?_
    refine XO.rd rfl rfl rfl (Reads.assign rfl) ?_
    refine XO.nil ?_
    refine XQ.then_normal ?_
    refine XC.ret ?_
    refine XQ.done1 rfl rfl (Im.le_refl _) ?_
    simp [inB, cmpInt, *]
  · skip
    try simp only [cmpInt, decide_eq_true_eq, decide_eq_false_iff_not, beq_iff_eq, bne_iff_ne, beq_eq_false_iff_ne, bne_eq_false_iff_eq] at h1
    refine XO.s (wg rfl rfl rfl) rfl ?_
    refine XO.s (wg rfl rfl rfl) rfl ?_
    refine XO.s (wg rfl rfl rfl) rfl ?_
    refine XO.rd rfl rfl rfl (Reads.pick_false rfl rfl) ?_
    refine XO.rd rfl rfl rfl (Reads.assign rfl) ?_
    refine XO.nil ?_
    refine XQ.then_normal ?_
    refine XC.ret ?_
    refine XQ.done1 rfl rfl (Im.le_refl _) ?_
    simp [inB, cmpInt, *]

theorem plus_any (a b : Int) (I : Im) : FC Try.prog 43 [.int .i64 a, .int .i64 b] I (fun u I' => u = .int .i64 (plusW a b) ∧ I' = I) := by
  refine FSo.intro (n := 14) Try.func43 rfl rfl rfl (fun K Lf => ?_)
  refine XC.seq ?_
  refine XC.region ?_
  refine XO.rd rfl rfl rfl (Reads.assign rfl) ?_
  refine XO.nil ?_
  refine XQ.then_normal ?_
  refine XC.seq ?_
  refine XC.seq ?_
  refine XC.region ?_
  refine XO.rd rfl rfl rfl (Reads.move rfl) ?_
  refine XO.rd rfl rfl rfl (Reads.cmp rfl rfl rfl) ?_
  refine XO.rd rfl rfl rfl (Reads.move rfl) ?_
  refine XO.split (d := 7) rfl (fun h1 => ?_) (fun h1 => ?_)
  · skip
    try simp only [cmpInt, decide_eq_true_eq, decide_eq_false_iff_not, beq_iff_eq, bne_iff_ne, beq_eq_false_iff_ne, bne_eq_false_iff_eq] at h1
    refine XO.s (wg rfl rfl rfl) rfl ?_
    refine XO.s (wg rfl rfl rfl) rfl ?_
    refine XO.rd rfl rfl rfl (Reads.pick_true rfl rfl) ?_
    refine XO.nil ?_
    refine XQ.then_normal ?_
    refine XC.cond rfl (fun _ => ?_) (fun hx => by cases hx)
    refine XC.seq ?_
    refine XC.region ?_
    refine XO.rd rfl rfl rfl (Reads.assign rfl) ?_
    refine XO.nil ?_
    refine XQ.then_normal ?_
    refine XC.ret ?_
    refine XQ.then_ret ?_
    refine XQ.done1 rfl rfl (Im.le_refl _) ?_
    simp_all [plusW, far, cmpInt]
  · skip
    try simp only [cmpInt, decide_eq_true_eq, decide_eq_false_iff_not, beq_iff_eq, bne_iff_ne, beq_eq_false_iff_ne, bne_eq_false_iff_eq] at h1
    refine XO.rd (wg rfl rfl rfl) rfl rfl (Reads.move rfl) ?_
    refine XO.rd (wg rfl rfl rfl) rfl rfl (Reads.cmp rfl rfl rfl) ?_
    refine XO.rd rfl rfl rfl (Reads.pick_false rfl rfl) ?_
    refine XO.nil ?_
    refine XQ.then_normal ?_
    refine XC.cond rfl (fun h2 => ?_) (fun h2 => ?_)
    · skip
      try simp only [cmpInt, decide_eq_true_eq, decide_eq_false_iff_not, beq_iff_eq, bne_iff_ne, beq_eq_false_iff_ne, bne_eq_false_iff_eq] at h2
      refine XC.seq ?_
      refine XC.region ?_
      refine XO.rd rfl rfl rfl (Reads.assign rfl) ?_
      refine XO.nil ?_
      refine XQ.then_normal ?_
      refine XC.ret ?_
      refine XQ.then_ret ?_
      refine XQ.done1 rfl rfl (Im.le_refl _) ?_
      simp_all [plusW, far, cmpInt]
    · skip
      try simp only [cmpInt, decide_eq_true_eq, decide_eq_false_iff_not, beq_iff_eq, bne_iff_ne, beq_eq_false_iff_ne, bne_eq_false_iff_eq] at h2
      refine XC.skip ?_
      refine XQ.then_normal ?_
      refine XC.seq ?_
      refine XC.region ?_
      refine XO.rd rfl rfl rfl (Reads.move rfl) ?_
      refine XO.rd rfl rfl rfl (Reads.move rfl) ?_
      refine XO.rd rfl rfl rfl (Reads.arith rfl rfl rfl) ?_
      refine XO.rd rfl rfl rfl (Reads.assign rfl) ?_
      refine XO.nil ?_
      refine XQ.then_normal ?_
      refine XC.ret ?_
      refine XQ.done1 rfl rfl (Im.le_refl _) ?_
      simp_all [plusW, far, cmpInt]

theorem isBound_any (n : Int) (x : Bnd) (I : Im) (hn : 0 ≤ n ∧ n ≤ 16) : FC Try.prog 50 [.int .i64 n, .agg x.cs.toArray] I (fun u I' => u = .bool (bndOk n x) ∧ I' = I) := by
  refine FSo.intro (n := 22) Try.func50 rfl rfl rfl (fun K Lf => ?_)
  refine XC.seq ?_
  refine XC.region ?_
  refine XO.box_agg rfl rfl rfl (fun b3 => ?_)
  refine XO.rd rfl rfl rfl (Reads.assign rfl) ?_
  refine XO.nil ?_
  refine XQ.then_normal ?_
  refine XC.seq ?_
  refine XC.region ?_
  refine XO.rd rfl rfl rfl (fa30_0 rfl) ?_
  refine XO.rd rfl rfl rfl (Reads.load_own k3 rfl (by first | exact OwnAt.of 0 rfl rfl | exact OwnAt.of 1 rfl rfl | exact OwnAt.of 2 rfl rfl | exact OwnAt.of 3 rfl rfl | exact OwnAt.of 4 rfl rfl | exact OwnAt.of 5 rfl rfl)) ?_
  refine XO.rd rfl rfl rfl (Reads.move rfl) ?_
  refine XO.rd rfl rfl rfl (Reads.sub rfl rfl (by omega)) ?_
  refine XO.callp rfl rfl en47 (isIn_any _ _ _ _) ⟨rfl, rfl, rfl, trivial⟩ ?_
  refine XO.rd rfl rfl rfl (Reads.move rfl) ?_
  refine XO.split (d := 10) rfl (fun h1 => ?_) (fun h1 => ?_)
  · skip
    try simp only [cmpInt, decide_eq_true_eq, decide_eq_false_iff_not, beq_iff_eq, bne_iff_ne, beq_eq_false_iff_ne, bne_eq_false_iff_eq] at h1
    refine XO.rd (wg rfl rfl rfl) rfl rfl (fa30_1 rfl) ?_
    refine XO.rd (wg rfl rfl rfl) rfl rfl (Reads.load_own k3 rfl (by first | exact OwnAt.of 0 rfl rfl | exact OwnAt.of 1 rfl rfl | exact OwnAt.of 2 rfl rfl | exact OwnAt.of 3 rfl rfl | exact OwnAt.of 4 rfl rfl | exact OwnAt.of 5 rfl rfl)) ?_
    refine XO.rd (wg rfl rfl rfl) rfl rfl (Reads.move rfl) ?_
    refine XO.rd (wg rfl rfl rfl) rfl rfl (Reads.sub rfl rfl (by omega)) ?_
    refine XO.callp (wg rfl rfl rfl) rfl en47 (isIn_any _ _ _ _) ⟨rfl, rfl, rfl, trivial⟩ ?_
    refine XO.rd rfl rfl rfl (Reads.pick_true rfl rfl) ?_
    refine XO.rd rfl rfl rfl (Reads.move rfl) ?_
    refine XO.split (d := 17) rfl (fun h2 => ?_) (fun h2 => ?_)
    · skip
      try simp only [cmpInt, decide_eq_true_eq, decide_eq_false_iff_not, beq_iff_eq, bne_iff_ne, beq_eq_false_iff_ne, bne_eq_false_iff_eq] at h2
      refine XO.rd (wg rfl rfl rfl) rfl rfl (fa30_2 rfl) ?_
      refine XO.rd (wg rfl rfl rfl) rfl rfl (Reads.load_own k3 rfl (by first | exact OwnAt.of 0 rfl rfl | exact OwnAt.of 1 rfl rfl | exact OwnAt.of 2 rfl rfl | exact OwnAt.of 3 rfl rfl | exact OwnAt.of 4 rfl rfl | exact OwnAt.of 5 rfl rfl)) ?_
      refine XO.callp (wg rfl rfl rfl) rfl en47 (isIn_any _ _ _ _) ⟨rfl, rfl, rfl, trivial⟩ ?_
      refine XO.rd rfl rfl rfl (Reads.pick_true rfl rfl) ?_
      refine XO.rd rfl rfl rfl (Reads.assign rfl) ?_
      refine XO.nil ?_
      refine XQ.then_normal ?_
      refine XC.ret ?_
      refine XQ.dropn 1 ?_
      refine XQ.done1 rfl rfl (Im.le_refl _) ?_
      simp [bndOk, *]
    · skip
      try simp only [cmpInt, decide_eq_true_eq, decide_eq_false_iff_not, beq_iff_eq, bne_iff_ne, beq_eq_false_iff_ne, bne_eq_false_iff_eq] at h2
      refine XO.s (wg rfl rfl rfl) rfl ?_
      refine XO.s (wg rfl rfl rfl) rfl ?_
      refine XO.s (wg rfl rfl rfl) rfl ?_
      refine XO.rd rfl rfl rfl (Reads.pick_false rfl rfl) ?_
      refine XO.rd rfl rfl rfl (Reads.assign rfl) ?_
      refine XO.nil ?_
      refine XQ.then_normal ?_
      refine XC.ret ?_
      refine XQ.dropn 1 ?_
      refine XQ.done1 rfl rfl (Im.le_refl _) ?_
      simp [bndOk, *]
  · skip
    try simp only [cmpInt, decide_eq_true_eq, decide_eq_false_iff_not, beq_iff_eq, bne_iff_ne, beq_eq_false_iff_ne, bne_eq_false_iff_eq] at h1
    refine XO.s (wg rfl rfl rfl) rfl ?_
    refine XO.s (wg rfl rfl rfl) rfl ?_
    refine XO.s (wg rfl rfl rfl) rfl ?_
    refine XO.s (wg rfl rfl rfl) rfl ?_
    refine XO.s (wg rfl rfl rfl) rfl ?_
    refine XO.rd rfl rfl rfl (Reads.pick_false rfl rfl) ?_
    refine XO.rd rfl rfl rfl (Reads.move rfl) ?_
    refine XO.s (wg rfl rfl rfl) rfl ?_
    refine XO.s (wg rfl rfl rfl) rfl ?_
    refine XO.s (wg rfl rfl rfl) rfl ?_
    refine XO.rd rfl rfl rfl (Reads.pick_false rfl rfl) ?_
    refine XO.rd rfl rfl rfl (Reads.assign rfl) ?_
    refine XO.nil ?_
    refine XQ.then_normal ?_
    refine XC.ret ?_
    refine XQ.dropn 1 ?_
    refine XQ.done1 rfl rfl (Im.le_refl _) ?_
    simp [bndOk, *]

theorem valid1_any (b : Nat) (n : Int) (v : Value) (x : Bnd) (I : Im) (hn : 0 ≤ n ∧ n ≤ 16) : FSo Try.prog 49 [.agg x.cs.toArray, .pointer (some ⟨b, 0, none⟩)] I [some (b, .cells #[.int .i64 n, v] 28 (0, 0))] (fun u I' L' => u = .bool (!bndOk n x) ∧ I' = I ∧ L' = [some (b, .cells #[.int .i64 n, v] 28 (0, 0))]) := by
  refine FSo.intro (n := 9) Try.func49 rfl rfl rfl (fun K Lf => ?_)
  refine XC.seq ?_
  refine XC.region ?_
  refine XO.box_agg rfl rfl rfl (fun b2 => ?_)
  refine XO.rd rfl rfl rfl (Reads.assign rfl) ?_
  refine XO.nil ?_
  refine XQ.then_normal ?_
  refine XC.seq ?_
  refine XC.region ?_
  refine XO.rd rfl rfl rfl (fa28_0 rfl) ?_
  refine XO.rd rfl rfl rfl (Reads.load_own k3 rfl (by first | exact OwnAt.of 0 rfl rfl | exact OwnAt.of 1 rfl rfl | exact OwnAt.of 2 rfl rfl | exact OwnAt.of 3 rfl rfl | exact OwnAt.of 4 rfl rfl | exact OwnAt.of 5 rfl rfl)) ?_
  refine XO.rd rfl rfl rfl (Reads.load_agg_own (vs := x.cs) k30 z30 rfl (fun j v hj => OwnAt.of 0 rfl (by simpa [Value.cells] using hj))) ?_
  refine XO.callp rfl rfl en50 (isBound_any _ x _ hn) ⟨rfl, rfl, trivial⟩ ?_
  refine XO.rd rfl rfl rfl (Reads.not rfl) ?_
  refine XO.rd rfl rfl rfl (Reads.assign rfl) ?_
  refine XO.nil ?_
  refine XQ.then_normal ?_
  refine XC.ret ?_
  refine XQ.dropn 1 ?_
  refine XQ.done1 rfl rfl (Im.le_refl _) ?_
  simp

theorem indexFunc_bnd  (a : Option Addr) (cap : Nat) (bs : List Bnd) (g : FuncId) (ca : Array Value) (Lc : Own) (p : Bnd → Bool) (I : Im) (hA : Arr I a bs) (hlen : bs.length ≤ 1000000) (hg : Enters Try.prog g) (hp : ∀ (k : Nat) (h : k < bs.length), FSo Try.prog g (.agg bs[k].cs.toArray :: ca.toList) I Lc (fun u I' L' => u = .bool (p bs[k]) ∧ I' = I ∧ L' = Lc)) : FSo Try.prog 62 [.slice a bs.length cap, .func (.func g) #[] ca] I Lc (fun u I' L' => u = .int .i64 (idx p bs) ∧ I' = I ∧ L' = Lc) := by
  refine FSo.intro (n := 19) Try.func62 rfl rfl rfl (fun K Lf => ?_)
  refine XC.seq ?_
  refine XC.region ?_
  refine XO.rd rfl rfl rfl (Reads.assign rfl) ?_
  refine XO.nil ?_
  refine XQ.then_normal ?_
  refine XC.seq ?_
  refine XC.seq ?_
  refine XC.region ?_
  refine XO.rd rfl rfl rfl (Reads.move rfl) ?_
  refine XO.rd rfl rfl rfl (Reads.len_slice Try.underlying26 rfl) ?_
  refine XO.rd rfl rfl rfl (Reads.move rfl) ?_
  refine XO.nil ?_
  refine XQ.then_normal ?_
  refine XC.block ?_
  refine XC.loop (ι := Nat) (fun k => [(0, .slice a bs.length cap), (1, .func (.func g) #[] ca), (7, .int .i64 bs.length), (8, .int .i64 k)]) (fun _ => I) (fun _ => Lc ++ Lf) (fun k => k ≤ bs.length ∧ ∀ (j : Nat) (h : j < bs.length), j < k → p bs[j] = false) (fun k => bs.length - k) 0 ⟨Nat.zero_le _, fun _ _ h => absurd h (Nat.not_lt_zero _)⟩ ⟨rfl, rfl, rfl, rfl, trivial⟩ rfl (List.Perm.refl _) (fun k hk => ?_)
  obtain ⟨hk1, hk2⟩ := hk
  refine XC.seq ?_
  refine XC.region ?_
  refine XO.rd rfl rfl rfl (Reads.cmp rfl rfl rfl) ?_
  refine XO.nil ?_
  refine XQ.then_normal ?_
  refine XC.seq ?_
  refine XC.cond rfl (fun h1 => ?_) (fun h1 => ?_)
  · skip
    simp only [cmpInt, decide_eq_true_eq] at h1
    have hk3 : k < bs.length := by omega
    refine XC.skip ?_
    refine XQ.then_normal ?_
    refine XC.seq ?_
    refine XC.block ?_
    refine XC.seq ?_
    refine XC.region ?_
    refine XO.rd rfl rfl rfl (Reads.move rfl) ?_
    refine XO.rd rfl rfl rfl (Reads.assign rfl) ?_
    refine XO.nil ?_
    refine XQ.then_normal ?_
    refine XC.seq ?_
    refine XC.region ?_
    refine XO.rd rfl rfl rfl (Reads.move rfl) ?_
    refine XO.rd rfl rfl rfl (Reads.move rfl) ?_
    refine XO.rd rfl rfl rfl (Reads.move rfl) ?_
    refine XO.rd rfl rfl rfl (Reads.index_slot Try.underlying26 z30 rfl rfl (by omega) (hA.isSome (by decide) (by omega)) rfl) ?_
    refine XO.rd rfl rfl rfl (Reads.load_agg_at (vs := bs[k].cs) k30 z30 rfl (hA.addr (by decide) (by omega)) (hA.bnd hk3)) ?_
    refine XO.callo (vs := [_]) rfl rfl rfl hg ⟨rfl, trivial⟩ (hp k hk3) (List.Perm.refl _) ?_
    rintro v I' L' _ ⟨rfl, rfl, rfl⟩
    refine XO.nil ?_
    refine XQ.then_normal ?_
    refine XC.cond rfl (fun h2 => ?_) (fun h2 => ?_)
    · skip
      skip
      refine XC.seq ?_
      refine XC.region ?_
      refine XO.rd rfl rfl rfl (Reads.move rfl) ?_
      refine XO.rd rfl rfl rfl (Reads.assign rfl) ?_
      refine XO.nil ?_
      refine XQ.then_normal ?_
      refine XC.ret ?_
      refine XQ.block_ret ?_
      refine XQ.then_ret ?_
      refine XQ.then_ret ?_
      refine XQ.block_ret ?_
      refine XQ.then_ret ?_
      refine XQ.done1 rfl rfl (Im.le_refl _) ?_
      exact ⟨by rw [idx_found hk3 h2 hk2], rfl, rfl⟩
    · skip
      skip
      refine XC.skip ?_
      refine XQ.block_normal ?_
      refine XQ.then_normal ?_
      refine XC.region ?_
      refine XO.rd rfl rfl rfl (Reads.add rfl rfl (by omega)) ?_
      refine XO.rd rfl rfl rfl (Reads.move rfl) ?_
      refine XO.nil ?_
      refine XQ.back (k + 1) ⟨by omega, fun j hj hlt => ?_⟩ (by omega) ⟨rfl, rfl, rfl, rfl, trivial⟩ rfl (List.Perm.refl _)
      by_cases e : j = k
      · subst e; exact h2
      · exact hk2 j hj (by omega)
  · skip
    simp only [cmpInt, decide_eq_true_eq, decide_eq_false_iff_not] at h1
    refine XC.exit ?_
    refine XQ.then_exit ?_
    refine XQ.then_exit ?_
    refine XQ.block_exit ?_
    refine XQ.then_normal ?_
    refine XC.seq ?_
    refine XC.region ?_
    refine XO.rd rfl rfl rfl (Reads.assign rfl) ?_
    refine XO.nil ?_
    refine XQ.then_normal ?_
    refine XC.ret ?_
    refine XQ.done1 rfl rfl (Im.le_refl _) ?_
    exact ⟨by rw [idx_none (fun j hj => hk2 j hj (by omega))], rfl, rfl⟩

theorem indexFunc_int  (a : Option Addr) (cap : Nat) (bs : List Int) (g : FuncId) (ca : Array Value) (Lc : Own) (p : Int → Bool) (I : Im) (hA : Arr I a bs) (hlen : bs.length ≤ 1000000) (hg : Enters Try.prog g) (hp : ∀ (k : Nat) (h : k < bs.length), FSo Try.prog g (.int .i64 bs[k] :: ca.toList) I Lc (fun u I' L' => u = .bool (p bs[k]) ∧ I' = I ∧ L' = Lc)) : FSo Try.prog 64 [.slice a bs.length cap, .func (.func g) #[] ca] I Lc (fun u I' L' => u = .int .i64 (idx p bs) ∧ I' = I ∧ L' = Lc) := by
  refine FSo.intro (n := 19) Try.func64 rfl rfl rfl (fun K Lf => ?_)
  refine XC.seq ?_
  refine XC.region ?_
  refine XO.rd rfl rfl rfl (Reads.assign rfl) ?_
  refine XO.nil ?_
  refine XQ.then_normal ?_
  refine XC.seq ?_
  refine XC.seq ?_
  refine XC.region ?_
  refine XO.rd rfl rfl rfl (Reads.move rfl) ?_
  refine XO.rd rfl rfl rfl (Reads.len_slice Try.underlying22 rfl) ?_
  refine XO.rd rfl rfl rfl (Reads.move rfl) ?_
  refine XO.nil ?_
  refine XQ.then_normal ?_
  refine XC.block ?_
  refine XC.loop (ι := Nat) (fun k => [(0, .slice a bs.length cap), (1, .func (.func g) #[] ca), (7, .int .i64 bs.length), (8, .int .i64 k)]) (fun _ => I) (fun _ => Lc ++ Lf) (fun k => k ≤ bs.length ∧ ∀ (j : Nat) (h : j < bs.length), j < k → p bs[j] = false) (fun k => bs.length - k) 0 ⟨Nat.zero_le _, fun _ _ h => absurd h (Nat.not_lt_zero _)⟩ ⟨rfl, rfl, rfl, rfl, trivial⟩ rfl (List.Perm.refl _) (fun k hk => ?_)
  obtain ⟨hk1, hk2⟩ := hk
  refine XC.seq ?_
  refine XC.region ?_
  refine XO.rd rfl rfl rfl (Reads.cmp rfl rfl rfl) ?_
  refine XO.nil ?_
  refine XQ.then_normal ?_
  refine XC.seq ?_
  refine XC.cond rfl (fun h1 => ?_) (fun h1 => ?_)
  · skip
    simp only [cmpInt, decide_eq_true_eq] at h1
    have hk3 : k < bs.length := by omega
    refine XC.skip ?_
    refine XQ.then_normal ?_
    refine XC.seq ?_
    refine XC.block ?_
    refine XC.seq ?_
    refine XC.region ?_
    refine XO.rd rfl rfl rfl (Reads.move rfl) ?_
    refine XO.rd rfl rfl rfl (Reads.assign rfl) ?_
    refine XO.nil ?_
    refine XQ.then_normal ?_
    refine XC.seq ?_
    refine XC.region ?_
    refine XO.rd rfl rfl rfl (Reads.move rfl) ?_
    refine XO.rd rfl rfl rfl (Reads.move rfl) ?_
    refine XO.rd rfl rfl rfl (Reads.move rfl) ?_
    refine XO.rd rfl rfl rfl (Reads.index_slot Try.underlying22 z3 rfl rfl (by omega) (hA.isSome (by decide) (by omega)) rfl) ?_
    refine XO.rd rfl rfl rfl (Reads.load_at k3 rfl (hA.int hk3)) ?_
    refine XO.callo (vs := [_]) rfl rfl rfl hg ⟨rfl, trivial⟩ (hp k hk3) (List.Perm.refl _) ?_
    rintro v I' L' _ ⟨rfl, rfl, rfl⟩
    refine XO.nil ?_
    refine XQ.then_normal ?_
    refine XC.cond rfl (fun h2 => ?_) (fun h2 => ?_)
    · skip
      skip
      refine XC.seq ?_
      refine XC.region ?_
      refine XO.rd rfl rfl rfl (Reads.move rfl) ?_
      refine XO.rd rfl rfl rfl (Reads.assign rfl) ?_
      refine XO.nil ?_
      refine XQ.then_normal ?_
      refine XC.ret ?_
      refine XQ.block_ret ?_
      refine XQ.then_ret ?_
      refine XQ.then_ret ?_
      refine XQ.block_ret ?_
      refine XQ.then_ret ?_
      refine XQ.done1 rfl rfl (Im.le_refl _) ?_
      exact ⟨by rw [idx_found hk3 h2 hk2], rfl, rfl⟩
    · skip
      skip
      refine XC.skip ?_
      refine XQ.block_normal ?_
      refine XQ.then_normal ?_
      refine XC.region ?_
      refine XO.rd rfl rfl rfl (Reads.add rfl rfl (by omega)) ?_
      refine XO.rd rfl rfl rfl (Reads.move rfl) ?_
      refine XO.nil ?_
      refine XQ.back (k + 1) ⟨by omega, fun j hj hlt => ?_⟩ (by omega) ⟨rfl, rfl, rfl, rfl, trivial⟩ rfl (List.Perm.refl _)
      by_cases e : j = k
      · subst e; exact h2
      · exact hk2 j hj (by omega)
  · skip
    simp only [cmpInt, decide_eq_true_eq, decide_eq_false_iff_not] at h1
    refine XC.exit ?_
    refine XQ.then_exit ?_
    refine XQ.then_exit ?_
    refine XQ.block_exit ?_
    refine XQ.then_normal ?_
    refine XC.seq ?_
    refine XC.region ?_
    refine XO.rd rfl rfl rfl (Reads.assign rfl) ?_
    refine XO.nil ?_
    refine XQ.then_normal ?_
    refine XC.ret ?_
    refine XQ.done1 rfl rfl (Im.le_refl _) ?_
    exact ⟨by rw [idx_none (fun j hj => hk2 j hj (by omega))], rfl, rfl⟩

theorem containsFunc_bnd (a : Option Addr) (cap : Nat) (bs : List Bnd) (g : FuncId) (ca : Array Value) (Lc : Own) (p : Bnd → Bool) (I : Im) (hA : Arr I a bs) (hlen : bs.length ≤ 1000000) (hg : Enters Try.prog g) (hp : ∀ (k : Nat) (h : k < bs.length), FSo Try.prog g (.agg bs[k].cs.toArray :: ca.toList) I Lc (fun u I' L' => u = .bool (p bs[k]) ∧ I' = I ∧ L' = Lc)) : FSo Try.prog 48 [.slice a bs.length cap, .func (.func g) #[] ca] I Lc (fun u I' L' => u = .bool (bs.any p) ∧ I' = I ∧ L' = Lc) := by
  refine FSo.intro (n := 9) Try.func48 rfl rfl rfl (fun K Lf => ?_)
  refine XC.seq ?_
  refine XC.region ?_
  refine XO.rd rfl rfl rfl (Reads.assign rfl) ?_
  refine XO.nil ?_
  refine XQ.then_normal ?_
  refine XC.seq ?_
  refine XC.region ?_
  refine XO.rd rfl rfl rfl (Reads.move rfl) ?_
  refine XO.rd rfl rfl rfl (Reads.move rfl) ?_
  refine XO.callo (vs := [_, _]) rfl rfl rfl en62 ⟨rfl, rfl, trivial⟩ (indexFunc_bnd a cap bs g ca Lc p I hA hlen hg hp) (List.Perm.refl _) ?_
  rintro v I' L' _ ⟨rfl, rfl, rfl⟩
  refine XO.rd rfl rfl rfl (Reads.cmp rfl rfl rfl) ?_
  refine XO.rd rfl rfl rfl (Reads.assign rfl) ?_
  refine XO.nil ?_
  refine XQ.then_normal ?_
  refine XC.ret ?_
  refine XQ.done1 rfl rfl (Im.le_refl _) ?_
  refine ⟨?_, rfl, rfl⟩
  rw [show cmpInt .geq (idx p bs) 0 = decide (0 ≤ idx p bs) from rfl]
  congr 1; rw [Bool.eq_iff_iff]; simp only [decide_eq_true_eq]; exact idx_ge

theorem containsFunc_int (a : Option Addr) (cap : Nat) (bs : List Int) (g : FuncId) (ca : Array Value) (Lc : Own) (p : Int → Bool) (I : Im) (hA : Arr I a bs) (hlen : bs.length ≤ 1000000) (hg : Enters Try.prog g) (hp : ∀ (k : Nat) (h : k < bs.length), FSo Try.prog g (.int .i64 bs[k] :: ca.toList) I Lc (fun u I' L' => u = .bool (p bs[k]) ∧ I' = I ∧ L' = Lc)) : FSo Try.prog 54 [.slice a bs.length cap, .func (.func g) #[] ca] I Lc (fun u I' L' => u = .bool (bs.any p) ∧ I' = I ∧ L' = Lc) := by
  refine FSo.intro (n := 9) Try.func54 rfl rfl rfl (fun K Lf => ?_)
  refine XC.seq ?_
  refine XC.region ?_
  refine XO.rd rfl rfl rfl (Reads.assign rfl) ?_
  refine XO.nil ?_
  refine XQ.then_normal ?_
  refine XC.seq ?_
  refine XC.region ?_
  refine XO.rd rfl rfl rfl (Reads.move rfl) ?_
  refine XO.rd rfl rfl rfl (Reads.move rfl) ?_
  refine XO.callo (vs := [_, _]) rfl rfl rfl en64 ⟨rfl, rfl, trivial⟩ (indexFunc_int a cap bs g ca Lc p I hA hlen hg hp) (List.Perm.refl _) ?_
  rintro v I' L' _ ⟨rfl, rfl, rfl⟩
  refine XO.rd rfl rfl rfl (Reads.cmp rfl rfl rfl) ?_
  refine XO.rd rfl rfl rfl (Reads.assign rfl) ?_
  refine XO.nil ?_
  refine XQ.then_normal ?_
  refine XC.ret ?_
  refine XQ.done1 rfl rfl (Im.le_refl _) ?_
  refine ⟨?_, rfl, rfl⟩
  rw [show cmpInt .geq (idx p bs) 0 = decide (0 ≤ idx p bs) from rfl]
  congr 1; rw [Bool.eq_iff_iff]; simp only [decide_eq_true_eq]; exact idx_ge

theorem valid_any (b : Btw) (a : Option Addr) (cap : Nat) (I : Im) (hA : Arr I a b.bs) (hlen : b.bs.length ≤ 1000000) : FC Try.prog 22 [.agg #[.int .i64 b.n, .slice a b.bs.length cap]] I (fun u I' => u = .bool b.ok ∧ I' = I) := by
  refine FSo.intro (n := 19) Try.func22 rfl rfl rfl (fun K Lf => ?_)
  refine XC.seq ?_
  refine XC.region ?_
  refine XO.box_agg rfl rfl rfl (fun b1 => ?_)
  refine XO.rd rfl rfl rfl (Reads.assign rfl) ?_
  refine XO.nil ?_
  refine XQ.then_normal ?_
  refine XC.seq ?_
  refine XC.region ?_
  refine XO.rd rfl rfl rfl (fa28_0 rfl) ?_
  refine XO.rd rfl rfl rfl (Reads.load_own k3 rfl (by first | exact OwnAt.of 0 rfl rfl | exact OwnAt.of 1 rfl rfl | exact OwnAt.of 2 rfl rfl | exact OwnAt.of 3 rfl rfl | exact OwnAt.of 4 rfl rfl | exact OwnAt.of 5 rfl rfl)) ?_
  refine XO.callp rfl rfl en47 (isIn_any _ _ _ _) ⟨rfl, rfl, rfl, trivial⟩ ?_
  refine XO.rd rfl rfl rfl (Reads.move rfl) ?_
  refine XO.split (d := 6) rfl (fun h1 => ?_) (fun h1 => ?_)
  · skip
    try simp only [cmpInt, decide_eq_true_eq, decide_eq_false_iff_not, beq_iff_eq, bne_iff_ne, beq_eq_false_iff_ne, bne_eq_false_iff_eq] at h1
    refine XO.rd (wg rfl rfl rfl) rfl rfl (fa28_1 rfl) ?_
    refine XO.rd (wg rfl rfl rfl) rfl rfl (Reads.load_own k26 rfl (by first | exact OwnAt.of 0 rfl rfl | exact OwnAt.of 1 rfl rfl | exact OwnAt.of 2 rfl rfl | exact OwnAt.of 3 rfl rfl | exact OwnAt.of 4 rfl rfl | exact OwnAt.of 5 rfl rfl)) ?_
    refine XO.rd (wg rfl rfl rfl) rfl rfl (Reads.len_slice Try.underlying26 rfl) ?_
    refine XO.rd (wg rfl rfl rfl) rfl rfl (Reads.cmp rfl rfl rfl) ?_
    refine XO.rd rfl rfl rfl (Reads.pick_true rfl rfl) ?_
    refine XO.rd rfl rfl rfl (Reads.move rfl) ?_
    refine XO.split (d := 12) rfl (fun h2 => ?_) (fun h2 => ?_)
    · skip
      try simp only [cmpInt, decide_eq_true_eq, decide_eq_false_iff_not, beq_iff_eq, bne_iff_ne, beq_eq_false_iff_ne, bne_eq_false_iff_eq] at h2
      refine XO.rd (wg rfl rfl rfl) rfl rfl (fa28_1 rfl) ?_
      refine XO.rd (wg rfl rfl rfl) rfl rfl (Reads.load_own k26 rfl (by first | exact OwnAt.of 0 rfl rfl | exact OwnAt.of 1 rfl rfl | exact OwnAt.of 2 rfl rfl | exact OwnAt.of 3 rfl rfl | exact OwnAt.of 4 rfl rfl | exact OwnAt.of 5 rfl rfl)) ?_
      refine XO.rd (wg rfl rfl rfl) rfl rfl (Reads.makeFunc (fi := []) (fv := []) (ca := [.tmp 1]) (cv := [_]) trivial ⟨rfl, trivial⟩) ?_
      refine XO.callo (vs := [_, _]) (wg rfl rfl rfl) rfl rfl en48 ⟨rfl, rfl, trivial⟩ (containsFunc_bnd a cap b.bs 49 #[.pointer (some ⟨b1, 0, none⟩)] [some (b1, .cells #[.int .i64 b.n, .slice a b.bs.length cap] 28 (0, 0))] (fun x => !bndOk b.n x) I hA hlen en49 (fun k hk => valid1_any b1 b.n _ b.bs[k] I (by simp [inB] at h1; exact h1))) (List.Perm.refl _) ?_
      rintro v I' L' _ ⟨rfl, rfl, rfl⟩
      refine XO.rd (wg rfl rfl rfl) rfl rfl (Reads.not rfl) ?_
      refine XO.rd rfl rfl rfl (Reads.pick_true rfl rfl) ?_
      refine XO.rd rfl rfl rfl (Reads.assign rfl) ?_
      refine XO.nil ?_
      refine XQ.then_normal ?_
      refine XC.ret ?_
      refine XQ.dropn 1 ?_
      refine XQ.done1 rfl rfl (Im.le_refl _) ?_
      simp_all [Btw.ok, cmpInt] <;> (intros; omega)
    · skip
      try simp only [cmpInt, decide_eq_true_eq, decide_eq_false_iff_not, beq_iff_eq, bne_iff_ne, beq_eq_false_iff_ne, bne_eq_false_iff_eq] at h2
      refine XO.s (wg rfl rfl rfl) rfl ?_
      refine XO.s (wg rfl rfl rfl) rfl ?_
      refine XO.s (wg rfl rfl rfl) rfl ?_
      refine XO.s (wg rfl rfl rfl) rfl ?_
      refine XO.s (wg rfl rfl rfl) rfl ?_
      refine XO.rd rfl rfl rfl (Reads.pick_false rfl rfl) ?_
      refine XO.rd rfl rfl rfl (Reads.assign rfl) ?_
      refine XO.nil ?_
      refine XQ.then_normal ?_
      refine XC.ret ?_
      refine XQ.dropn 1 ?_
      refine XQ.done1 rfl rfl (Im.le_refl _) ?_
      simp_all [Btw.ok, cmpInt] <;> (intros; omega)
  · skip
    try simp only [cmpInt, decide_eq_true_eq, decide_eq_false_iff_not, beq_iff_eq, bne_iff_ne, beq_eq_false_iff_ne, bne_eq_false_iff_eq] at h1
    refine XO.s (wg rfl rfl rfl) rfl ?_
    refine XO.s (wg rfl rfl rfl) rfl ?_
    refine XO.s (wg rfl rfl rfl) rfl ?_
    refine XO.s (wg rfl rfl rfl) rfl ?_
    refine XO.rd rfl rfl rfl (Reads.pick_false rfl rfl) ?_
    refine XO.rd rfl rfl rfl (Reads.move rfl) ?_
    refine XO.s (wg rfl rfl rfl) rfl ?_
    refine XO.s (wg rfl rfl rfl) rfl ?_
    refine XO.s (wg rfl rfl rfl) rfl ?_
    refine XO.s (wg rfl rfl rfl) rfl ?_
    refine XO.s (wg rfl rfl rfl) rfl ?_
    refine XO.rd rfl rfl rfl (Reads.pick_false rfl rfl) ?_
    refine XO.rd rfl rfl rfl (Reads.assign rfl) ?_
    refine XO.nil ?_
    refine XQ.then_normal ?_
    refine XC.ret ?_
    refine XQ.dropn 1 ?_
    refine XQ.done1 rfl rfl (Im.le_refl _) ?_
    simp_all [Btw.ok, cmpInt] <;> (intros; omega)

end Go.Proofs.Ytlgfpieokaegiaa
