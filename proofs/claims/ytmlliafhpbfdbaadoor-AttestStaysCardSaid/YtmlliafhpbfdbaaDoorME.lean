/- Walks: the small functions of attest; what is formed. Walks: writers. Walks: seals, what is shown, copies of hands. Walks: the hands, one after the other. Walks: the first hand with a property. Walks: Check. Walks: Shown, Cut. Walks: Blame. -/
import Derived.Test.YtmlliafhpbfdbaaDoorMK
import Derived.Test.YtmlliafhpbfdbaaDoorMB
import Derived.Test.YtmlliafhpbfdbaaDoorCJ
import Derived.KernelRfl
namespace Go.Proofs.YtmlliafhpbfdbaaDoor
open Go.Xe Go.Sh Go Go.At

section
variable {dst : Option Tmp} {ty : TypeId} {pos : String} {after : Array Edge} {guard : Option (Nat × Bool)} {E : Env} {I : Im} {L : Own} {pa : List (Nat × Operand)}
theorem bd37v (d : Dial) (v : Value) (hv : ∃ p n c, v = .slice p n c) (hp : partsEv E pa [(0, .agg d.cs.toArray), (1, v)]) : Reads Tryd.prog ⟨dst, .build 37 pa.toArray, ty, pos, after, guard⟩ E I L (.agg #[.int .i64 d.a, .int .i64 d.b, .int .i64 d.t, .int .i64 d.n, v]) := by
  obtain ⟨p, n, c, rfl⟩ := hv
  exact bd37 (vs := [(0, .agg d.cs.toArray), (1, .slice p n c)]) #[.int .i64 d.a, .int .i64 d.b, .int .i64 d.t, .int .i64 d.n, .slice p n c] hp rfl
theorem bd53v (c l : Int) (s : ByteArray) (hp : partsEv E pa [(0, .int .i64 c), (1, .int .i64 l), (2, .string s)]) : Reads Tryd.prog ⟨dst, .build 53 pa.toArray, ty, pos, after, guard⟩ E I L (.agg #[.int .i64 c, .int .i64 l, .string s]) :=
  bd53 (vs := [(0, .int .i64 c), (1, .int .i64 l), (2, .string s)]) #[.int .i64 c, .int .i64 l, .string s] hp rfl
end
theorem isIn_any (a b c : Int) (I : Im) : FC Tryd.prog 52 [.int .i64 a, .int .i64 b, .int .i64 c] I (fun u I' => u = .bool (inB a b c) ∧ I' = I) := by
  refine FSo.intro (n := 15) Tryd.func52 rfl rfl rfl (fun K Lf => ?_)
  refine XC.seq ?_
  refine XC.region ?_
  refine XO.rd rfl rfl rfl (Reads.assign rfl) ?_
  refine XO.nil ?_
  refine XQ.then_normal ?_
  refine XC.seq ?_
  refine XC.region ?_
  refine XO.rd rfl rfl rfl (Reads.move rfl) ?_
  refine XO.rd rfl rfl rfl (Reads.move rfl) ?_
  refine XO.rd rfl rfl rfl (Reads.cmp rfl rfl rfl) ?_
  refine XO.rd rfl rfl rfl (Reads.move rfl) ?_
  refine XO.split (d := 10) rfl (fun h1 => ?_) (fun h1 => ?_)
  · skip
    try simp only [cmpInt, decide_eq_true_eq] at h1
    refine XO.rd (wg rfl rfl rfl) rfl rfl (Reads.move rfl) ?_
    refine XO.rd (wg rfl rfl rfl) rfl rfl (Reads.move rfl) ?_
    refine XO.rd (wg rfl rfl rfl) rfl rfl (Reads.cmp rfl rfl rfl) ?_
    refine XO.rd rfl rfl rfl (Reads.pick_true rfl rfl) ?_
    refine XO.rd rfl rfl rfl (Reads.assign rfl) ?_
    refine XO.nil ?_
    refine XQ.then_normal ?_
    refine XC.ret ?_
    refine XQ.done1 rfl rfl (Im.le_refl _) ?_
    simp [inB, cmpInt, *]
  · skip
    try simp only [cmpInt, decide_eq_false_iff_not] at h1
    refine XO.s (wg rfl rfl rfl) rfl ?_
    refine XO.s (wg rfl rfl rfl) rfl ?_
    refine XO.s (wg rfl rfl rfl) rfl ?_
    refine XO.rd rfl rfl rfl (Reads.pick_false rfl rfl) ?_
    refine XO.rd rfl rfl rfl (Reads.assign rfl) ?_
    refine XO.nil ?_
    refine XQ.then_normal ?_
    refine XC.ret ?_
    refine XQ.done1 rfl rfl (Im.le_refl _) ?_
    simp [inB, *]

theorem rin_any (n lo hi : Int) (I : Im) : FC Tryd.prog 63 [.int .i64 n, .int .i64 lo, .int .i64 hi] I (fun u I' => u = .bool (inB n lo hi) ∧ I' = I) := by
  refine FSo.intro (n := 15) Tryd.func63 rfl rfl rfl (fun K Lf => ?_)
  refine XC.seq ?_
  refine XC.region ?_
  refine XO.rd rfl rfl rfl (Reads.assign rfl) ?_
  refine XO.nil ?_
  refine XQ.then_normal ?_
  refine XC.seq ?_
  refine XC.region ?_
  refine XO.rd rfl rfl rfl (Reads.move rfl) ?_
  refine XO.rd rfl rfl rfl (Reads.move rfl) ?_
  refine XO.rd rfl rfl rfl (Reads.cmp rfl rfl rfl) ?_
  refine XO.rd rfl rfl rfl (Reads.move rfl) ?_
  refine XO.split (d := 10) rfl (fun h1 => ?_) (fun h1 => ?_)
  · skip
    simp only [cmpInt, decide_eq_true_eq] at h1
    refine XO.rd (wg rfl rfl rfl) rfl rfl (Reads.move rfl) ?_
    refine XO.rd (wg rfl rfl rfl) rfl rfl (Reads.move rfl) ?_
    refine XO.rd (wg rfl rfl rfl) rfl rfl (Reads.cmp rfl rfl rfl) ?_
    refine XO.rd rfl rfl rfl (Reads.pick_true rfl rfl) ?_
    refine XO.rd rfl rfl rfl (Reads.assign rfl) ?_
    refine XO.nil ?_
    refine XQ.then_normal ?_
    refine XC.ret ?_
    refine XQ.done1 rfl rfl (Im.le_refl _) ?_
    exact ⟨rfl, congrArg Value.bool (by simp [inB, cmpInt, h1]), rfl⟩
  · skip
    simp only [cmpInt, decide_eq_false_iff_not] at h1
    refine XO.s (wg rfl rfl rfl) rfl ?_
    refine XO.s (wg rfl rfl rfl) rfl ?_
    refine XO.s (wg rfl rfl rfl) rfl ?_
    refine XO.rd rfl rfl rfl (Reads.pick_false rfl rfl) ?_
    refine XO.rd rfl rfl rfl (Reads.assign rfl) ?_
    refine XO.nil ?_
    refine XQ.then_normal ?_
    refine XC.ret ?_
    refine XQ.done1 rfl rfl (Im.le_refl _) ?_
    exact ⟨rfl, congrArg Value.bool (by simp [inB, h1]), rfl⟩

theorem pickL_any (c n : Int) (I : Im) (hc : In64 c) (hn : 0 < n) : FC Tryd.prog 16 [.int .i64 c, .int .i64 n] I (fun u I' => u = .int .i64 (pickI c n) ∧ I' = I) := by
  have hc1 := hc.1
  have hc2 := hc.2
  refine FSo.intro (n := 13) Tryd.func16 rfl rfl rfl (fun K Lf => ?_)
  refine XC.seq ?_
  refine XC.region ?_
  refine XO.rd rfl rfl rfl (Reads.assign rfl) ?_
  refine XO.nil ?_
  refine XQ.then_normal ?_
  refine XC.seq ?_
  refine XC.seq ?_
  refine XC.region ?_
  refine XO.rd rfl rfl rfl (Reads.move rfl) ?_
  refine XO.rd rfl rfl rfl (Reads.cmp rfl rfl rfl) ?_
  refine XO.nil ?_
  refine XQ.then_normal ?_
  refine XC.cond rfl (fun h1 => ?_) (fun h1 => ?_)
  · skip
    simp [cmpInt] at h1
    refine XC.region ?_
    refine XO.rd rfl rfl rfl (Reads.move rfl) ?_
    refine XO.rd rfl rfl rfl (Reads.add rfl rfl (by omega)) ?_
    refine XO.rd rfl rfl rfl (Reads.neg rfl (by omega)) ?_
    refine XO.rd rfl rfl rfl (Reads.assign rfl) ?_
    refine XO.nil ?_
    refine XQ.then_normal ?_
    refine XC.seq ?_
    refine XC.region ?_
    refine XO.rd rfl rfl rfl (Reads.move rfl) ?_
    refine XO.rd rfl rfl rfl (Reads.move rfl) ?_
    refine XO.rd rfl rfl rfl (Reads.rem rfl rfl (by omega) (by omega)) ?_
    refine XO.rd rfl rfl rfl (Reads.assign rfl) ?_
    refine XO.nil ?_
    refine XQ.then_normal ?_
    refine XC.ret ?_
    refine XQ.done1 rfl rfl (Im.le_refl _) ?_
    exact ⟨rfl, by simp only [pickI]; rw [if_pos (by omega)], rfl⟩
  · skip
    simp [cmpInt] at h1
    refine XC.skip ?_
    refine XQ.then_normal ?_
    refine XC.seq ?_
    refine XC.region ?_
    refine XO.rd rfl rfl rfl (Reads.move rfl) ?_
    refine XO.rd rfl rfl rfl (Reads.move rfl) ?_
    refine XO.rd rfl rfl rfl (Reads.rem rfl rfl (by omega) (by omega)) ?_
    refine XO.rd rfl rfl rfl (Reads.assign rfl) ?_
    refine XO.nil ?_
    refine XQ.then_normal ?_
    refine XC.ret ?_
    refine XQ.done1 rfl rfl (Im.le_refl _) ?_
    exact ⟨rfl, by simp only [pickI]; rw [if_neg (by omega)], rfl⟩

theorem pickR_any (c n : Int) (I : Im) (hc : In64 c) (hn : 0 < n) : FC Tryd.prog 46 [.int .i64 c, .int .i64 n] I (fun u I' => u = .int .i64 (pickI c n) ∧ I' = I) := by
  have hc1 := hc.1
  have hc2 := hc.2
  refine FSo.intro (n := 13) Tryd.func46 rfl rfl rfl (fun K Lf => ?_)
  refine XC.seq ?_
  refine XC.region ?_
  refine XO.rd rfl rfl rfl (Reads.assign rfl) ?_
  refine XO.nil ?_
  refine XQ.then_normal ?_
  refine XC.seq ?_
  refine XC.seq ?_
  refine XC.region ?_
  refine XO.rd rfl rfl rfl (Reads.move rfl) ?_
  refine XO.rd rfl rfl rfl (Reads.cmp rfl rfl rfl) ?_
  refine XO.nil ?_
  refine XQ.then_normal ?_
  refine XC.cond rfl (fun h1 => ?_) (fun h1 => ?_)
  · skip
    simp [cmpInt] at h1
    refine XC.region ?_
    refine XO.rd rfl rfl rfl (Reads.move rfl) ?_
    refine XO.rd rfl rfl rfl (Reads.add rfl rfl (by omega)) ?_
    refine XO.rd rfl rfl rfl (Reads.neg rfl (by omega)) ?_
    refine XO.rd rfl rfl rfl (Reads.assign rfl) ?_
    refine XO.nil ?_
    refine XQ.then_normal ?_
    refine XC.seq ?_
    refine XC.region ?_
    refine XO.rd rfl rfl rfl (Reads.move rfl) ?_
    refine XO.rd rfl rfl rfl (Reads.move rfl) ?_
    refine XO.rd rfl rfl rfl (Reads.rem rfl rfl (by omega) (by omega)) ?_
    refine XO.rd rfl rfl rfl (Reads.assign rfl) ?_
    refine XO.nil ?_
    refine XQ.then_normal ?_
    refine XC.ret ?_
    refine XQ.done1 rfl rfl (Im.le_refl _) ?_
    exact ⟨rfl, by simp only [pickI]; rw [if_pos (by omega)], rfl⟩
  · skip
    simp [cmpInt] at h1
    refine XC.skip ?_
    refine XQ.then_normal ?_
    refine XC.seq ?_
    refine XC.region ?_
    refine XO.rd rfl rfl rfl (Reads.move rfl) ?_
    refine XO.rd rfl rfl rfl (Reads.move rfl) ?_
    refine XO.rd rfl rfl rfl (Reads.rem rfl rfl (by omega) (by omega)) ?_
    refine XO.rd rfl rfl rfl (Reads.assign rfl) ?_
    refine XO.nil ?_
    refine XQ.then_normal ?_
    refine XC.ret ?_
    refine XQ.done1 rfl rfl (Im.le_refl _) ?_
    exact ⟨rfl, by simp only [pickI]; rw [if_neg (by omega)], rfl⟩

theorem isKey_any (s : ByteArray) (I : Im) : FC Tryd.prog 55 [.string s] I (fun u I' => u = .bool (decide (s.size = 32)) ∧ I' = I) := by
  refine FSo.intro (n := 6) Tryd.func55 rfl rfl rfl (fun K Lf => ?_)
  refine XC.seq ?_
  refine XC.region ?_
  refine XO.rd rfl rfl rfl (Reads.assign rfl) ?_
  refine XO.nil ?_
  refine XQ.then_normal ?_
  refine XC.seq ?_
  refine XC.region ?_
  refine XO.rd rfl rfl rfl (Reads.move rfl) ?_
  refine XO.rd rfl rfl rfl (Reads.len_string Tryd.underlying9 rfl) ?_
  refine XO.rd rfl rfl rfl (Reads.cmp rfl rfl rfl) ?_
  refine XO.rd rfl rfl rfl (Reads.assign rfl) ?_
  refine XO.nil ?_
  refine XQ.then_normal ?_
  refine XC.ret ?_
  refine XQ.done1 rfl rfl (Im.le_refl _) ?_
  exact ⟨rfl, congrArg Value.bool (by simp only [cmpInt]; rw [Bool.eq_iff_iff, beq_iff_eq, decide_eq_true_eq]; omega), rfl⟩

theorem badKey_any (s : ByteArray) (I : Im) : FC Tryd.prog 54 [.string s] I (fun u I' => u = .bool (!decide (s.size = 32)) ∧ I' = I) := by
  refine FSo.intro (n := 6) Tryd.func54 rfl rfl rfl (fun K Lf => ?_)
  refine XC.seq ?_
  refine XC.region ?_
  refine XO.rd rfl rfl rfl (Reads.assign rfl) ?_
  refine XO.nil ?_
  refine XQ.then_normal ?_
  refine XC.seq ?_
  refine XC.region ?_
  refine XO.rd rfl rfl rfl (Reads.move rfl) ?_
  refine XO.callp rfl rfl en55 (isKey_any s _) ⟨rfl, trivial⟩ ?_
  refine XO.rd rfl rfl rfl (Reads.not rfl) ?_
  refine XO.rd rfl rfl rfl (Reads.assign rfl) ?_
  refine XO.nil ?_
  refine XQ.then_normal ?_
  refine XC.ret ?_
  refine XQ.done1 rfl rfl (Im.le_refl _) ?_
  exact ⟨rfl, rfl, rfl⟩

theorem badSet_any (n : Int) (I : Im) : FC Tryd.prog 56 [.int .i64 n] I (fun u I' => u = .bool (!inB n 0 255) ∧ I' = I) := by
  refine FSo.intro (n := 6) Tryd.func56 rfl rfl rfl (fun K Lf => ?_)
  refine XC.seq ?_
  refine XC.region ?_
  refine XO.rd rfl rfl rfl (Reads.assign rfl) ?_
  refine XO.nil ?_
  refine XQ.then_normal ?_
  refine XC.seq ?_
  refine XC.region ?_
  refine XO.rd rfl rfl rfl (Reads.move rfl) ?_
  refine XO.callp rfl rfl en52 (isIn_any _ _ _ _) ⟨rfl, rfl, rfl, trivial⟩ ?_
  refine XO.rd rfl rfl rfl (Reads.not rfl) ?_
  refine XO.rd rfl rfl rfl (Reads.assign rfl) ?_
  refine XO.nil ?_
  refine XQ.then_normal ?_
  refine XC.ret ?_
  refine XQ.done1 rfl rfl (Im.le_refl _) ?_
  exact ⟨rfl, rfl, rfl⟩

theorem badKnown_any (s : ByteArray) (I : Im) : FC Tryd.prog 73 [.string s] I (fun u I' => u = .bool (!decide (s = mtB) && !decide (s.size = 32)) ∧ I' = I) := by
  refine FSo.intro (n := 10) Tryd.func73 rfl rfl rfl (fun K Lf => ?_)
  refine XC.seq ?_
  refine XC.region ?_
  refine XO.rd rfl rfl rfl (Reads.assign rfl) ?_
  refine XO.nil ?_
  refine XQ.then_normal ?_
  refine XC.seq ?_
  refine XC.region ?_
  refine XO.rd rfl rfl rfl (Reads.move rfl) ?_
  refine XO.rd rfl rfl rfl (Reads.sne rfl rfl) ?_
  refine XO.rd rfl rfl rfl (Reads.move rfl) ?_
  refine XO.split (d := 5) rfl (fun h1 => ?_) (fun h1 => ?_)
  · skip
    refine XO.rd (wg rfl rfl rfl) rfl rfl (Reads.move rfl) ?_
    refine XO.callp (wg rfl rfl rfl) rfl en55 (isKey_any s _) ⟨rfl, trivial⟩ ?_
    refine XO.rd (wg rfl rfl rfl) rfl rfl (Reads.not rfl) ?_
    refine XO.rd rfl rfl rfl (Reads.pick_true rfl rfl) ?_
    refine XO.rd rfl rfl rfl (Reads.assign rfl) ?_
    refine XO.nil ?_
    refine XQ.then_normal ?_
    refine XC.ret ?_
    refine XQ.done1 rfl rfl (Im.le_refl _) ?_
    have h9 : ¬ s = mtB := by simpa using h1
    exact ⟨rfl, congrArg Value.bool (by rw [decide_eq_false h9]; rfl), rfl⟩
  · skip
    refine XO.s (wg rfl rfl rfl) rfl ?_
    refine XO.s (wg rfl rfl rfl) rfl ?_
    refine XO.s (wg rfl rfl rfl) rfl ?_
    refine XO.rd rfl rfl rfl (Reads.pick_false rfl rfl) ?_
    refine XO.rd rfl rfl rfl (Reads.assign rfl) ?_
    refine XO.nil ?_
    refine XQ.then_normal ?_
    refine XC.ret ?_
    refine XQ.done1 rfl rfl (Im.le_refl _) ?_
    have h9 : s = mtB := by simpa using h1
    exact ⟨rfl, congrArg Value.bool (by rw [decide_eq_true h9]; rfl), rfl⟩

theorem indexFunc_str (a : Option Addr) (cap : Nat) (bs : List ByteArray) (g : FuncId) (p : ByteArray → Bool) (I : Im) (hA : Arr I a bs) (hlen : bs.length ≤ 1000000) (hg : Enters Tryd.prog g) (hp : ∀ (k : Nat) (h : k < bs.length) (J : Im), FC Tryd.prog g [.string bs[k]] J (fun u I' => u = .bool (p bs[k]) ∧ I' = J)) : FC Tryd.prog 78 [.slice a bs.length cap, .func (.func g) #[] #[]] I (fun u I' => u = .int .i64 (idx p bs) ∧ I' = I) := by
  refine FSo.intro (n := 19) Tryd.func78 rfl rfl rfl (fun K Lf => ?_)
  refine XC.seq ?_
  refine XC.region ?_
  refine XO.rd rfl rfl rfl (Reads.assign rfl) ?_
  refine XO.nil ?_
  refine XQ.then_normal ?_
  refine XC.seq ?_
  refine XC.seq ?_
  refine XC.region ?_
  refine XO.rd rfl rfl rfl (Reads.move rfl) ?_
  refine XO.rd rfl rfl rfl (Reads.len_slice Tryd.underlying29 rfl) ?_
  refine XO.rd rfl rfl rfl (Reads.move rfl) ?_
  refine XO.nil ?_
  refine XQ.then_normal ?_
  refine XC.block ?_
  refine XC.loop (ι := Nat) (fun q => [(0, .slice a bs.length cap), (1, .func (.func g) #[] #[]), (7, .int .i64 bs.length), (8, .int .i64 q)]) (fun q => I) (fun q => [] ++ Lf) (fun q => q ≤ bs.length ∧ ∀ (j : Nat) (h : j < bs.length), j < q → p bs[j] = false) (fun q => bs.length - q) 0 ⟨Nat.zero_le _, fun _ _ h => absurd h (Nat.not_lt_zero _)⟩ ⟨rfl, rfl, rfl, rfl, trivial⟩ rfl (List.Perm.refl _) (fun k hk => ?_)
  obtain ⟨hk1, hk2⟩ := hk
  refine XC.seq ?_
  refine XC.region ?_
  refine XO.rd rfl rfl rfl (Reads.cmp rfl rfl rfl) ?_
  refine XO.nil ?_
  refine XQ.then_normal ?_
  refine XC.seq ?_
  refine XC.cond rfl (fun h1 => ?_) (fun h1 => ?_)
  · skip
    simp only [cmpInt, decide_eq_true_eq] at h1
    have hk3 : k < bs.length := by omega
    refine XC.skip ?_
    refine XQ.then_normal ?_
    refine XC.seq ?_
    refine XC.block ?_
    refine XC.seq ?_
    refine XC.region ?_
    refine XO.rd rfl rfl rfl (Reads.move rfl) ?_
    refine XO.rd rfl rfl rfl (Reads.assign rfl) ?_
    refine XO.nil ?_
    refine XQ.then_normal ?_
    refine XC.seq ?_
    refine XC.region ?_
    refine XO.rd rfl rfl rfl (Reads.move rfl) ?_
    refine XO.rd rfl rfl rfl (Reads.move rfl) ?_
    refine XO.rd rfl rfl rfl (Reads.move rfl) ?_
    refine XO.rd rfl rfl rfl (Reads.index_slot Tryd.underlying29 z9 rfl rfl (by omega) (hA.isSome (by decide) (by omega)) rfl) ?_
    refine XO.rd rfl rfl rfl (Reads.load_at k9 rfl (hA.str hk3)) ?_
    refine XO.callo (vs := [_]) (L1 := []) rfl rfl rfl hg ⟨rfl, trivial⟩ (hp k hk3 I) (List.Perm.refl _) ?_
    rintro v I' L' _ ⟨rfl, rfl, rfl⟩
    refine XO.nil ?_
    refine XQ.then_normal ?_
    refine XC.cond rfl (fun h2 => ?_) (fun h2 => ?_)
    · skip
      refine XC.seq ?_
      refine XC.region ?_
      refine XO.rd rfl rfl rfl (Reads.move rfl) ?_
      refine XO.rd rfl rfl rfl (Reads.assign rfl) ?_
      refine XO.nil ?_
      refine XQ.then_normal ?_
      refine XC.ret ?_
      refine XQ.block_ret ?_
      refine XQ.then_ret ?_
      refine XQ.then_ret ?_
      refine XQ.block_ret ?_
      refine XQ.then_ret ?_
      refine XQ.done1 rfl rfl (Im.le_refl _) ?_
      exact ⟨rfl, by rw [idx_found hk3 (by assumption) hk2], rfl⟩
    · skip
      refine XC.skip ?_
      refine XQ.block_normal ?_
      refine XQ.then_normal ?_
      refine XC.region ?_
      refine XO.rd rfl rfl rfl (Reads.add rfl rfl (by omega)) ?_
      refine XO.rd rfl rfl rfl (Reads.move rfl) ?_
      refine XO.nil ?_
      refine XQ.back (k + 1) ⟨by omega, fun j h hj => by rcases Nat.lt_succ_iff_lt_or_eq.1 hj with h9 | rfl; exact hk2 j h h9; assumption⟩ (by omega) ⟨rfl, rfl, rfl, rfl, trivial⟩ rfl (List.Perm.refl _)
  · skip
    simp only [cmpInt, decide_eq_false_iff_not] at h1
    refine XC.exit ?_
    refine XQ.then_exit ?_
    refine XQ.then_exit ?_
    refine XQ.block_exit ?_
    refine XQ.then_normal ?_
    refine XC.seq ?_
    refine XC.region ?_
    refine XO.rd rfl rfl rfl (Reads.assign rfl) ?_
    refine XO.nil ?_
    refine XQ.then_normal ?_
    refine XC.ret ?_
    refine XQ.done1 rfl rfl (Im.le_refl _) ?_
    exact ⟨rfl, by rw [idx_none (fun j hj => hk2 j hj (by omega))], rfl⟩

theorem indexFunc_int (a : Option Addr) (cap : Nat) (bs : List Int) (g : FuncId) (p : Int → Bool) (I : Im) (hA : Arr I a bs) (hlen : bs.length ≤ 1000000) (hg : Enters Tryd.prog g) (hp : ∀ (k : Nat) (h : k < bs.length) (J : Im), FC Tryd.prog g [.int .i64 bs[k]] J (fun u I' => u = .bool (p bs[k]) ∧ I' = J)) : FC Tryd.prog 79 [.slice a bs.length cap, .func (.func g) #[] #[]] I (fun u I' => u = .int .i64 (idx p bs) ∧ I' = I) := by
  refine FSo.intro (n := 19) Tryd.func79 rfl rfl rfl (fun K Lf => ?_)
  refine XC.seq ?_
  refine XC.region ?_
  refine XO.rd rfl rfl rfl (Reads.assign rfl) ?_
  refine XO.nil ?_
  refine XQ.then_normal ?_
  refine XC.seq ?_
  refine XC.seq ?_
  refine XC.region ?_
  refine XO.rd rfl rfl rfl (Reads.move rfl) ?_
  refine XO.rd rfl rfl rfl (Reads.len_slice Tryd.underlying23 rfl) ?_
  refine XO.rd rfl rfl rfl (Reads.move rfl) ?_
  refine XO.nil ?_
  refine XQ.then_normal ?_
  refine XC.block ?_
  refine XC.loop (ι := Nat) (fun q => [(0, .slice a bs.length cap), (1, .func (.func g) #[] #[]), (7, .int .i64 bs.length), (8, .int .i64 q)]) (fun q => I) (fun q => [] ++ Lf) (fun q => q ≤ bs.length ∧ ∀ (j : Nat) (h : j < bs.length), j < q → p bs[j] = false) (fun q => bs.length - q) 0 ⟨Nat.zero_le _, fun _ _ h => absurd h (Nat.not_lt_zero _)⟩ ⟨rfl, rfl, rfl, rfl, trivial⟩ rfl (List.Perm.refl _) (fun k hk => ?_)
  obtain ⟨hk1, hk2⟩ := hk
  refine XC.seq ?_
  refine XC.region ?_
  refine XO.rd rfl rfl rfl (Reads.cmp rfl rfl rfl) ?_
  refine XO.nil ?_
  refine XQ.then_normal ?_
  refine XC.seq ?_
  refine XC.cond rfl (fun h1 => ?_) (fun h1 => ?_)
  · skip
    simp only [cmpInt, decide_eq_true_eq] at h1
    have hk3 : k < bs.length := by omega
    refine XC.skip ?_
    refine XQ.then_normal ?_
    refine XC.seq ?_
    refine XC.block ?_
    refine XC.seq ?_
    refine XC.region ?_
    refine XO.rd rfl rfl rfl (Reads.move rfl) ?_
    refine XO.rd rfl rfl rfl (Reads.assign rfl) ?_
    refine XO.nil ?_
    refine XQ.then_normal ?_
    refine XC.seq ?_
    refine XC.region ?_
    refine XO.rd rfl rfl rfl (Reads.move rfl) ?_
    refine XO.rd rfl rfl rfl (Reads.move rfl) ?_
    refine XO.rd rfl rfl rfl (Reads.move rfl) ?_
    refine XO.rd rfl rfl rfl (Reads.index_slot Tryd.underlying23 z3 rfl rfl (by omega) (hA.isSome (by decide) (by omega)) rfl) ?_
    refine XO.rd rfl rfl rfl (Reads.load_at k3 rfl (hA.int hk3)) ?_
    refine XO.callo (vs := [_]) (L1 := []) rfl rfl rfl hg ⟨rfl, trivial⟩ (hp k hk3 I) (List.Perm.refl _) ?_
    rintro v I' L' _ ⟨rfl, rfl, rfl⟩
    refine XO.nil ?_
    refine XQ.then_normal ?_
    refine XC.cond rfl (fun h2 => ?_) (fun h2 => ?_)
    · skip
      refine XC.seq ?_
      refine XC.region ?_
      refine XO.rd rfl rfl rfl (Reads.move rfl) ?_
      refine XO.rd rfl rfl rfl (Reads.assign rfl) ?_
      refine XO.nil ?_
      refine XQ.then_normal ?_
      refine XC.ret ?_
      refine XQ.block_ret ?_
      refine XQ.then_ret ?_
      refine XQ.then_ret ?_
      refine XQ.block_ret ?_
      refine XQ.then_ret ?_
      refine XQ.done1 rfl rfl (Im.le_refl _) ?_
      exact ⟨rfl, by rw [idx_found hk3 (by assumption) hk2], rfl⟩
    · skip
      refine XC.skip ?_
      refine XQ.block_normal ?_
      refine XQ.then_normal ?_
      refine XC.region ?_
      refine XO.rd rfl rfl rfl (Reads.add rfl rfl (by omega)) ?_
      refine XO.rd rfl rfl rfl (Reads.move rfl) ?_
      refine XO.nil ?_
      refine XQ.back (k + 1) ⟨by omega, fun j h hj => by rcases Nat.lt_succ_iff_lt_or_eq.1 hj with h9 | rfl; exact hk2 j h h9; assumption⟩ (by omega) ⟨rfl, rfl, rfl, rfl, trivial⟩ rfl (List.Perm.refl _)
  · skip
    simp only [cmpInt, decide_eq_false_iff_not] at h1
    refine XC.exit ?_
    refine XQ.then_exit ?_
    refine XQ.then_exit ?_
    refine XQ.block_exit ?_
    refine XQ.then_normal ?_
    refine XC.seq ?_
    refine XC.region ?_
    refine XO.rd rfl rfl rfl (Reads.assign rfl) ?_
    refine XO.nil ?_
    refine XQ.then_normal ?_
    refine XC.ret ?_
    refine XQ.done1 rfl rfl (Im.le_refl _) ?_
    exact ⟨rfl, by rw [idx_none (fun j hj => hk2 j hj (by omega))], rfl⟩

theorem containsFunc_str (a : Option Addr) (cap : Nat) (bs : List ByteArray) (g : FuncId) (p : ByteArray → Bool) (I : Im) (hA : Arr I a bs) (hlen : bs.length ≤ 1000000) (hg : Enters Tryd.prog g) (hp : ∀ (k : Nat) (h : k < bs.length) (J : Im), FC Tryd.prog g [.string bs[k]] J (fun u I' => u = .bool (p bs[k]) ∧ I' = J)) : FC Tryd.prog 57 [.slice a bs.length cap, .func (.func g) #[] #[]] I (fun u I' => u = .bool (bs.any p) ∧ I' = I) := by
  refine FSo.intro (n := 9) Tryd.func57 rfl rfl rfl (fun K Lf => ?_)
  refine XC.seq ?_
  refine XC.region ?_
  refine XO.rd rfl rfl rfl (Reads.assign rfl) ?_
  refine XO.nil ?_
  refine XQ.then_normal ?_
  refine XC.seq ?_
  refine XC.region ?_
  refine XO.rd rfl rfl rfl (Reads.move rfl) ?_
  refine XO.rd rfl rfl rfl (Reads.move rfl) ?_
  refine XO.callp rfl rfl en78 (indexFunc_str a cap bs g p _ hA hlen hg hp) ⟨rfl, rfl, trivial⟩ ?_
  refine XO.rd rfl rfl rfl (Reads.cmp rfl rfl rfl) ?_
  refine XO.rd rfl rfl rfl (Reads.assign rfl) ?_
  refine XO.nil ?_
  refine XQ.then_normal ?_
  refine XC.ret ?_
  refine XQ.done1 rfl rfl (Im.le_refl _) ?_
  refine ⟨rfl, ?_, rfl⟩
  rw [show cmpInt .geq (idx p bs) 0 = decide (0 ≤ idx p bs) from rfl]
  congr 1; rw [Bool.eq_iff_iff]; simp only [decide_eq_true_eq]; exact idx_ge

theorem containsFunc_int (a : Option Addr) (cap : Nat) (bs : List Int) (g : FuncId) (p : Int → Bool) (I : Im) (hA : Arr I a bs) (hlen : bs.length ≤ 1000000) (hg : Enters Tryd.prog g) (hp : ∀ (k : Nat) (h : k < bs.length) (J : Im), FC Tryd.prog g [.int .i64 bs[k]] J (fun u I' => u = .bool (p bs[k]) ∧ I' = J)) : FC Tryd.prog 58 [.slice a bs.length cap, .func (.func g) #[] #[]] I (fun u I' => u = .bool (bs.any p) ∧ I' = I) := by
  refine FSo.intro (n := 9) Tryd.func58 rfl rfl rfl (fun K Lf => ?_)
  refine XC.seq ?_
  refine XC.region ?_
  refine XO.rd rfl rfl rfl (Reads.assign rfl) ?_
  refine XO.nil ?_
  refine XQ.then_normal ?_
  refine XC.seq ?_
  refine XC.region ?_
  refine XO.rd rfl rfl rfl (Reads.move rfl) ?_
  refine XO.rd rfl rfl rfl (Reads.move rfl) ?_
  refine XO.callp rfl rfl en79 (indexFunc_int a cap bs g p _ hA hlen hg hp) ⟨rfl, rfl, trivial⟩ ?_
  refine XO.rd rfl rfl rfl (Reads.cmp rfl rfl rfl) ?_
  refine XO.rd rfl rfl rfl (Reads.assign rfl) ?_
  refine XO.nil ?_
  refine XQ.then_normal ?_
  refine XC.ret ?_
  refine XQ.done1 rfl rfl (Im.le_refl _) ?_
  refine ⟨rfl, ?_, rfl⟩
  rw [show cmpInt .geq (idx p bs) 0 = decide (0 ≤ idx p bs) from rfl]
  congr 1; rw [Bool.eq_iff_iff]; simp only [decide_eq_true_eq]; exact idx_ge

theorem isKnown_any (al : Option Addr) (cl : Nat) (l : List ByteArray) (I : Im) (hL : Arr I al l) (hll : l.length ≤ 1000000) : FC Tryd.prog 47 [.slice al l.length cl] I (fun u I' => u = .bool (okKeys l) ∧ I' = I) := by
  refine FSo.intro (n := 13) Tryd.func47 rfl rfl rfl (fun K Lf => ?_)
  refine XC.seq ?_
  refine XC.region ?_
  refine XO.rd rfl rfl rfl (Reads.assign rfl) ?_
  refine XO.nil ?_
  refine XQ.then_normal ?_
  refine XC.seq ?_
  refine XC.region ?_
  refine XO.rd rfl rfl rfl (Reads.assign rfl) ?_
  refine XO.nil ?_
  refine XQ.then_normal ?_
  refine XC.seq ?_
  refine XC.region ?_
  refine XO.rd rfl rfl rfl (Reads.move rfl) ?_
  refine XO.rd rfl rfl rfl (Reads.len_slice Tryd.underlying29 rfl) ?_
  refine XO.rd rfl rfl rfl (Reads.cmp rfl rfl rfl) ?_
  refine XO.rd rfl rfl rfl (Reads.move rfl) ?_
  refine XO.split (d := 7) rfl (fun h1 => ?_) (fun h1 => ?_)
  · skip
    simp only [cmpInt, beq_iff_eq] at h1
    refine XO.rd (wg rfl rfl rfl) rfl rfl (Reads.move rfl) ?_
    refine XO.rd (wg rfl rfl rfl) rfl rfl (Reads.move rfl) ?_
    refine XO.callp (wg rfl rfl rfl) rfl en57 (containsFunc_str al cl l 73 (fun s => !decide (s = mtB) && !decide (s.size = 32)) _ hL hll en73 (fun k hk J => badKnown_any l[k] J)) ⟨rfl, rfl, trivial⟩ ?_
    refine XO.rd (wg rfl rfl rfl) rfl rfl (Reads.not rfl) ?_
    refine XO.rd rfl rfl rfl (Reads.pick_true rfl rfl) ?_
    refine XO.rd rfl rfl rfl (Reads.assign rfl) ?_
    refine XO.nil ?_
    refine XQ.then_normal ?_
    refine XC.ret ?_
    refine XQ.done1 rfl rfl (Im.le_refl _) ?_
    exact ⟨rfl, congrArg Value.bool (by unfold okKeys; rw [decide_eq_true (show l.length = 8 by omega)]; rfl), rfl⟩
  · skip
    simp only [cmpInt, beq_eq_false_iff_ne] at h1
    refine XO.s (wg rfl rfl rfl) rfl ?_
    refine XO.s (wg rfl rfl rfl) rfl ?_
    refine XO.s (wg rfl rfl rfl) rfl ?_
    refine XO.s (wg rfl rfl rfl) rfl ?_
    refine XO.rd rfl rfl rfl (Reads.pick_false rfl rfl) ?_
    refine XO.rd rfl rfl rfl (Reads.assign rfl) ?_
    refine XO.nil ?_
    refine XQ.then_normal ?_
    refine XC.ret ?_
    refine XQ.done1 rfl rfl (Im.le_refl _) ?_
    exact ⟨rfl, congrArg Value.bool (by unfold okKeys; rw [decide_eq_false (show ¬ l.length = 8 by omega)]; rfl), rfl⟩

theorem formed_any (x : Att) (a : Option Addr) (cap : Nat) (I : Im) (hA : Arr I a x.hs) (h63 : x.hs.length ≤ 9223372036854775807) : FC Tryd.prog 20 [.agg (x.cs a cap).toArray] I (fun u I' => u = .bool x.formed ∧ I' = I) := by
  refine FSo.intro (n := 73) Tryd.func20 rfl rfl rfl (fun K Lf => ?_)
  refine XC.seq ?_
  refine XC.region ?_
  refine XO.box_agg rfl rfl rfl (fun b1 => ?_)
  refine XO.rd rfl rfl rfl (Reads.assign rfl) ?_
  refine XO.nil ?_
  refine XQ.then_normal ?_
  refine XC.seq ?_
  refine XC.region ?_
  refine XO.rd rfl rfl rfl (fa37_0 rfl) ?_
  refine XO.rd rfl rfl rfl (Reads.load_agg_own (vs := x.d.cs) k34 z34 rfl (fun j v hj => OwnAt.of 0 rfl (by rw [Nat.zero_add]; exact dial_at x a cap hj))) ?_
  refine XO.alloc (cs := #[.int .i64 0, .int .i64 0, .int .i64 0, .int .i64 0]) rfl rfl zo34 rfl (fun b3 => ?_)
  refine XO.store_agg (vs := x.d.cs) 0 rfl z34 rfl rfl (by simp [Value.oneCell']) rfl (by simp) ?_
  refine XO.nil ?_
  refine XQ.then_normal ?_
  refine XC.seq ?_
  refine XC.seq ?_
  refine XC.region ?_
  refine XO.rd rfl rfl rfl (fa34_0 rfl) ?_
  refine XO.rd rfl rfl rfl (Reads.load_own k3 rfl (by first | exact OwnAt.of 0 rfl rfl | exact OwnAt.of 1 rfl rfl | exact OwnAt.of 2 rfl rfl | exact OwnAt.of 3 rfl rfl | exact OwnAt.of 4 rfl rfl | exact OwnAt.of 5 rfl rfl)) ?_
  refine XO.callp rfl rfl en52 (isIn_any _ _ _ _) ⟨rfl, rfl, rfl, trivial⟩ ?_
  refine XO.rd rfl rfl rfl (Reads.not rfl) ?_
  refine XO.rd rfl rfl rfl (Reads.move rfl) ?_
  refine XO.split (d := 13) rfl (fun h1 => ?_) (fun h1 => ?_)
  · skip
    simp only [Bool.not_eq_true'] at h1
    refine XO.s (wg rfl rfl rfl) rfl ?_
    refine XO.s (wg rfl rfl rfl) rfl ?_
    refine XO.s (wg rfl rfl rfl) rfl ?_
    refine XO.s (wg rfl rfl rfl) rfl ?_
    refine XO.rd rfl rfl rfl (Reads.pick_true rfl rfl) ?_
    refine XO.rd rfl rfl rfl (Reads.move rfl) ?_
    refine XO.s (wg rfl rfl rfl) rfl ?_
    refine XO.s (wg rfl rfl rfl) rfl ?_
    refine XO.s (wg rfl rfl rfl) rfl ?_
    refine XO.s (wg rfl rfl rfl) rfl ?_
    refine XO.rd rfl rfl rfl (Reads.pick_true rfl rfl) ?_
    refine XO.rd rfl rfl rfl (Reads.move rfl) ?_
    refine XO.s (wg rfl rfl rfl) rfl ?_
    refine XO.s (wg rfl rfl rfl) rfl ?_
    refine XO.s (wg rfl rfl rfl) rfl ?_
    refine XO.s (wg rfl rfl rfl) rfl ?_
    refine XO.rd rfl rfl rfl (Reads.pick_true rfl rfl) ?_
    refine XO.rd rfl rfl rfl (Reads.move rfl) ?_
    refine XO.s (wg rfl rfl rfl) rfl ?_
    refine XO.s (wg rfl rfl rfl) rfl ?_
    refine XO.s (wg rfl rfl rfl) rfl ?_
    refine XO.s (wg rfl rfl rfl) rfl ?_
    refine XO.s (wg rfl rfl rfl) rfl ?_
    refine XO.rd rfl rfl rfl (Reads.pick_true rfl rfl) ?_
    refine XO.nil ?_
    refine XQ.then_normal ?_
    refine XC.cond rfl (fun _ => ?_) (fun hx => by cases hx)
    refine XC.seq ?_
    refine XC.region ?_
    refine XO.rd rfl rfl rfl (Reads.assign rfl) ?_
    refine XO.nil ?_
    refine XQ.then_normal ?_
    refine XC.ret ?_
    refine XQ.then_ret ?_
    refine XQ.dropn 2 ?_
    refine XQ.done1 rfl rfl (Im.le_refl _) ?_
    exact ⟨rfl, congrArg Value.bool (by symm; rw [Bool.eq_false_iff]; intro hh; obtain ⟨g1, g2, g3⟩ := formed_iff.1 hh; simp [okD, *] at g1), rfl⟩
  · skip
    simp only [Bool.not_eq_false'] at h1
    refine XO.rd (wg rfl rfl rfl) rfl rfl (fa34_1 rfl) ?_
    refine XO.rd (wg rfl rfl rfl) rfl rfl (Reads.load_own k3 rfl (by first | exact OwnAt.of 0 rfl rfl | exact OwnAt.of 1 rfl rfl | exact OwnAt.of 2 rfl rfl | exact OwnAt.of 3 rfl rfl | exact OwnAt.of 4 rfl rfl | exact OwnAt.of 5 rfl rfl)) ?_
    refine XO.callp (wg rfl rfl rfl) rfl en52 (isIn_any _ _ _ _) ⟨rfl, rfl, rfl, trivial⟩ ?_
    refine XO.rd (wg rfl rfl rfl) rfl rfl (Reads.not rfl) ?_
    refine XO.rd rfl rfl rfl (Reads.pick_false rfl rfl) ?_
    refine XO.rd rfl rfl rfl (Reads.move rfl) ?_
    refine XO.split (d := 19) rfl (fun h2 => ?_) (fun h2 => ?_)
    · skip
      simp only [Bool.not_eq_true'] at h2
      refine XO.s (wg rfl rfl rfl) rfl ?_
      refine XO.s (wg rfl rfl rfl) rfl ?_
      refine XO.s (wg rfl rfl rfl) rfl ?_
      refine XO.s (wg rfl rfl rfl) rfl ?_
      refine XO.rd rfl rfl rfl (Reads.pick_true rfl rfl) ?_
      refine XO.rd rfl rfl rfl (Reads.move rfl) ?_
      refine XO.s (wg rfl rfl rfl) rfl ?_
      refine XO.s (wg rfl rfl rfl) rfl ?_
      refine XO.s (wg rfl rfl rfl) rfl ?_
      refine XO.s (wg rfl rfl rfl) rfl ?_
      refine XO.rd rfl rfl rfl (Reads.pick_true rfl rfl) ?_
      refine XO.rd rfl rfl rfl (Reads.move rfl) ?_
      refine XO.s (wg rfl rfl rfl) rfl ?_
      refine XO.s (wg rfl rfl rfl) rfl ?_
      refine XO.s (wg rfl rfl rfl) rfl ?_
      refine XO.s (wg rfl rfl rfl) rfl ?_
      refine XO.s (wg rfl rfl rfl) rfl ?_
      refine XO.rd rfl rfl rfl (Reads.pick_true rfl rfl) ?_
      refine XO.nil ?_
      refine XQ.then_normal ?_
      refine XC.cond rfl (fun _ => ?_) (fun hx => by cases hx)
      refine XC.seq ?_
      refine XC.region ?_
      refine XO.rd rfl rfl rfl (Reads.assign rfl) ?_
      refine XO.nil ?_
      refine XQ.then_normal ?_
      refine XC.ret ?_
      refine XQ.then_ret ?_
      refine XQ.dropn 2 ?_
      refine XQ.done1 rfl rfl (Im.le_refl _) ?_
      exact ⟨rfl, congrArg Value.bool (by symm; rw [Bool.eq_false_iff]; intro hh; obtain ⟨g1, g2, g3⟩ := formed_iff.1 hh; simp [okD, *] at g1), rfl⟩
    · skip
      simp only [Bool.not_eq_false'] at h2
      refine XO.rd (wg rfl rfl rfl) rfl rfl (fa34_2 rfl) ?_
      refine XO.rd (wg rfl rfl rfl) rfl rfl (Reads.load_own k3 rfl (by first | exact OwnAt.of 0 rfl rfl | exact OwnAt.of 1 rfl rfl | exact OwnAt.of 2 rfl rfl | exact OwnAt.of 3 rfl rfl | exact OwnAt.of 4 rfl rfl | exact OwnAt.of 5 rfl rfl)) ?_
      refine XO.callp (wg rfl rfl rfl) rfl en52 (isIn_any _ _ _ _) ⟨rfl, rfl, rfl, trivial⟩ ?_
      refine XO.rd (wg rfl rfl rfl) rfl rfl (Reads.not rfl) ?_
      refine XO.rd rfl rfl rfl (Reads.pick_false rfl rfl) ?_
      refine XO.rd rfl rfl rfl (Reads.move rfl) ?_
      refine XO.split (d := 25) rfl (fun h3 => ?_) (fun h3 => ?_)
      · skip
        simp only [Bool.not_eq_true'] at h3
        refine XO.s (wg rfl rfl rfl) rfl ?_
        refine XO.s (wg rfl rfl rfl) rfl ?_
        refine XO.s (wg rfl rfl rfl) rfl ?_
        refine XO.s (wg rfl rfl rfl) rfl ?_
        refine XO.rd rfl rfl rfl (Reads.pick_true rfl rfl) ?_
        refine XO.rd rfl rfl rfl (Reads.move rfl) ?_
        refine XO.s (wg rfl rfl rfl) rfl ?_
        refine XO.s (wg rfl rfl rfl) rfl ?_
        refine XO.s (wg rfl rfl rfl) rfl ?_
        refine XO.s (wg rfl rfl rfl) rfl ?_
        refine XO.s (wg rfl rfl rfl) rfl ?_
        refine XO.rd rfl rfl rfl (Reads.pick_true rfl rfl) ?_
        refine XO.nil ?_
        refine XQ.then_normal ?_
        refine XC.cond rfl (fun _ => ?_) (fun hx => by cases hx)
        refine XC.seq ?_
        refine XC.region ?_
        refine XO.rd rfl rfl rfl (Reads.assign rfl) ?_
        refine XO.nil ?_
        refine XQ.then_normal ?_
        refine XC.ret ?_
        refine XQ.then_ret ?_
        refine XQ.dropn 2 ?_
        refine XQ.done1 rfl rfl (Im.le_refl _) ?_
        exact ⟨rfl, congrArg Value.bool (by symm; rw [Bool.eq_false_iff]; intro hh; obtain ⟨g1, g2, g3⟩ := formed_iff.1 hh; simp [okD, *] at g1), rfl⟩
      · skip
        simp only [Bool.not_eq_false'] at h3
        refine XO.rd (wg rfl rfl rfl) rfl rfl (fa34_3 rfl) ?_
        refine XO.rd (wg rfl rfl rfl) rfl rfl (Reads.load_own k3 rfl (by first | exact OwnAt.of 0 rfl rfl | exact OwnAt.of 1 rfl rfl | exact OwnAt.of 2 rfl rfl | exact OwnAt.of 3 rfl rfl | exact OwnAt.of 4 rfl rfl | exact OwnAt.of 5 rfl rfl)) ?_
        refine XO.callp (wg rfl rfl rfl) rfl en52 (isIn_any _ _ _ _) ⟨rfl, rfl, rfl, trivial⟩ ?_
        refine XO.rd (wg rfl rfl rfl) rfl rfl (Reads.not rfl) ?_
        refine XO.rd rfl rfl rfl (Reads.pick_false rfl rfl) ?_
        refine XO.rd rfl rfl rfl (Reads.move rfl) ?_
        refine XO.split (d := 31) rfl (fun h4 => ?_) (fun h4 => ?_)
        · skip
          simp only [Bool.not_eq_true'] at h4
          refine XO.s (wg rfl rfl rfl) rfl ?_
          refine XO.s (wg rfl rfl rfl) rfl ?_
          refine XO.s (wg rfl rfl rfl) rfl ?_
          refine XO.s (wg rfl rfl rfl) rfl ?_
          refine XO.s (wg rfl rfl rfl) rfl ?_
          refine XO.rd rfl rfl rfl (Reads.pick_true rfl rfl) ?_
          refine XO.nil ?_
          refine XQ.then_normal ?_
          refine XC.cond rfl (fun _ => ?_) (fun hx => by cases hx)
          refine XC.seq ?_
          refine XC.region ?_
          refine XO.rd rfl rfl rfl (Reads.assign rfl) ?_
          refine XO.nil ?_
          refine XQ.then_normal ?_
          refine XC.ret ?_
          refine XQ.then_ret ?_
          refine XQ.dropn 2 ?_
          refine XQ.done1 rfl rfl (Im.le_refl _) ?_
          exact ⟨rfl, congrArg Value.bool (by symm; rw [Bool.eq_false_iff]; intro hh; obtain ⟨g1, g2, g3⟩ := formed_iff.1 hh; simp [okD, *] at g1), rfl⟩
        · skip
          simp only [Bool.not_eq_false'] at h4
          refine XO.rd (wg rfl rfl rfl) rfl rfl (fa37_1 rfl) ?_
          refine XO.rd (wg rfl rfl rfl) rfl rfl (Reads.load_own k35 rfl (by first | exact OwnAt.of 0 rfl rfl | exact OwnAt.of 1 rfl rfl | exact OwnAt.of 2 rfl rfl | exact OwnAt.of 3 rfl rfl | exact OwnAt.of 4 rfl rfl | exact OwnAt.of 5 rfl rfl)) ?_
          refine XO.rd (wg rfl rfl rfl) rfl rfl (Reads.len_slice Tryd.underlying35 rfl) ?_
          refine XO.callp (wg rfl rfl rfl) rfl en52 (isIn_any _ _ _ _) ⟨rfl, rfl, rfl, trivial⟩ ?_
          refine XO.rd (wg rfl rfl rfl) rfl rfl (Reads.not rfl) ?_
          refine XO.rd rfl rfl rfl (Reads.pick_false rfl rfl) ?_
          refine XO.nil ?_
          refine XQ.then_normal ?_
          refine XC.cond rfl (fun h5 => ?_) (fun h5 => ?_)
          · skip
            simp only [Bool.not_eq_true'] at h5
            refine XC.seq ?_
            refine XC.region ?_
            refine XO.rd rfl rfl rfl (Reads.assign rfl) ?_
            refine XO.nil ?_
            refine XQ.then_normal ?_
            refine XC.ret ?_
            refine XQ.then_ret ?_
            refine XQ.dropn 2 ?_
            refine XQ.done1 rfl rfl (Im.le_refl _) ?_
            exact ⟨rfl, congrArg Value.bool (by symm; rw [Bool.eq_false_iff]; intro hh; obtain ⟨g1, g2, g3⟩ := formed_iff.1 hh; rw [inB_iff.2 (by omega)] at h5; cases h5), rfl⟩
          · skip
            simp only [Bool.not_eq_false'] at h5
            have hlen := inB_iff.1 h5
            refine XC.skip ?_
            refine XQ.then_normal ?_
            refine XC.seq ?_
            refine XC.region ?_
            refine XO.rd rfl rfl rfl (bd53 (vs := [(0, .int .i64 (-1)), (1, .int .i64 3)]) #[.int .i64 (-1), .int .i64 3, .string ⟨#[]⟩] ⟨rfl, rfl, rfl, rfl, trivial⟩ rfl) ?_
            refine XO.alloc (cs := #[.int .i64 0, .int .i64 0, .string ⟨#[]⟩]) rfl rfl zo53 rfl (fun b4 => ?_)
            refine XO.store_agg (vs := (⟨-1, 3, mtB⟩ : Hand).cs) 0 rfl z53 rfl rfl (by simp [Hand.cs, Value.oneCell']) rfl (by simp [Hand.cs]) ?_
            refine XO.nil ?_
            refine XQ.then_normal ?_
            refine XC.seq ?_
            refine XC.seq ?_
            refine XC.region ?_
            refine XO.rd rfl rfl rfl (fa37_1 rfl) ?_
            refine XO.rd rfl rfl rfl (Reads.load_own k35 rfl (by first | exact OwnAt.of 0 rfl rfl | exact OwnAt.of 1 rfl rfl | exact OwnAt.of 2 rfl rfl | exact OwnAt.of 3 rfl rfl | exact OwnAt.of 4 rfl rfl | exact OwnAt.of 5 rfl rfl)) ?_
            refine XO.rd rfl rfl rfl (Reads.len_slice Tryd.underlying35 rfl) ?_
            refine XO.rd rfl rfl rfl (Reads.move rfl) ?_
            refine XO.nil ?_
            refine XQ.then_normal ?_
            refine XC.block ?_
            refine XC.loop (ι := Nat × Hand) (fun q => [(4, .pointer (some ⟨b4, 0, none⟩)), (40, .slice a x.hs.length cap), (41, .int .i64 x.hs.length), (42, .int .i64 q.1)]) (fun q => I) (fun q => some (b4, .cells q.2.cs.toArray 53 (0, 0)) :: some (b3, .cells x.d.cs.toArray 34 (0, 0)) :: some (b1, .cells (x.cs a cap).toArray 37 (0, 0)) :: ([] ++ Lf)) (fun q => q.1 ≤ x.hs.length ∧ (∀ i, i < q.1 → okH x i = true) ∧ q.2.l ≤ 3 ∧ ((q.1 = 0 ∧ q.2 = ⟨-1, 3, mtB⟩) ∨ (0 < q.1 ∧ q.2 = x.h (q.1 - 1)))) (fun q => x.hs.length - q.1) (0, ⟨-1, 3, mtB⟩) ⟨Nat.zero_le _, fun _ h => absurd h (Nat.not_lt_zero _), Int.le_refl _, .inl ⟨rfl, rfl⟩⟩ ⟨rfl, rfl, rfl, rfl, trivial⟩ rfl (List.Perm.refl _) (fun q hq => ?_)
            obtain ⟨j, p⟩ := q
            obtain ⟨hj1, hj2, hp3, hp⟩ := hq
            simp only at hj1 hj2 hp3 hp ⊢
            refine XC.seq ?_
            refine XC.region ?_
            refine XO.rd rfl rfl rfl (Reads.cmp rfl rfl rfl) ?_
            refine XO.nil ?_
            refine XQ.then_normal ?_
            refine XC.seq ?_
            refine XC.cond rfl (fun h6 => ?_) (fun h6 => ?_)
            · skip
              simp only [cmpInt, decide_eq_true_eq] at h6
              have hj3 : j < x.hs.length := by omega
              have hjh := x.h_get hj3
              refine XC.skip ?_
              refine XQ.then_normal ?_
              refine XC.seq ?_
              refine XC.block ?_
              refine XC.seq ?_
              refine XC.region ?_
              refine XO.rd rfl rfl rfl (Reads.index_slot (q := j * 3) Tryd.underlying35 z53 rfl rfl (by omega) (hA.isSome (by decide) (by omega)) rfl) ?_
              refine XO.rd rfl rfl rfl (Reads.load_agg_at (vs := x.hs[j].cs) k53 z53 rfl (hA.addr (by decide) (by omega)) (hA.hand hj3)) ?_
              refine XO.alloc (cs := #[.int .i64 0, .int .i64 0, .string ⟨#[]⟩]) rfl rfl zo53 rfl (fun b6 => ?_)
              refine XO.store_agg (vs := x.hs[j].cs) 0 rfl z53 rfl rfl (by simp [Hand.cs, Value.oneCell']) rfl (by simp [Hand.cs]) ?_
              refine XO.own_eq (congrArg (fun c => some (b6, Obj.cells c 53 (0, 0)) :: _) (show _ = x.hs[j].cs.toArray from rfl)) ?_
              refine XO.nil ?_
              refine XQ.then_normal ?_
              refine XC.seq ?_
              refine XC.seq ?_
              refine XC.weaken (E' := [(4, _), (6, _), (40, _), (41, _), (42, _)]) ⟨rfl, rfl, rfl, rfl, rfl, trivial⟩ ?_
              refine XC.region ?_
              refine XO.rd rfl rfl rfl (fa53_0 rfl) ?_
              refine XO.rd rfl rfl rfl (Reads.load_own k3 rfl (by first | exact OwnAt.of 0 rfl rfl | exact OwnAt.of 1 rfl rfl | exact OwnAt.of 2 rfl rfl | exact OwnAt.of 3 rfl rfl | exact OwnAt.of 4 rfl rfl | exact OwnAt.of 5 rfl rfl)) ?_
              refine XO.callp rfl rfl en52 (isIn_any _ _ _ _) ⟨rfl, rfl, rfl, trivial⟩ ?_
              refine XO.rd rfl rfl rfl (Reads.not rfl) ?_
              refine XO.rd rfl rfl rfl (Reads.move rfl) ?_
              refine XO.split (d := 50) rfl (fun h7 => ?_) (fun h7 => ?_)
              · skip
                simp only [Bool.not_eq_true'] at h7
                refine XO.s (wg rfl rfl rfl) rfl ?_
                refine XO.s (wg rfl rfl rfl) rfl ?_
                refine XO.s (wg rfl rfl rfl) rfl ?_
                refine XO.s (wg rfl rfl rfl) rfl ?_
                refine XO.s (wg rfl rfl rfl) rfl ?_
                refine XO.rd rfl rfl rfl (Reads.pick_true rfl rfl) ?_
                refine XO.rd rfl rfl rfl (Reads.move rfl) ?_
                refine XO.s (wg rfl rfl rfl) rfl ?_
                refine XO.s (wg rfl rfl rfl) rfl ?_
                refine XO.s (wg rfl rfl rfl) rfl ?_
                refine XO.s (wg rfl rfl rfl) rfl ?_
                refine XO.s (wg rfl rfl rfl) rfl ?_
                refine XO.s (wg rfl rfl rfl) rfl ?_
                refine XO.rd rfl rfl rfl (Reads.pick_true rfl rfl) ?_
                refine XO.rd rfl rfl rfl (Reads.move rfl) ?_
                refine XO.s (wg rfl rfl rfl) rfl ?_
                refine XO.s (wg rfl rfl rfl) rfl ?_
                refine XO.s (wg rfl rfl rfl) rfl ?_
                refine XO.s (wg rfl rfl rfl) rfl ?_
                refine XO.rd rfl rfl rfl (Reads.pick_true rfl rfl) ?_
                refine XO.nil ?_
                refine XQ.then_normal ?_
                refine XC.cond rfl (fun _ => ?_) (fun hx => by cases hx)
                refine XC.seq ?_
                refine XC.region ?_
                refine XO.rd rfl rfl rfl (Reads.assign rfl) ?_
                refine XO.nil ?_
                refine XQ.then_normal ?_
                refine XC.ret ?_
                refine XQ.then_ret ?_
                refine XQ.block_ret ?_
                refine XQ.then_ret ?_
                refine XQ.then_ret ?_
                refine XQ.block_ret ?_
                refine XQ.then_ret ?_
                refine XQ.dropn 4 ?_
                refine XQ.done1 rfl rfl (Im.le_refl _) ?_
                exact ⟨rfl, congrArg Value.bool (by symm; rw [Bool.eq_false_iff]; intro hh; obtain ⟨g1, g2, g3⟩ := formed_iff.1 hh; obtain ⟨u1, u2, u3, u4⟩ := okH_un hjh hp (g3 j hj3); cases u1.symm.trans (show inB x.hs[j].c 0 7 = false by assumption)), rfl⟩
              · skip
                simp only [Bool.not_eq_false'] at h7
                refine XO.rd (wg rfl rfl rfl) rfl rfl (fa53_0 rfl) ?_
                refine XO.rd (wg rfl rfl rfl) rfl rfl (Reads.load_own k3 rfl (by first | exact OwnAt.of 0 rfl rfl | exact OwnAt.of 1 rfl rfl | exact OwnAt.of 2 rfl rfl | exact OwnAt.of 3 rfl rfl | exact OwnAt.of 4 rfl rfl | exact OwnAt.of 5 rfl rfl)) ?_
                refine XO.rd (wg rfl rfl rfl) rfl rfl (fa53_0 rfl) ?_
                refine XO.rd (wg rfl rfl rfl) rfl rfl (Reads.load_own (v := .int .i64 p.c) k3 rfl (OwnAt.of 1 rfl rfl)) ?_
                refine XO.rd (wg rfl rfl rfl) rfl rfl (Reads.cmp rfl rfl rfl) ?_
                refine XO.rd rfl rfl rfl (Reads.pick_false rfl rfl) ?_
                refine XO.rd rfl rfl rfl (Reads.move rfl) ?_
                refine XO.split (d := 57) rfl (fun h8 => ?_) (fun h8 => ?_)
                · skip
                  simp only [cmpInt, beq_iff_eq] at h8
                  refine XO.s (wg rfl rfl rfl) rfl ?_
                  refine XO.s (wg rfl rfl rfl) rfl ?_
                  refine XO.s (wg rfl rfl rfl) rfl ?_
                  refine XO.s (wg rfl rfl rfl) rfl ?_
                  refine XO.s (wg rfl rfl rfl) rfl ?_
                  refine XO.s (wg rfl rfl rfl) rfl ?_
                  refine XO.rd rfl rfl rfl (Reads.pick_true rfl rfl) ?_
                  refine XO.rd rfl rfl rfl (Reads.move rfl) ?_
                  refine XO.s (wg rfl rfl rfl) rfl ?_
                  refine XO.s (wg rfl rfl rfl) rfl ?_
                  refine XO.s (wg rfl rfl rfl) rfl ?_
                  refine XO.s (wg rfl rfl rfl) rfl ?_
                  refine XO.rd rfl rfl rfl (Reads.pick_true rfl rfl) ?_
                  refine XO.nil ?_
                  refine XQ.then_normal ?_
                  refine XC.cond rfl (fun _ => ?_) (fun hx => by cases hx)
                  refine XC.seq ?_
                  refine XC.region ?_
                  refine XO.rd rfl rfl rfl (Reads.assign rfl) ?_
                  refine XO.nil ?_
                  refine XQ.then_normal ?_
                  refine XC.ret ?_
                  refine XQ.then_ret ?_
                  refine XQ.block_ret ?_
                  refine XQ.then_ret ?_
                  refine XQ.then_ret ?_
                  refine XQ.block_ret ?_
                  refine XQ.then_ret ?_
                  refine XQ.dropn 4 ?_
                  refine XQ.done1 rfl rfl (Im.le_refl _) ?_
                  exact ⟨rfl, congrArg Value.bool (by symm; rw [Bool.eq_false_iff]; intro hh; obtain ⟨g1, g2, g3⟩ := formed_iff.1 hh; obtain ⟨u1, u2, u3, u4⟩ := okH_un hjh hp (g3 j hj3); exact u2 (by assumption)), rfl⟩
                · skip
                  simp only [cmpInt, beq_eq_false_iff_ne] at h8
                  refine XO.rd (wg rfl rfl rfl) rfl rfl (fa53_1 rfl) ?_
                  refine XO.rd (wg rfl rfl rfl) rfl rfl (Reads.load_own k3 rfl (by first | exact OwnAt.of 0 rfl rfl | exact OwnAt.of 1 rfl rfl | exact OwnAt.of 2 rfl rfl | exact OwnAt.of 3 rfl rfl | exact OwnAt.of 4 rfl rfl | exact OwnAt.of 5 rfl rfl)) ?_
                  refine XO.rd (wg rfl rfl rfl) rfl rfl (fa53_1 rfl) ?_
                  refine XO.rd (wg rfl rfl rfl) rfl rfl (Reads.load_own (v := .int .i64 p.l) k3 rfl (OwnAt.of 1 rfl rfl)) ?_
                  refine XO.callp (wg rfl rfl rfl) rfl en52 (isIn_any _ _ _ _) ⟨rfl, rfl, rfl, trivial⟩ ?_
                  refine XO.rd (wg rfl rfl rfl) rfl rfl (Reads.not rfl) ?_
                  refine XO.rd rfl rfl rfl (Reads.pick_false rfl rfl) ?_
                  refine XO.rd rfl rfl rfl (Reads.move rfl) ?_
                  refine XO.split (d := 65) rfl (fun h9 => ?_) (fun h9 => ?_)
                  · skip
                    simp only [Bool.not_eq_true'] at h9
                    refine XO.s (wg rfl rfl rfl) rfl ?_
                    refine XO.s (wg rfl rfl rfl) rfl ?_
                    refine XO.s (wg rfl rfl rfl) rfl ?_
                    refine XO.s (wg rfl rfl rfl) rfl ?_
                    refine XO.rd rfl rfl rfl (Reads.pick_true rfl rfl) ?_
                    refine XO.nil ?_
                    refine XQ.then_normal ?_
                    refine XC.cond rfl (fun _ => ?_) (fun hx => by cases hx)
                    refine XC.seq ?_
                    refine XC.region ?_
                    refine XO.rd rfl rfl rfl (Reads.assign rfl) ?_
                    refine XO.nil ?_
                    refine XQ.then_normal ?_
                    refine XC.ret ?_
                    refine XQ.then_ret ?_
                    refine XQ.block_ret ?_
                    refine XQ.then_ret ?_
                    refine XQ.then_ret ?_
                    refine XQ.block_ret ?_
                    refine XQ.then_ret ?_
                    refine XQ.dropn 4 ?_
                    refine XQ.done1 rfl rfl (Im.le_refl _) ?_
                    exact ⟨rfl, congrArg Value.bool (by symm; rw [Bool.eq_false_iff]; intro hh; obtain ⟨g1, g2, g3⟩ := formed_iff.1 hh; obtain ⟨u1, u2, u3, u4⟩ := okH_un hjh hp (g3 j hj3); cases u3.symm.trans (show inB x.hs[j].l 0 p.l = false by assumption)), rfl⟩
                  · skip
                    simp only [Bool.not_eq_false'] at h9
                    refine XO.rd (wg rfl rfl rfl) rfl rfl (fa53_2 rfl) ?_
                    refine XO.rd (wg rfl rfl rfl) rfl rfl (Reads.load_own k9 rfl (by first | exact OwnAt.of 0 rfl rfl | exact OwnAt.of 1 rfl rfl | exact OwnAt.of 2 rfl rfl | exact OwnAt.of 3 rfl rfl | exact OwnAt.of 4 rfl rfl | exact OwnAt.of 5 rfl rfl)) ?_
                    refine XO.rd (wg rfl rfl rfl) rfl rfl (Reads.len_string Tryd.underlying9 rfl) ?_
                    refine XO.rd (wg rfl rfl rfl) rfl rfl (Reads.cmp rfl rfl rfl) ?_
                    refine XO.rd rfl rfl rfl (Reads.pick_false rfl rfl) ?_
                    refine XO.nil ?_
                    refine XQ.then_normal ?_
                    refine XC.cond rfl (fun h10 => ?_) (fun h10 => ?_)
                    · skip
                      simp only [cmpInt, bne_iff_ne, ne_eq] at h10
                      refine XC.seq ?_
                      refine XC.region ?_
                      refine XO.rd rfl rfl rfl (Reads.assign rfl) ?_
                      refine XO.nil ?_
                      refine XQ.then_normal ?_
                      refine XC.ret ?_
                      refine XQ.then_ret ?_
                      refine XQ.block_ret ?_
                      refine XQ.then_ret ?_
                      refine XQ.then_ret ?_
                      refine XQ.block_ret ?_
                      refine XQ.then_ret ?_
                      refine XQ.dropn 4 ?_
                      refine XQ.done1 rfl rfl (Im.le_refl _) ?_
                      exact ⟨rfl, congrArg Value.bool (by symm; rw [Bool.eq_false_iff]; intro hh; obtain ⟨g1, g2, g3⟩ := formed_iff.1 hh; obtain ⟨u1, u2, u3, u4⟩ := okH_un hjh hp (g3 j hj3); omega), rfl⟩
                    · skip
                      simp only [cmpInt, bne_eq_false_iff_eq] at h10
                      refine XC.skip ?_
                      refine XQ.then_normal ?_
                      refine XC.region ?_
                      refine XO.rd rfl rfl rfl (Reads.load_whole k53 z53 rfl (by first | exact WholeAt.of 0 rfl | exact WholeAt.of 1 rfl | exact WholeAt.of 2 rfl | exact WholeAt.of 3 rfl | exact WholeAt.of 4 rfl | exact WholeAt.of 5 rfl) (by rfl)) ?_
                      refine XO.store_agg (vs := x.hs[j].cs) 1 rfl z53 rfl rfl (by simp [Hand.cs, Value.oneCell']) rfl (by simp [Hand.cs]) ?_
                      refine XO.own_eq (congrArg (fun c => _ :: some (b4, Obj.cells c 53 (0, 0)) :: _) (show _ = x.hs[j].cs.toArray from rfl)) ?_
                      refine XO.nil ?_
                      refine XQ.block_normal ?_
                      refine XQ.then_normal ?_
                      refine XC.region ?_
                      refine XO.rd rfl rfl rfl (Reads.add rfl rfl (by omega)) ?_
                      refine XO.rd rfl rfl rfl (Reads.move rfl) ?_
                      refine XO.nil ?_
                      refine XQ.dropn 1 ?_
                      have hok : okH x j = true := okH_step hjh hp hp3 (by assumption) (by assumption) (by assumption) (by omega)
                      have hl3 := (okH_iff.1 hok).2.1.2
                      refine XQ.back (j + 1, x.hs[j]) ⟨by simp only; omega, fun i hi => by rcases Nat.lt_succ_iff_lt_or_eq.1 hi with h9 | rfl; exact hj2 i h9; exact hok, by simp only; rw [← hjh]; exact hl3, .inr ⟨Nat.succ_pos _, by simp [hjh]⟩⟩ (by simp only; omega) ⟨rfl, rfl, rfl, rfl, trivial⟩ rfl (List.Perm.refl _)
            · skip
              simp only [cmpInt, decide_eq_false_iff_not] at h6
              refine XC.exit ?_
              refine XQ.then_exit ?_
              refine XQ.then_exit ?_
              refine XQ.block_exit ?_
              refine XQ.then_normal ?_
              refine XC.seq ?_
              refine XC.region ?_
              refine XO.rd rfl rfl rfl (Reads.assign rfl) ?_
              refine XO.nil ?_
              refine XQ.then_normal ?_
              refine XC.ret ?_
              refine XQ.dropn 3 ?_
              refine XQ.done1 rfl rfl (Im.le_refl _) ?_
              exact ⟨rfl, congrArg Value.bool (Eq.symm (formed_iff.2 ⟨by simp [okD, *], by omega, fun i hi => hj2 i (by omega)⟩)), rfl⟩

end Go.Proofs.YtmlliafhpbfdbaaDoor
namespace Go.Proofs.YtmlliafhpbfdbaaDoor
open Go.Xe Go.Sh Go Go.At

theorem inf109 : (Tryd.prog.info? 109).map (fun j => j.size == 0) = some false := by kernel_rfl
theorem lies111 : liesAt Tryd.prog Tryd.prog.depth 111 (2 / Tryd.prog.cellsOf 111) 0 109 1 = true := by kernel_rfl
theorem cells5 : Tryd.prog.cellsOf 5 = 1 := by kernel_rfl
theorem copyCheck_new (b : Nat) (V : Vec) (I : Im) : FSo Tryd.prog 87 [.pointer (some ⟨b, 0, none⟩)] I [some (b, .cells #[.pointer none, V.val] 111 (0, 0))] (fun u I' L' => u = .tuple #[] ∧ I' = I ∧ L' = [some (b, .cells #[.pointer (some ⟨b, 0, none⟩), V.val] 111 (0, 0))]) := by
  obtain ⟨j9, hj9, hjs⟩ := Option.map_eq_some_iff.1 inf109
  refine FSo.intro (n := 20) Tryd.func87 rfl rfl rfl (fun K Lf => ?_)
  refine XC.seq ?_
  refine XC.region ?_
  refine XO.rd rfl rfl rfl (Reads.move rfl) ?_
  refine XO.rd rfl rfl rfl (Reads.nilCheck rfl) ?_
  refine XO.rd rfl rfl rfl (fa109_0 rfl) ?_
  refine XO.rd rfl rfl rfl (Reads.load_own k107 rfl (by first | exact OwnAt.of 0 rfl rfl | exact OwnAt.of 1 rfl rfl | exact OwnAt.of 2 rfl rfl | exact OwnAt.of 3 rfl rfl | exact OwnAt.of 4 rfl rfl | exact OwnAt.of 5 rfl rfl)) ?_
  refine XO.rd rfl rfl rfl (Reads.ptr_nil_nil Tryd.underlying107 rfl rfl) ?_
  refine XO.nil ?_
  refine XQ.then_normal ?_
  refine XC.cond rfl (fun _ => ?_) (fun hx => by cases hx)
  refine XC.region ?_
  refine XO.rd rfl rfl rfl (Reads.move rfl) ?_
  refine XO.rd rfl rfl rfl (Reads.move rfl) ?_
  refine XO.rd rfl rfl rfl (Reads.to_unsafe Tryd.underlying107 Tryd.underlying142 hj9 hjs rfl (List.mem_cons_self ..) (Nat.zero_lt_succ 1)) ?_
  refine XO.rd rfl rfl rfl (Reads.outer (vs := [_]) (e := Extern.AbiNoEscape.same) Tryd.func96 (by kernel_rfl) (by kernel_rfl) (by kernel_rfl) (by kernel_rfl) ⟨rfl, trivial⟩ (fun _ => rfl)) ?_
  refine XO.rd rfl rfl rfl (Reads.from_unsafe Tryd.underlying142 Tryd.underlying107 hj9 rfl (List.mem_cons_self ..) lies111) ?_
  refine XO.rd rfl rfl rfl (Reads.nilCheck rfl) ?_
  refine XO.rd rfl rfl rfl (fa109_0 rfl) ?_
  refine XO.store 0 rfl z107 rfl rfl rfl rfl (by simp) ?_
  refine XO.nil ?_
  refine XQ.done_normal ?_
  refine XQ.done0 (L := [some (b, .cells #[.pointer (some ⟨b, 0, none⟩), V.val] 111 (0, 0))]) rfl (Im.le_refl _) ?_
  exact ⟨rfl, rfl, rfl⟩

theorem copyCheck_used (b : Nat) (V : Vec) (I : Im) : FSo Tryd.prog 87 [.pointer (some ⟨b, 0, none⟩)] I [some (b, .cells #[.pointer (some ⟨b, 0, none⟩), V.val] 111 (0, 0))] (fun u I' L' => u = .tuple #[] ∧ I' = I ∧ L' = [some (b, .cells #[.pointer (some ⟨b, 0, none⟩), V.val] 111 (0, 0))]) := by
  obtain ⟨j9, hj9, hjs⟩ := Option.map_eq_some_iff.1 inf109
  refine FSo.intro (n := 20) Tryd.func87 rfl rfl rfl (fun K Lf => ?_)
  refine XC.seq ?_
  refine XC.region ?_
  refine XO.rd rfl rfl rfl (Reads.move rfl) ?_
  refine XO.rd rfl rfl rfl (Reads.nilCheck rfl) ?_
  refine XO.rd rfl rfl rfl (fa109_0 rfl) ?_
  refine XO.rd rfl rfl rfl (Reads.load_own k107 rfl (by first | exact OwnAt.of 0 rfl rfl | exact OwnAt.of 1 rfl rfl | exact OwnAt.of 2 rfl rfl | exact OwnAt.of 3 rfl rfl | exact OwnAt.of 4 rfl rfl | exact OwnAt.of 5 rfl rfl)) ?_
  refine XO.rd rfl rfl rfl (Reads.ptr_eq_nil Tryd.underlying107 rfl rfl) ?_
  refine XO.nil ?_
  refine XQ.then_normal ?_
  refine XC.cond rfl (fun hx => by cases hx) (fun _ => ?_)
  refine XC.seq ?_
  refine XC.region ?_
  refine XO.rd rfl rfl rfl (Reads.move rfl) ?_
  refine XO.rd rfl rfl rfl (Reads.nilCheck rfl) ?_
  refine XO.rd rfl rfl rfl (fa109_0 rfl) ?_
  refine XO.rd rfl rfl rfl (Reads.load_own k107 rfl (by first | exact OwnAt.of 0 rfl rfl | exact OwnAt.of 1 rfl rfl | exact OwnAt.of 2 rfl rfl | exact OwnAt.of 3 rfl rfl | exact OwnAt.of 4 rfl rfl | exact OwnAt.of 5 rfl rfl)) ?_
  refine XO.rd rfl rfl rfl (Reads.move rfl) ?_
  refine XO.rd rfl rfl rfl (Reads.ptr_ne_same Tryd.underlying107 hj9 rfl rfl) ?_
  refine XO.nil ?_
  refine XQ.then_normal ?_
  refine XC.cond rfl (fun hx => by cases hx) (fun _ => ?_)
  refine XC.skip ?_
  refine XQ.done_normal ?_
  refine XQ.done0 (L := [some (b, .cells #[.pointer (some ⟨b, 0, none⟩), V.val] 111 (0, 0))]) rfl (Im.le_refl _) ?_
  exact ⟨rfl, rfl, rfl⟩
theorem copyCheck_any (b : Nat) (V : Vec) (p : Value) (I : Im) (hp : p = .pointer none ∨ p = .pointer (some ⟨b, 0, none⟩)) : FSo Tryd.prog 87 [.pointer (some ⟨b, 0, none⟩)] I [some (b, .cells #[p, V.val] 111 (0, 0))] (fun u I' L' => u = .tuple #[] ∧ I' = I ∧ L' = [some (b, .cells #[.pointer (some ⟨b, 0, none⟩), V.val] 111 (0, 0))]) := by
  rcases hp with rfl | rfl
  · exact copyCheck_new b V I
  · exact copyCheck_used b V I
theorem vec_bytes {V : Vec} {bs : List UInt8} (hV : V.Is 1 (byteC bs)) (h0 : bs ≠ []) : ∃ (g : Nat) (c : Array Value) (cp : Nat), V = ⟨some (g, c), bs.length, cp⟩ ∧ cp ≠ 0 ∧ c.toList.take bs.length = bs.map fun b => Value.int .u8 (b.toNat : Nat) := by
  obtain ⟨blk, n, cp⟩ := V
  have hl := hV.len
  rw [byteC_len] at hl
  simp only [Nat.mul_one] at hl
  have hn : 0 < bs.length := List.length_pos_iff.2 h0
  cases hb : blk with
  | none =>
    subst hb
    have h1 := hV.none rfl
    have h2 := hV.le
    simp only at h1 h2; omega
  | some q =>
    obtain ⟨g, c⟩ := q
    subst hb
    obtain ⟨h1, h2⟩ := hV.some g c rfl
    refine ⟨g, c, cp, by rw [hl], (by have := hV.le; simp only at this; omega), ?_⟩
    simp only [Nat.mul_one] at h2
    rw [hl]; exact h2
theorem writeString_any (b : Nat) (V : Vec) (p : Value) (bs : List UInt8) (s : ByteArray) (I : Im) (hp : p = .pointer none ∨ p = .pointer (some ⟨b, 0, none⟩)) (hV : V.Is 1 (byteC bs)) (hb : bs.length + s.size ≤ 100000000) : FSo Tryd.prog 76 [.pointer (some ⟨b, 0, none⟩), .string s] I [some (b, .cells #[p, V.val] 111 (0, 0)), V.ent 5] (fun u I' L' => u = .tuple #[.int .i64 s.size, .nilIface] ∧ I' = I ∧ ∃ V' : Vec, L' = [some (b, .cells #[.pointer (some ⟨b, 0, none⟩), V'.val] 111 (0, 0)), V'.ent 5] ∧ V'.Is 1 (byteC (bs ++ s.data.toList))) := by
  have hVl : V.len = bs.length := by have := hV.len; rw [byteC_len] at this; omega
  refine FSo.intro (n := 19) Tryd.func76 rfl rfl rfl (fun K Lf => ?_)
  refine XC.seq ?_
  refine XC.region ?_
  refine XO.rd rfl rfl rfl (Reads.assign rfl) ?_
  refine XO.rd rfl rfl rfl (Reads.assign rfl) ?_
  refine XO.nil ?_
  refine XQ.then_normal ?_
  refine XC.seq ?_
  refine XC.region ?_
  refine XO.rd rfl rfl rfl (Reads.move rfl) ?_
  refine XO.callo (vs := [_]) (L1 := [some (b, .cells #[p, V.val] 111 (0, 0))]) rfl rfl rfl en87 ⟨rfl, trivial⟩ (copyCheck_any b V p I hp) (List.Perm.refl _) ?_
  rintro v' J' L' _ ⟨rfl, hJ', rfl⟩
  replace hJ' := hJ'.symm
  subst hJ'
  refine XO.nil ?_
  refine XQ.then_normal ?_
  refine XC.seq ?_
  refine XC.region ?_
  refine XO.rd rfl rfl rfl (Reads.move rfl) ?_
  refine XO.rd rfl rfl rfl (Reads.move rfl) ?_
  refine XO.rd rfl rfl rfl (Reads.nilCheck rfl) ?_
  refine XO.rd rfl rfl rfl (fa109_1 rfl) ?_
  refine XO.rd rfl rfl rfl (Reads.load_own k98 rfl (by first | exact OwnAt.of 0 rfl rfl | exact OwnAt.of 1 rfl rfl | exact OwnAt.of 2 rfl rfl | exact OwnAt.of 3 rfl rfl | exact OwnAt.of 4 rfl rfl | exact OwnAt.of 5 rfl rfl)) ?_
  refine XO.rd rfl rfl rfl (Reads.move rfl) ?_
  refine XO.append (V := V) (news := byteC s.data.toList) 1 rfl rfl Tryd.underlying98 el5 rfl rfl hV rfl (.string Tryd.underlying9 rfl) (by omega) (by omega) ?_
  intro V' hV' hVl'
  refine XO.rd rfl rfl rfl (Reads.nilCheck rfl) ?_
  refine XO.rd rfl rfl rfl (fa109_1 rfl) ?_
  refine XO.store 0 rfl z98 rfl rfl rfl rfl (by simp) ?_
  refine XO.nil ?_
  refine XQ.then_normal ?_
  refine XC.seq ?_
  refine XC.region ?_
  refine XO.rd rfl rfl rfl (Reads.move rfl) ?_
  refine XO.rd rfl rfl rfl (Reads.len_string Tryd.underlying9 rfl) ?_
  refine XO.rd rfl rfl rfl (Reads.assign rfl) ?_
  refine XO.rd rfl rfl rfl (Reads.assign rfl) ?_
  refine XO.nil ?_
  refine XQ.then_normal ?_
  refine XC.ret ?_
  refine XQ.done2 (L := [some (b, .cells #[.pointer (some ⟨b, 0, none⟩), V'.val] 111 (0, 0)), V'.ent 5]) rfl rfl rfl (Im.le_refl _) ?_
  exact ⟨rfl, rfl, V', rfl, by rw [byteC_append]; exact hV'⟩

theorem string_any (b : Nat) (V : Vec) (p : Value) (bs : List UInt8) (I : Im) (hV : V.Is 1 (byteC bs)) (h0 : bs ≠ []) (h63 : bs.length ≤ 100000000) : FSo Tryd.prog 77 [.pointer (some ⟨b, 0, none⟩)] I [some (b, .cells #[p, V.val] 111 (0, 0)), V.ent 5] (fun u I' L' => u = .string ⟨bs.toArray⟩ ∧ I' = I ∧ L' = []) := by
  obtain ⟨g, c, cp, rfl, hcp, hc⟩ := vec_bytes hV h0
  refine FSo.intro (n := 14) Tryd.func77 rfl rfl rfl (fun K Lf => ?_)
  refine XC.seq ?_
  refine XC.region ?_
  refine XO.rd rfl rfl rfl (Reads.assign rfl) ?_
  refine XO.nil ?_
  refine XQ.then_normal ?_
  refine XC.seq ?_
  refine XC.draw m_mixed none (.pure 0 (.pure 1 (.pure 2 (.pure 3 (.pure 5 (.pure 6 (.pure 7 (.pure 8 (.pure 9 (.eff 4 (.eff 10 (.pure 11 (.done))))))))))))) [some (b, .cells #[p, .slice (some ⟨g, 0, none⟩) bs.length cp] 111 (0, 0))] (by kernel_rfl) (List.Sublist.cons_cons _ (List.Sublist.cons _ (List.nil_sublist _))) ?_
  refine XR.rd rfl rfl rfl (Reads.move rfl) ?_
  refine XR.rd rfl rfl rfl (Reads.nilCheck rfl) ?_
  refine XR.rd rfl rfl rfl (fa109_1 rfl) ?_
  refine XR.rd rfl rfl rfl (Reads.load_own k98 rfl (by first | exact OwnAt.of 0 rfl rfl | exact OwnAt.of 1 rfl rfl | exact OwnAt.of 2 rfl rfl | exact OwnAt.of 3 rfl rfl | exact OwnAt.of 4 rfl rfl | exact OwnAt.of 5 rfl rfl)) ?_
  refine XR.rd rfl rfl rfl (Reads.move rfl) ?_
  refine XR.rd rfl rfl rfl (Reads.nilCheck rfl) ?_
  refine XR.rd rfl rfl rfl (fa109_1 rfl) ?_
  refine XR.rd rfl rfl rfl (Reads.load_own k98 rfl (by first | exact OwnAt.of 0 rfl rfl | exact OwnAt.of 1 rfl rfl | exact OwnAt.of 2 rfl rfl | exact OwnAt.of 3 rfl rfl | exact OwnAt.of 4 rfl rfl | exact OwnAt.of 5 rfl rfl)) ?_
  refine XR.rd rfl rfl rfl (Reads.len_slice Tryd.underlying98 rfl) ?_
  refine XR.rde rfl rfl rfl rfl (Reads.slice_data rfl hcp) (List.Sublist.cons_cons _ (List.Sublist.cons _ (List.nil_sublist _))) ?_
  refine XR.take_string (l := bs) (c := c) (e := 5) (fr := (0, 0)) 1 rfl rfl rfl Tryd.underlying129 cells5 rfl rfl h0 (by omega) rfl hc (List.Sublist.cons_cons _ (List.nil_sublist _)) ?_
  refine XR.rd rfl rfl rfl (Reads.assign rfl) ?_
  refine XR.nil ?_
  refine XQ.then_normal ?_
  refine XC.ret ?_
  refine XQ.dropn 1 ?_
  refine XQ.done1 (L := []) rfl rfl (Im.le_refl _) ?_
  exact ⟨rfl, rfl, rfl⟩

theorem ints_any (b bi : Nat) (V : Vec) (p : Value) (bs : List UInt8) (l : List Int) (I : Im) (hp : p = .pointer none ∨ p = .pointer (some ⟨b, 0, none⟩)) (hV : V.Is 1 (byteC bs)) (hb : bs.length + 10 * l.length ≤ 100000) (hl : ∀ z ∈ l, In64 z) : FSo Tryd.prog 75 [.pointer (some ⟨b, 0, none⟩), .slice (some ⟨bi, 0, none⟩) l.length l.length] I [some (b, .cells #[p, V.val] 111 (0, 0)), V.ent 5, some (bi, .cells (l.map fun z => Value.int .i64 z).toArray 3 (0, 0))] (fun u I' L' => u = .tuple #[] ∧ I' = I ∧ ∃ (V' : Vec) (p' : Value), L' = [some (b, .cells #[p', V'.val] 111 (0, 0)), V'.ent 5, some (bi, .cells (l.map fun z => Value.int .i64 z).toArray 3 (0, 0))] ∧ (p' = .pointer none ∨ p' = .pointer (some ⟨b, 0, none⟩)) ∧ V'.Is 1 (byteC (bs ++ numB l))) := by
  refine FSo.intro (n := 25) Tryd.func75 rfl rfl rfl (fun K Lf => ?_)
  refine XC.seq ?_
  refine XC.region ?_
  refine XO.rd rfl rfl rfl (Reads.move rfl) ?_
  refine XO.rd rfl rfl rfl (Reads.len_slice Tryd.underlying23 rfl) ?_
  refine XO.rd rfl rfl rfl (Reads.move rfl) ?_
  refine XO.nil ?_
  refine XQ.then_normal ?_
  refine XC.block ?_
  refine XC.loop (ι := Nat × Vec × Value) (fun q => [(0, .pointer (some ⟨b, 0, none⟩)), (8, .slice (some ⟨bi, 0, none⟩) l.length l.length), (9, .int .i64 l.length), (10, .int .i64 q.1)]) (fun q => I) (fun q => some (b, .cells #[q.2.2, q.2.1.val] 111 (0, 0)) :: q.2.1.ent 5 :: some (bi, .cells (l.map fun z => Value.int .i64 z).toArray 3 (0, 0)) :: ([] ++ Lf)) (fun q => q.1 ≤ l.length ∧ q.2.1.Is 1 (byteC (bs ++ numB (l.take q.1))) ∧ (q.2.2 = .pointer none ∨ q.2.2 = .pointer (some ⟨b, 0, none⟩))) (fun q => l.length - q.1) (0, V, p) ⟨Nat.zero_le _, by simpa [numB] using hV, hp⟩ ⟨rfl, rfl, rfl, rfl, trivial⟩ rfl (List.Perm.refl _) (fun q hq => ?_)
  obtain ⟨k, V1, p1⟩ := q
  obtain ⟨hk1, hV1, hp1⟩ := hq
  simp only at hk1 hV1 hp1 ⊢
  refine XC.seq ?_
  refine XC.region ?_
  refine XO.rd rfl rfl rfl (Reads.cmp rfl rfl rfl) ?_
  refine XO.nil ?_
  refine XQ.then_normal ?_
  refine XC.seq ?_
  refine XC.cond rfl (fun h1 => ?_) (fun h1 => ?_)
  · skip
    simp only [cmpInt, decide_eq_true_eq] at h1
    have hk3 : k < l.length := by omega
    refine XC.skip ?_
    refine XQ.then_normal ?_
    refine XC.seq ?_
    refine XC.block ?_
    refine XC.seq ?_
    refine XC.region ?_
    refine XO.rd rfl rfl rfl (Reads.index_own (q := k) Tryd.underlying23 z3 rfl rfl (by omega) (by omega)) ?_
    refine XO.rd rfl rfl rfl (Reads.load_own (v := .int .i64 l[k]) k3 rfl (OwnAt.of 2 rfl (by simp [hk3]))) ?_
    refine XO.rd rfl rfl rfl (Reads.assign rfl) ?_
    refine XO.nil ?_
    refine XQ.then_normal ?_
    refine XC.seq ?_
    refine XC.region ?_
    refine XO.rd rfl rfl rfl (Reads.move rfl) ?_
    refine XO.callp rfl rfl en86 (putInt_any l[k] _ (hl _ (List.getElem_mem hk3))) ⟨rfl, trivial⟩ ?_
    refine XO.rd rfl rfl rfl (Reads.move rfl) ?_
    refine XO.rd rfl rfl rfl (Reads.extract rfl rfl) ?_
    refine XO.rd rfl rfl rfl (Reads.extract rfl rfl) ?_
    refine XO.rd rfl rfl rfl (Reads.assign rfl) ?_
    refine XO.rd rfl rfl rfl (Reads.assign rfl) ?_
    refine XO.nil ?_
    refine XQ.then_normal ?_
    refine XC.region ?_
    refine XO.rd rfl rfl rfl (Reads.move rfl) ?_
    refine XO.rd rfl rfl rfl (Reads.nilCheck rfl) ?_
    refine XO.rd rfl rfl rfl (fa111_0 rfl) ?_
    refine XO.rd rfl rfl rfl (Reads.move rfl) ?_
    refine XO.callo (vs := [_, _]) (L1 := [some (b, .cells #[p1, V1.val] 111 (0, 0)), V1.ent 5]) rfl rfl rfl en76 ⟨rfl, rfl, trivial⟩ (writeString_any b V1 p1 (bs ++ numB (l.take k)) (putX l[k]) I hp1 hV1 (by have := putX_size l[k]; have := numB_len (l.take k); rw [List.length_append]; rw [List.length_take] at this; omega)) (List.Perm.refl _) ?_
    rintro v' J' L' _ ⟨rfl, hJ', V2, rfl, hV2⟩
    replace hJ' := hJ'.symm
    subst hJ'
    refine XO.nil ?_
    refine XQ.block_normal ?_
    refine XQ.then_normal ?_
    refine XC.region ?_
    refine XO.rd rfl rfl rfl (Reads.add rfl rfl (by omega)) ?_
    refine XO.rd rfl rfl rfl (Reads.move rfl) ?_
    refine XO.nil ?_
    refine XQ.back (k + 1, V2, _) ⟨by simp only; omega, by simp only; rw [List.take_succ_eq_append_getElem hk3, numB_snoc, ← List.append_assoc]; exact hV2, .inr rfl⟩ (by simp only; omega) ⟨rfl, rfl, rfl, rfl, trivial⟩ rfl (List.Perm.refl _)
  · skip
    simp only [cmpInt, decide_eq_false_iff_not] at h1
    refine XC.exit ?_
    refine XQ.then_exit ?_
    refine XQ.then_exit ?_
    refine XQ.block_exit ?_
    refine XQ.done_normal ?_
    refine XQ.done0 (L := [some (b, .cells #[p1, V1.val] 111 (0, 0)), V1.ent 5, some (bi, .cells (l.map fun z => Value.int .i64 z).toArray 3 (0, 0))]) rfl (Im.le_refl _) ?_
    exact ⟨rfl, rfl, V1, p1, rfl, hp1, by rw [show l.take k = l from List.take_of_length_le (by omega)] at hV1; exact hV1⟩

end Go.Proofs.YtmlliafhpbfdbaaDoor
namespace Go.Proofs.YtmlliafhpbfdbaaDoor
open Go.Xe Go.Sh Go Go.At

theorem seal_any (c lv : Int) (s ct key : ByteArray) (I : Im) (hct : ct.size ≤ 10000) (hk : key.size ≤ 1000) (hG : Glob I) : FC Tryd.prog 60 [.agg #[.int .i64 c, .int .i64 lv, .string s, .string ct], .string key] I (fun u I' => u = .string (sealOf key ct) ∧ I' = I) := by
  refine FSo.intro (n := 10) Tryd.func60 rfl rfl rfl (fun K Lf => ?_)
  refine XC.seq ?_
  refine XC.region ?_
  refine XO.box_agg rfl rfl rfl (fun b2 => ?_)
  refine XO.rd rfl rfl rfl (Reads.assign rfl) ?_
  refine XO.nil ?_
  refine XQ.then_normal ?_
  refine XC.seq ?_
  refine XC.region ?_
  refine XO.rd rfl rfl rfl (Reads.move rfl) ?_
  refine XO.rd rfl rfl rfl (fa84_1 rfl) ?_
  refine XO.rd rfl rfl rfl (Reads.load_own k9 rfl (by first | exact OwnAt.of 0 rfl rfl | exact OwnAt.of 1 rfl rfl | exact OwnAt.of 2 rfl rfl | exact OwnAt.of 3 rfl rfl | exact OwnAt.of 4 rfl rfl | exact OwnAt.of 5 rfl rfl)) ?_
  refine XO.callp rfl rfl en81 (FC.pure (leaf_all ct _ (by omega) hG)) ⟨rfl, trivial⟩ ?_
  refine XO.callp rfl rfl en80 (FC.pure (node_all key (leaf ct) _ (by omega) (by rw [leaf, sha_size]; decide) hG)) ⟨rfl, rfl, trivial⟩ ?_
  refine XO.rd rfl rfl rfl (Reads.assign rfl) ?_
  refine XO.nil ?_
  refine XQ.then_normal ?_
  refine XC.ret ?_
  refine XQ.dropn 1 ?_
  refine XQ.done1 rfl rfl (Im.le_refl _) ?_
  exact ⟨rfl, rfl, rfl⟩

theorem isShown_any (c lv : Int) (s ct : ByteArray) (ak : Option Addr) (ck : Nat) (keys : List ByteArray) (I : Im) (hK : Arr I ak keys) (hk8 : keys.length = 8) (hks : ∀ k ∈ keys, k.size ≤ 1000) (hc : 0 ≤ c ∧ c ≤ 7) (hct : ct.size ≤ 10000) (hG : Glob I) : FC Tryd.prog 51 [.agg #[.int .i64 c, .int .i64 lv, .string s, .string ct], .slice ak keys.length ck] I (fun u I' => u = .bool (!decide ((keys.getD c.toNat mtB) = mtB) && decide (s = sealOf (keys.getD c.toNat mtB) ct)) ∧ I' = I) := by
  have hc8 : c.toNat < keys.length := by omega
  have hkey : (keys.getD c.toNat mtB) = keys[c.toNat] := by simp [hc8]
  have hk32 := hks _ (List.getElem_mem hc8)
  refine FSo.intro (n := 23) Tryd.func51 rfl rfl rfl (fun K Lf => ?_)
  refine XC.seq ?_
  refine XC.region ?_
  refine XO.box_agg rfl rfl rfl (fun b2 => ?_)
  refine XO.rd rfl rfl rfl (Reads.assign rfl) ?_
  refine XO.nil ?_
  refine XQ.then_normal ?_
  refine XC.seq ?_
  refine XC.region ?_
  refine XO.rd rfl rfl rfl (Reads.move rfl) ?_
  refine XO.rd rfl rfl rfl (fa84_0 rfl) ?_
  refine XO.rd rfl rfl rfl (fa53_0 rfl) ?_
  refine XO.rd rfl rfl rfl (Reads.load_own k3 rfl (by first | exact OwnAt.of 0 rfl rfl | exact OwnAt.of 1 rfl rfl | exact OwnAt.of 2 rfl rfl | exact OwnAt.of 3 rfl rfl | exact OwnAt.of 4 rfl rfl | exact OwnAt.of 5 rfl rfl)) ?_
  refine XO.rd rfl rfl rfl (Reads.index_slot Tryd.underlying29 z9 rfl rfl (by omega) (hK.isSome (by decide) (by omega)) rfl) ?_
  refine XO.rd rfl rfl rfl (Reads.load_at k9 rfl (hK.str hc8)) ?_
  refine XO.rd rfl rfl rfl (Reads.assign rfl) ?_
  refine XO.nil ?_
  refine XQ.then_normal ?_
  refine XC.seq ?_
  refine XC.draw m_mixed none (.pure 0 (.pure 1 (.pure 2 (.pure 3 (.pure 4 (.pure 5 (.pure 6 (.pure 7 (.eff 8 (.pure 9 (.pure 10 (.pure 11 (.done))))))))))))) _ (by kernel_rfl) (List.Sublist.refl _) ?_
  refine XR.rd rfl rfl rfl (Reads.move rfl) ?_
  refine XR.rd rfl rfl rfl (Reads.sne rfl rfl) ?_
  refine XR.rd rfl rfl rfl (Reads.move rfl) ?_
  refine XR.split (d := 14) rfl (fun h1 => ?_) (fun h1 => ?_)
  · skip
    refine XR.rd rfl (wg rfl rfl rfl) rfl (fa84_0 rfl) ?_
    refine XR.rd rfl (wg rfl rfl rfl) rfl (fa53_2 rfl) ?_
    refine XR.rd rfl (wg rfl rfl rfl) rfl (Reads.load_own k9 rfl (by first | exact OwnAt.of 0 rfl rfl | exact OwnAt.of 1 rfl rfl | exact OwnAt.of 2 rfl rfl | exact OwnAt.of 3 rfl rfl | exact OwnAt.of 4 rfl rfl | exact OwnAt.of 5 rfl rfl)) ?_
    refine XR.rd rfl (wg rfl rfl rfl) rfl (Reads.load_whole k84 z84 rfl (by first | exact WholeAt.of 0 rfl | exact WholeAt.of 1 rfl | exact WholeAt.of 2 rfl | exact WholeAt.of 3 rfl | exact WholeAt.of 4 rfl | exact WholeAt.of 5 rfl) (by rfl)) ?_
    refine XR.rd rfl (wg rfl rfl rfl) rfl (Reads.move rfl) ?_
    refine XR.callp rfl (wg rfl rfl rfl) rfl en60 (seal_any c lv s ct keys[c.toNat] _ hct hk32 hG) ⟨rfl, rfl, trivial⟩ (List.Sublist.refl _) ?_
    refine XR.rd rfl (wg rfl rfl rfl) rfl (Reads.seq rfl rfl) ?_
    refine XR.rd rfl rfl rfl (Reads.pick_true rfl rfl) ?_
    refine XR.rd rfl rfl rfl (Reads.assign rfl) ?_
    refine XR.nil ?_
    refine XQ.then_normal ?_
    refine XC.ret ?_
    refine XQ.dropn 1 ?_
    refine XQ.done1 rfl rfl (Im.le_refl _) ?_
    have h9 : ¬ keys[c.toNat] = mtB := by simpa using h1
    exact ⟨rfl, congrArg Value.bool (by rw [hkey, decide_eq_false h9]; rfl), rfl⟩
  · skip
    refine XR.s rfl (wg rfl rfl rfl) rfl ?_
    refine XR.s rfl (wg rfl rfl rfl) rfl ?_
    refine XR.s rfl (wg rfl rfl rfl) rfl ?_
    refine XR.s rfl (wg rfl rfl rfl) rfl ?_
    refine XR.s rfl (wg rfl rfl rfl) rfl ?_
    refine XR.se rfl (wg rfl rfl rfl) rfl (List.Sublist.refl _) ?_
    refine XR.s rfl (wg rfl rfl rfl) rfl ?_
    refine XR.rd rfl rfl rfl (Reads.pick_false rfl rfl) ?_
    refine XR.rd rfl rfl rfl (Reads.assign rfl) ?_
    refine XR.nil ?_
    refine XQ.then_normal ?_
    refine XC.ret ?_
    refine XQ.dropn 1 ?_
    refine XQ.done1 rfl rfl (Im.le_refl _) ?_
    have h9 : keys[c.toNat] = mtB := by simpa using h1
    exact ⟨rfl, congrArg Value.bool (by rw [hkey, decide_eq_true h9]; rfl), rfl⟩

theorem says_any (c lv : Int) (s ct : ByteArray) (ak : Option Addr) (ck : Nat) (keys : List ByteArray) (I : Im) (hK : Arr I ak keys) (hk8 : keys.length = 8) (hks : ∀ k ∈ keys, k.size ≤ 1000) (hc : 0 ≤ c ∧ c ≤ 7) (hct : ct.size ≤ 10000) (hG : Glob I) : FC Tryd.prog 70 [.slice ak keys.length ck, .agg #[.int .i64 c, .int .i64 lv, .string s, .string ct]] I (fun u I' => u = .int .i64 (if (!decide ((keys.getD c.toNat mtB) = mtB) && decide (s = sealOf (keys.getD c.toNat mtB) ct)) = true then lv else min lv 1) ∧ I' = I) := by
  refine FSo.intro (n := 15) Tryd.func70 rfl rfl rfl (fun K Lf => ?_)
  refine XC.seq ?_
  refine XC.region ?_
  refine XO.box_agg rfl rfl rfl (fun b3 => ?_)
  refine XO.rd rfl rfl rfl (Reads.assign rfl) ?_
  refine XO.nil ?_
  refine XQ.then_normal ?_
  refine XC.seq ?_
  refine XC.seq ?_
  refine XC.region ?_
  refine XO.rd rfl rfl rfl (Reads.load_whole k84 z84 rfl (by first | exact WholeAt.of 0 rfl | exact WholeAt.of 1 rfl | exact WholeAt.of 2 rfl | exact WholeAt.of 3 rfl | exact WholeAt.of 4 rfl | exact WholeAt.of 5 rfl) (by rfl)) ?_
  refine XO.rd rfl rfl rfl (Reads.move rfl) ?_
  refine XO.callp rfl rfl en51 (isShown_any c lv s ct ak ck keys _ hK hk8 hks hc hct hG) ⟨rfl, rfl, trivial⟩ ?_
  refine XO.nil ?_
  refine XQ.then_normal ?_
  refine XC.cond rfl (fun h1 => ?_) (fun h1 => ?_)
  · skip
    refine XC.seq ?_
    refine XC.region ?_
    refine XO.rd rfl rfl rfl (fa84_0 rfl) ?_
    refine XO.rd rfl rfl rfl (fa53_1 rfl) ?_
    refine XO.rd rfl rfl rfl (Reads.load_own k3 rfl (by first | exact OwnAt.of 0 rfl rfl | exact OwnAt.of 1 rfl rfl | exact OwnAt.of 2 rfl rfl | exact OwnAt.of 3 rfl rfl | exact OwnAt.of 4 rfl rfl | exact OwnAt.of 5 rfl rfl)) ?_
    refine XO.rd rfl rfl rfl (Reads.assign rfl) ?_
    refine XO.nil ?_
    refine XQ.then_normal ?_
    refine XC.ret ?_
    refine XQ.then_ret ?_
    refine XQ.dropn 1 ?_
    refine XQ.done1 rfl rfl (Im.le_refl _) ?_
    exact ⟨rfl, by rw [if_pos h1], rfl⟩
  · skip
    refine XC.skip ?_
    refine XQ.then_normal ?_
    refine XC.seq ?_
    refine XC.region ?_
    refine XO.rd rfl rfl rfl (fa84_0 rfl) ?_
    refine XO.rd rfl rfl rfl (fa53_1 rfl) ?_
    refine XO.rd rfl rfl rfl (Reads.load_own k3 rfl (by first | exact OwnAt.of 0 rfl rfl | exact OwnAt.of 1 rfl rfl | exact OwnAt.of 2 rfl rfl | exact OwnAt.of 3 rfl rfl | exact OwnAt.of 4 rfl rfl | exact OwnAt.of 5 rfl rfl)) ?_
    refine XO.rd rfl rfl rfl (Reads.min rfl rfl) ?_
    refine XO.rd rfl rfl rfl (Reads.assign rfl) ?_
    refine XO.nil ?_
    refine XQ.then_normal ?_
    refine XC.ret ?_
    refine XQ.dropn 1 ?_
    refine XQ.done1 rfl rfl (Im.le_refl _) ?_
    exact ⟨rfl, by rw [if_neg (by rw [h1]; decide)], rfl⟩

theorem clone_any (a : Option Addr) (cap : Nat) (hs : List Hand) (I : Im) (hA : Arr I a hs) (hlen : hs.length ≤ 1000000) : FSo Tryd.prog 53 [.slice a hs.length cap] I [] (fun u I' L' => ∃ V : Vec, u = V.val ∧ I' = I ∧ L' = [V.ent 53] ∧ V.Is 3 (handC hs)) := by
  obtain ⟨ncs, hnf, hnw⟩ := News.arr (P := Tryd.prog) (tx := 35) (c := cap) Tryd.underlying35 hA
  have hne := flat_hand_eq hnf
  subst hne
  refine FSo.intro (n := 8) Tryd.func53 rfl rfl rfl (fun K Lf => ?_)
  refine XC.seq ?_
  refine XC.region ?_
  refine XO.rd rfl rfl rfl (Reads.assign rfl) ?_
  refine XO.nil ?_
  refine XQ.then_normal ?_
  refine XC.seq ?_
  refine XC.seq ?_
  refine XC.region ?_
  refine XO.rd rfl rfl rfl (Reads.move rfl) ?_
  refine XO.rd rfl rfl rfl (Reads.slice_eqn Tryd.underlying35 rfl rfl) ?_
  refine XO.nil ?_
  refine XQ.then_normal ?_
  refine XC.cond rfl (fun h1 => ?_) (fun h1 => ?_)
  · skip
    have h0 : hs = [] := by
      cases hs with
      | nil => rfl
      | cons y r =>
        have h9 := hA.isSome (by decide) (by simp)
        cases a <;> simp_all
    subst h0
    refine XC.vec0 53 ?_
    refine XC.seq ?_
    refine XC.region ?_
    refine XO.rd rfl rfl rfl (Reads.assign rfl) ?_
    refine XO.nil ?_
    refine XQ.then_normal ?_
    refine XC.ret ?_
    refine XQ.then_ret ?_
    refine XQ.done1 (L := [Vec.nil.ent 53]) rfl rfl (Im.le_refl _) ?_
    exact ⟨Vec.nil, rfl, rfl, rfl, by simpa [handC] using Vec.nil_is 3⟩
  · skip
    refine XC.skip ?_
    refine XQ.then_normal ?_
    refine XC.seq ?_
    refine XC.region ?_
    refine XO.buildL [] [] rfl rfl Tryd.underlying35 el53 rfl (by simp) trivial rfl rfl (fun b5 => ?_)
    refine XO.rd rfl rfl rfl (Reads.move rfl) ?_
    refine XO.append (V := ⟨some (b5, #[]), 0, 0⟩) 0 rfl rfl Tryd.underlying35 el53 rfl rfl (vec_zero b5 3) rfl (hnw _) (by simp only; omega) (by simp only; omega) ?_
    intro V1 hV1 _
    refine XO.rd rfl rfl rfl (Reads.assign rfl) ?_
    refine XO.nil ?_
    refine XQ.then_normal ?_
    refine XC.ret ?_
    refine XQ.done1 (L := [V1.ent 53]) rfl rfl (Im.le_refl _) ?_
    exact ⟨V1, rfl, rfl, rfl, by simpa using hV1⟩

theorem hands_any (x : Att) (a : Option Addr) (cap : Nat) (I : Im) : FSo Tryd.prog 49 [.agg (x.cs a cap).toArray] I [] (fun u I' L' => ∃ b, u = .func (.func 74) #[] #[.pointer (some ⟨b, 0, none⟩)] ∧ I' = I ∧ L' = [some (b, .cells (x.cs a cap).toArray 37 (0, 0))]) := by
  refine FSo.intro (n := 4) Tryd.func49 rfl rfl rfl (fun K Lf => ?_)
  refine XC.seq ?_
  refine XC.region ?_
  refine XO.box_agg rfl rfl rfl (fun b1 => ?_)
  refine XO.rd rfl rfl rfl (Reads.assign rfl) ?_
  refine XO.nil ?_
  refine XQ.then_normal ?_
  refine XC.seq ?_
  refine XC.region ?_
  refine XO.rd rfl rfl rfl (Reads.makeFunc (fi := []) (fv := []) (ca := [.tmp 1]) (cv := [_]) trivial ⟨rfl, trivial⟩) ?_
  refine XO.rd rfl rfl rfl (Reads.assign rfl) ?_
  refine XO.nil ?_
  refine XQ.then_normal ?_
  refine XC.ret ?_
  refine XQ.done1 (L := [some (b1, .cells (x.cs a cap).toArray 37 (0, 0))]) rfl rfl (Im.le_refl _) ?_
  exact ⟨b1, rfl, rfl, rfl⟩

end Go.Proofs.YtmlliafhpbfdbaaDoor
namespace Go.Proofs.YtmlliafhpbfdbaaDoor
open Go.Xe Go.Sh Go Go.At

theorem hands1_any (l b1 : Nat) (x : Att) (a : Option Addr) (cap : Nat) (I : Im) (L0 : Own) (J Jx : Nat → Im → Own → Prop) (hn : x.hs.length ≤ 9) (hsz : ∀ i, i < x.hs.length → (x.h i).s.size ≤ 40) (hin : ∀ i, i < x.hs.length → In64 (x.h i).c ∧ In64 (x.h i).l) (hd : x.d.In) (h0 : J 0 I L0) (ha : 0 < x.hs.length → ∃ b o, a = some ⟨b, o, none⟩) (hrd : ∀ j I1 L1, J j I1 L1 → j < x.hs.length → ∀ i v, (x.h j).cs[i]? = some v → AtR I1 L1 a (j * 3 + i) v) (hy : ∀ j I1 L1, J j I1 L1 → j < x.hs.length → YS Tryd.prog l [.int .i64 (j : Int), .agg (hand84 x j).toArray] I1 L1 (fun b I2 L2 => (b = true → J (j + 1) I2 L2) ∧ (b = false → Jx j I2 L2))) : FSo Tryd.prog 74 [.func (.yield l) #[] #[], .pointer (some ⟨b1, 0, none⟩)] I (some (b1, .cells (x.cs a cap).toArray 37 (0, 0)) :: L0) (fun _u I' L' => (∃ L1, L' = some (b1, .cells (x.cs a cap).toArray 37 (0, 0)) :: L1 ∧ J x.hs.length I' L1) ∨ (∃ j L1, j < x.hs.length ∧ L' = some (b1, .cells (x.cs a cap).toArray 37 (0, 0)) :: L1 ∧ Jx j I' L1)) := by
  refine FSo.intro (n := 48) Tryd.func74 rfl rfl rfl (fun K Lf => ?_)
  refine XC.seq ?_
  refine XC.region ?_
  refine XO.rd rfl rfl rfl (Reads.assign rfl) ?_
  refine XO.nil ?_
  refine XQ.then_normal ?_
  refine XC.seq ?_
  refine XC.region ?_
  refine XO.rd rfl rfl rfl (fa37_1 rfl) ?_
  refine XO.rd rfl rfl rfl (Reads.load_own k35 rfl (by first | exact OwnAt.of 0 rfl rfl | exact OwnAt.of 1 rfl rfl | exact OwnAt.of 2 rfl rfl | exact OwnAt.of 3 rfl rfl | exact OwnAt.of 4 rfl rfl | exact OwnAt.of 5 rfl rfl)) ?_
  refine XO.rd rfl rfl rfl (Reads.len_slice Tryd.underlying35 rfl) ?_
  refine XO.rd rfl rfl rfl (Reads.move rfl) ?_
  refine XO.nil ?_
  refine XQ.then_normal ?_
  refine XC.block ?_
  refine XC.loop (ι := Nat × Im × Own) (fun q => [(0, .func (.yield l) #[] #[]), (1, .pointer (some ⟨b1, 0, none⟩)), (3, .string (before x q.1)), (8, .slice a x.hs.length cap), (9, .int .i64 x.hs.length), (10, .int .i64 q.1)]) (fun q => q.2.1) (fun q => some (b1, .cells (x.cs a cap).toArray 37 (0, 0)) :: (q.2.2 ++ Lf)) (fun q => I.le q.2.1 ∧ q.1 ≤ x.hs.length ∧ J q.1 q.2.1 q.2.2) (fun q => x.hs.length - q.1) (0, I, L0) ⟨Im.le_refl _, Nat.zero_le _, h0⟩ ⟨rfl, rfl, rfl, rfl, rfl, rfl, trivial⟩ rfl (List.Perm.refl _) (fun q hq => ?_)
  obtain ⟨j, I1, L1⟩ := q
  obtain ⟨hle, hj1, hJ⟩ := hq
  simp only at hle hj1 hJ ⊢
  refine XC.seq ?_
  refine XC.region ?_
  refine XO.rd rfl rfl rfl (Reads.cmp rfl rfl rfl) ?_
  refine XO.nil ?_
  refine XQ.then_normal ?_
  refine XC.seq ?_
  refine XC.cond rfl (fun h1 => ?_) (fun h1 => ?_)
  · skip
    simp only [cmpInt, decide_eq_true_eq] at h1
    have hj3 : j < x.hs.length := by omega
    refine XC.skip ?_
    refine XQ.then_normal ?_
    refine XC.seq ?_
    refine XC.block ?_
    refine XC.seq ?_
    refine XC.region ?_
    refine XO.rd rfl rfl rfl (Reads.move rfl) ?_
    refine XO.rd rfl rfl rfl (Reads.index_slot (q := j * 3) Tryd.underlying35 z53 rfl rfl (by omega) (by obtain ⟨_, _, rfl⟩ := ha (by omega); rfl) rfl) ?_
    refine XO.rd rfl rfl rfl (Reads.load_agg_rd (vs := (x.h j).cs) k53 z53 rfl (ha (by omega)) (fun i v hi => (hrd j I1 L1 hJ hj3 i v hi).sub (fun y hy => by simp [hy]))) ?_
    refine XO.alloc (cs := #[.int .i64 0, .int .i64 0, .string ⟨#[]⟩]) rfl rfl zo53 rfl (fun b5 => ?_)
    refine XO.rd rfl rfl rfl (Reads.assign rfl) ?_
    refine XO.store_agg (vs := (x.h j).cs) 0 rfl z53 rfl rfl (by simp [Hand.cs, Value.oneCell']) rfl (by simp [Hand.cs]) ?_
    refine XO.own_eq (congrArg (fun c => some (b5, Obj.cells c 53 (0, 0)) :: _) (show _ = (x.h j).cs.toArray from rfl)) ?_
    refine XO.nil ?_
    refine XQ.then_normal ?_
    refine XC.seq ?_
    refine XC.region ?_
    refine XO.alloc (cs := #[.pointer none, .slice none 0 0]) rfl rfl zo111 rfl (fun b6 => ?_)
    refine XO.vec0 5 ?_
    refine XO.nil ?_
    refine XQ.then_normal ?_
    refine XC.seq ?_
    refine XC.region ?_
    refine XO.rd rfl rfl rfl (fa37_0 rfl) ?_
    refine XO.rd rfl rfl rfl (fa34_0 rfl) ?_
    refine XO.rd rfl rfl rfl (Reads.load_own k3 rfl (by first | exact OwnAt.of 0 rfl rfl | exact OwnAt.of 1 rfl rfl | exact OwnAt.of 2 rfl rfl | exact OwnAt.of 3 rfl rfl | exact OwnAt.of 4 rfl rfl | exact OwnAt.of 5 rfl rfl)) ?_
    refine XO.rd rfl rfl rfl (fa37_0 rfl) ?_
    refine XO.rd rfl rfl rfl (fa34_1 rfl) ?_
    refine XO.rd rfl rfl rfl (Reads.load_own k3 rfl (by first | exact OwnAt.of 0 rfl rfl | exact OwnAt.of 1 rfl rfl | exact OwnAt.of 2 rfl rfl | exact OwnAt.of 3 rfl rfl | exact OwnAt.of 4 rfl rfl | exact OwnAt.of 5 rfl rfl)) ?_
    refine XO.rd rfl rfl rfl (fa37_0 rfl) ?_
    refine XO.rd rfl rfl rfl (fa34_2 rfl) ?_
    refine XO.rd rfl rfl rfl (Reads.load_own k3 rfl (by first | exact OwnAt.of 0 rfl rfl | exact OwnAt.of 1 rfl rfl | exact OwnAt.of 2 rfl rfl | exact OwnAt.of 3 rfl rfl | exact OwnAt.of 4 rfl rfl | exact OwnAt.of 5 rfl rfl)) ?_
    refine XO.rd rfl rfl rfl (fa37_0 rfl) ?_
    refine XO.rd rfl rfl rfl (fa34_3 rfl) ?_
    refine XO.rd rfl rfl rfl (Reads.load_own k3 rfl (by first | exact OwnAt.of 0 rfl rfl | exact OwnAt.of 1 rfl rfl | exact OwnAt.of 2 rfl rfl | exact OwnAt.of 3 rfl rfl | exact OwnAt.of 4 rfl rfl | exact OwnAt.of 5 rfl rfl)) ?_
    refine XO.rd rfl rfl rfl (Reads.move rfl) ?_
    refine XO.rd rfl rfl rfl (fa53_0 rfl) ?_
    refine XO.rd rfl rfl rfl (Reads.load_own k3 rfl (by first | exact OwnAt.of 0 rfl rfl | exact OwnAt.of 1 rfl rfl | exact OwnAt.of 2 rfl rfl | exact OwnAt.of 3 rfl rfl | exact OwnAt.of 4 rfl rfl | exact OwnAt.of 5 rfl rfl)) ?_
    refine XO.rd rfl rfl rfl (fa53_1 rfl) ?_
    refine XO.rd rfl rfl rfl (Reads.load_own k3 rfl (by first | exact OwnAt.of 0 rfl rfl | exact OwnAt.of 1 rfl rfl | exact OwnAt.of 2 rfl rfl | exact OwnAt.of 3 rfl rfl | exact OwnAt.of 4 rfl rfl | exact OwnAt.of 5 rfl rfl)) ?_
    refine XO.buildL [.int .i64 7, .int .i64 x.d.a, .int .i64 x.d.b, .int .i64 x.d.t, .int .i64 x.d.n, .int .i64 (j : Int), .int .i64 (x.h j).c, .int .i64 (x.h j).l] [.int .i64 7, .int .i64 x.d.a, .int .i64 x.d.b, .int .i64 x.d.t, .int .i64 x.d.n, .int .i64 (j : Int), .int .i64 (x.h j).c, .int .i64 (x.h j).l] rfl rfl Tryd.underlying23 el3 rfl (by simp) ⟨rfl, rfl, rfl, rfl, rfl, rfl, rfl, rfl, rfl, rfl, rfl, rfl, rfl, rfl, rfl, rfl, trivial⟩ rfl rfl (fun bi => ?_)
    refine XO.callo (vs := [_, _]) (L1 := [some (b6, .cells #[.pointer none, Vec.nil.val] 111 (0, 0)), Vec.nil.ent 5, some (bi, .cells ((x.nums j).map fun z => Value.int .i64 z).toArray 3 (0, 0))]) rfl rfl rfl en75 ⟨rfl, rfl, trivial⟩ (ints_any b6 bi Vec.nil (.pointer none) [] (x.nums j) I1 (.inl rfl) (Vec.nil_is 1) (by show 0 + 10 * 8 ≤ 100000; decide) (nums_in hd (hin j hj3) (by omega))) (perm_take [2, 1]) ?_
    rintro v' J' L' _ ⟨rfl, hJ', V1, p1, rfl, hp1, hV1⟩
    replace hJ' := hJ'.symm
    subst hJ'
    simp only [List.nil_append] at hV1
    refine XO.nil ?_
    refine XQ.then_normal ?_
    refine XC.seq ?_
    refine XC.region ?_
    refine XO.rd rfl rfl rfl (fa111_0 rfl) ?_
    refine XO.rd rfl rfl rfl (Reads.move rfl) ?_
    refine XO.callo (vs := [_, _]) (L1 := [some (b6, .cells #[p1, V1.val] 111 (0, 0)), V1.ent 5]) rfl rfl rfl en76 ⟨rfl, rfl, trivial⟩ (writeString_any b6 V1 p1 (numB (x.nums j)) (before x j) I1 hp1 hV1 (by have := numB_len (x.nums j); have := before_size hsz hj3; have h9 : (x.nums j).length = 8 := rfl; omega)) (List.Perm.refl _) ?_
    rintro v' J' L' _ ⟨rfl, hJ', V2, rfl, hV2⟩
    replace hJ' := hJ'.symm
    subst hJ'
    refine XO.nil ?_
    refine XQ.then_normal ?_
    refine XC.seq ?_
    refine XC.seq ?_
    refine XC.draw m_mixed none (.pure 0 (.pure 1 (.pure 2 (.pure 3 (.eff 4 (.pure 5 (.eff 6 (.pure 7 (.done))))))))) [some (b5, .cells (x.h j).cs.toArray 53 (0, 0))] (by kernel_rfl) (List.Sublist.cons _ (List.Sublist.cons _ (List.Sublist.cons _ (List.Sublist.cons_cons _ (List.nil_sublist _))))) ?_
    refine XR.rd rfl rfl rfl (Reads.move rfl) ?_
    refine XR.rd rfl rfl rfl (Reads.move rfl) ?_
    refine XR.rd rfl rfl rfl (Reads.load_whole k53 z53 rfl (by first | exact WholeAt.of 0 rfl | exact WholeAt.of 1 rfl | exact WholeAt.of 2 rfl | exact WholeAt.of 3 rfl | exact WholeAt.of 4 rfl | exact WholeAt.of 5 rfl) (by rfl)) ?_
    refine XR.rd rfl rfl rfl (fa111_0 rfl) ?_
    have hcb := contentB_len hsz hj3
    refine XR.callo (vs := [_]) (L1 := [some (b6, .cells #[.pointer (some ⟨b6, 0, none⟩), V2.val] 111 (0, 0)), V2.ent 5]) rfl rfl rfl rfl en77 ⟨rfl, trivial⟩ (string_any b6 V2 _ (contentB x j) I1 hV2 (contentB_ne x j) hcb) (List.Perm.refl _) ?_
    rintro v' J' L' _ ⟨rfl, hJ', rfl⟩
    replace hJ' := hJ'.symm
    subst hJ'
    refine ⟨.inr (List.Sublist.cons _ (List.Sublist.cons_cons _ (List.nil_sublist _))), ?_⟩
    refine XR.rd rfl rfl rfl (bd84 (vs := [(0, .agg (x.h j).cs.toArray), (1, .string (content x j))]) (hand84 x j).toArray ⟨rfl, rfl, rfl, rfl, trivial⟩ rfl) ?_
    refine XR.yield (vs := [_, _]) (L1 := L1) (Lf := some (bi, .cells ((x.nums j).map fun z => Value.int .i64 z).toArray 3 (0, 0)) :: some (b5, .cells (x.h j).cs.toArray 53 (0, 0)) :: some (b1, .cells (x.cs a cap).toArray 37 (0, 0)) :: Lf) rfl rfl rfl rfl ⟨rfl, rfl, trivial⟩ (hy j I1 L1 hJ hj3) (List.perm_append_comm_assoc [_, _, _] L1 Lf) ?_
    rintro y I2 L2 hle2 ⟨hy1, hy2⟩
    refine ⟨.inr ((List.Sublist.cons _ (List.Sublist.cons_cons _ (List.nil_sublist _))).trans (List.sublist_append_right _ _)), ?_⟩
    refine XR.rd rfl rfl rfl (Reads.not rfl) ?_
    refine XR.nil ?_
    refine XQ.then_normal ?_
    refine XC.cond rfl (fun h2 => ?_) (fun h2 => ?_)
    · skip
      have hJx := hy2 (by simpa using h2)
      refine XC.perm (List.perm_append_comm_assoc L2 [_, _, _] Lf) ?_
      refine XC.ret ?_
      refine XQ.then_ret ?_
      refine XQ.block_ret ?_
      refine XQ.then_ret ?_
      refine XQ.then_ret ?_
      refine XQ.block_ret ?_
      refine XQ.dropn 2 ?_
      refine XQ.done0 (L := some (b1, .cells (x.cs a cap).toArray 37 (0, 0)) :: L2) rfl (Im.le_trans hle hle2) ?_
      exact .inr ⟨j, L2, hj3, rfl, hJx⟩
    · skip
      have hJ2 := hy1 (by simpa using h2)
      refine XC.perm (List.perm_append_comm_assoc L2 [_, _, _] Lf) ?_
      refine XC.skip ?_
      refine XQ.then_normal ?_
      refine XC.region ?_
      refine XO.rd rfl rfl rfl (fa53_2 rfl) ?_
      refine XO.rd rfl rfl rfl (Reads.load_own k9 rfl (by first | exact OwnAt.of 0 rfl rfl | exact OwnAt.of 1 rfl rfl | exact OwnAt.of 2 rfl rfl | exact OwnAt.of 3 rfl rfl | exact OwnAt.of 4 rfl rfl | exact OwnAt.of 5 rfl rfl)) ?_
      refine XO.rd rfl rfl rfl (Reads.assign rfl) ?_
      refine XO.nil ?_
      refine XQ.block_normal ?_
      refine XQ.then_normal ?_
      refine XC.weaken (E' := [(0, _), (1, _), (3, _), (8, _), (9, _), (10, _)]) ⟨rfl, rfl, rfl, rfl, rfl, rfl, trivial⟩ ?_
      refine XC.region ?_
      refine XO.rd rfl rfl rfl (Reads.add rfl rfl (by omega)) ?_
      refine XO.rd rfl rfl rfl (Reads.move rfl) ?_
      refine XO.nil ?_
      refine XQ.dropn 2 ?_
      refine XQ.back (j + 1, I2, L2) ⟨Im.le_trans hle hle2, by simp only; omega, hJ2⟩ (by simp only; omega) ⟨rfl, rfl, rfl, rfl, rfl, rfl, trivial⟩ rfl (List.Perm.refl _)
  · skip
    simp only [cmpInt, decide_eq_false_iff_not] at h1
    refine XC.exit ?_
    refine XQ.then_exit ?_
    refine XQ.then_exit ?_
    refine XQ.block_exit ?_
    refine XQ.done_normal ?_
    refine XQ.done0 (L := some (b1, .cells (x.cs a cap).toArray 37 (0, 0)) :: L1) rfl hle ?_
    exact .inl ⟨L1, rfl, by rw [show j = x.hs.length by omega] at hJ; exact hJ⟩

end Go.Proofs.YtmlliafhpbfdbaaDoor
namespace Go.Proofs.YtmlliafhpbfdbaaDoor
open Go.Xe Go.Sh Go Go.At

theorem first_any (b1 : Nat) (x : Att) (a : Option Addr) (cap : Nat) (g : FuncId) (ca : Array Value) (Lc : Nat → Own) (p : Nat → Bool) (I : Im) (hn : x.hs.length ≤ 9) (hsz : ∀ i, i < x.hs.length → (x.h i).s.size ≤ 40) (hin : ∀ i, i < x.hs.length → In64 (x.h i).c ∧ In64 (x.h i).l) (hd : x.d.In) (hA : Arr I a x.hs) (hg : Enters Tryd.prog g) (hp : ∀ j, j < x.hs.length → FSo Tryd.prog g (.agg (hand84 x j).toArray :: ca.toList) I (Lc j) (fun u I' L' => u = .bool (p j) ∧ I' = I ∧ L' = Lc (j + 1))) : FSo Tryd.prog 48 [.func (.func 74) #[] #[.pointer (some ⟨b1, 0, none⟩)], .func (.func g) #[] ca] I (some (b1, .cells (x.cs a cap).toArray 37 (0, 0)) :: Lc 0) (fun u I' L' => u = .tuple #[.int .i64 (fIdx (firstI p x.hs.length)), .agg (fHand x (firstI p x.hs.length)).toArray] ∧ I' = I ∧ ∃ k, L' = Lc k) := by
  refine FSo.introM (n := 18) Tryd.func48 rfl rfl rfl (fun K Lf => ?_)
  refine XC.seq ?_
  refine XC.region ?_
  refine XO.box1 rfl rfl rfl rfl (fun b3 => ?_)
  refine XO.alloc (cs := #[.int .i64 0]) rfl rfl zo3 rfl (fun b4 => ?_)
  refine XO.alloc (cs := #[.int .i64 0, .int .i64 0, .string ⟨#[]⟩, .string ⟨#[]⟩]) rfl rfl zo84 rfl (fun b5 => ?_)
  refine XO.nil ?_
  refine XQ.then_normal ?_
  refine XC.seq ?_
  refine XC.seq ?_
  refine XC.region ?_
  refine XO.rd rfl rfl rfl (Reads.move rfl) ?_
  refine XO.nil ?_
  refine XQ.then_normal ?_
  refine XC.block ?_
  refine XC.rangeFunc (f := 74) (fi := #[]) (ca := #[.pointer (some ⟨b1, 0, none⟩)]) (L1 := some (b5, .cells #[.int .i64 0, .int .i64 0, .string ⟨#[]⟩, .string ⟨#[]⟩] 84 (0, 0)) :: some (b4, .cells #[.int .i64 0] 3 (0, 0)) :: some (b3, .cells #[.func (.func g) #[] ca] 90 (0, 0)) :: some (b1, .cells (x.cs a cap).toArray 37 (0, 0)) :: Lc 0) (Lf := Lf) rfl en74 (List.Perm.refl _) (fun l D rc hR => ?_)
  let J : Nat → Im → Own → Prop := fun j I' L => I' = I ∧ (∀ i, i < j → p i = false) ∧ L = some (l, lp rc .ready none) :: some (D, .deferred (some [])) :: some (b5, .cells #[.int .i64 0, .int .i64 0, .string ⟨#[]⟩, .string ⟨#[]⟩] 84 (0, 0)) :: some (b4, .cells #[.int .i64 0] 3 (0, 0)) :: some (b3, .cells #[.func (.func g) #[] ca] 90 (0, 0)) :: Lc j
  let Jx : Nat → Im → Own → Prop := fun j I' L => I' = I ∧ (∀ i, i < j → p i = false) ∧ p j = true ∧ L = some (l, lp rc .done (some .ret)) :: some (D, .deferred (some [])) :: some (b5, .cells (hand84 x j).toArray 84 (0, 0)) :: some (b4, .cells #[.int .i64 (j : Int)] 3 (0, 0)) :: some (b3, .cells #[.func (.func g) #[] ca] 90 (0, 0)) :: Lc (j + 1)
  refine ⟨_, FSo.perm (perm_take [5]) (hands1_any l b1 x a cap I (some (l, lp rc .ready none) :: some (D, .deferred (some [])) :: some (b5, .cells #[.int .i64 0, .int .i64 0, .string ⟨#[]⟩, .string ⟨#[]⟩] 84 (0, 0)) :: some (b4, .cells #[.int .i64 0] 3 (0, 0)) :: some (b3, .cells #[.func (.func g) #[] ca] 90 (0, 0)) :: Lc 0) J Jx hn hsz hin hd ⟨rfl, (fun _ h => absurd h (Nat.not_lt_zero _)), rfl⟩ (fun h => hA.addr (by decide) h) (fun j I1 L1 hJ hj3 i v hi => .inl (by rw [hJ.1]; rw [x.h_get hj3] at hi; exact hA.hand hj3 i v hi)) (fun j I1 L1 hJ hj3 => ?_)), fun u I4 L4 hle4 hq => Or.elim hq (fun hq => ?_) (fun hq => ?_)⟩
  · skip
    obtain ⟨hI1, hpf, rfl⟩ := hJ
    rw [hI1]
    refine YS.intro hR rfl rfl (fun K Lf => ?_)
    refine XC.seq ?_
    refine XC.region ?_
    refine XO.rd rfl rfl rfl (Reads.assign rfl) ?_
    refine XO.nil ?_
    refine XQ.then_normal ?_
    refine XC.region ?_
    refine XO.alloc (cs := #[.int .i64 0, .int .i64 0, .string ⟨#[]⟩, .string ⟨#[]⟩]) rfl rfl zo84 rfl (fun b7 => ?_)
    refine XO.store_agg (vs := hand84 x j) 0 rfl z84 rfl rfl (by simp [Value.oneCell']) rfl (by simp) ?_
    refine XO.nil ?_
    refine XQ.perm (perm_take [1]) ?_
    refine XQ.begin ?_
    refine XC.block ?_
    refine XC.seq ?_
    refine XC.region ?_
    refine XO.rd rfl rfl rfl (Reads.load_own k90 rfl (by first | exact OwnAt.of 0 rfl rfl | exact OwnAt.of 1 rfl rfl | exact OwnAt.of 2 rfl rfl | exact OwnAt.of 3 rfl rfl | exact OwnAt.of 4 rfl rfl | exact OwnAt.of 5 rfl rfl | exact OwnAt.of 6 rfl rfl | exact OwnAt.of 7 rfl rfl)) ?_
    refine XO.rd rfl rfl rfl (Reads.load_whole k84 z84 rfl (by first | exact WholeAt.of 0 rfl | exact WholeAt.of 1 rfl | exact WholeAt.of 2 rfl | exact WholeAt.of 3 rfl | exact WholeAt.of 4 rfl | exact WholeAt.of 5 rfl | exact WholeAt.of 6 rfl | exact WholeAt.of 7 rfl) (by rfl)) ?_
    refine XO.callo (vs := [_]) (L1 := Lc j) (Lf := some (l, lp rc .busy none) :: some (b7, .cells (hand84 x j).toArray 84 (0, 0)) :: some (D, .deferred (some [])) :: some (b5, .cells #[.int .i64 0, .int .i64 0, .string ⟨#[]⟩, .string ⟨#[]⟩] 84 (0, 0)) :: some (b4, .cells #[.int .i64 0] 3 (0, 0)) :: some (b3, .cells #[.func (.func g) #[] ca] 90 (0, 0)) :: Lf) rfl rfl rfl hg ⟨rfl, trivial⟩ (hp j hj3) (List.perm_append_comm_assoc [_, _, _, _, _, _] (Lc j) Lf) ?_
    rintro v' J' L' _ ⟨rfl, hJ', rfl⟩
    replace hJ' := hJ'.symm
    subst hJ'
    refine XO.perm (List.perm_append_comm_assoc (Lc (j + 1)) [_, _, _, _, _, _] Lf) ?_
    refine XO.nil ?_
    refine XQ.then_normal ?_
    refine XC.cond rfl (fun h1 => ?_) (fun h1 => ?_)
    · skip
      have hpj : p j = true := h1
      refine XC.seq ?_
      refine XC.draw m_mixed (some 3) (.pure 0 (.pure 1 (.eff 2 (.eff 3 (.done))))) [some (b7, .cells (hand84 x j).toArray 84 (0, 0))] (by kernel_rfl) (List.Sublist.cons _ (List.Sublist.cons_cons _ (List.nil_sublist _))) ?_
      refine XR.rd rfl rfl rfl (Reads.move rfl) ?_
      refine XR.rd rfl rfl rfl (Reads.load_whole k84 z84 rfl (by first | exact WholeAt.of 0 rfl | exact WholeAt.of 1 rfl | exact WholeAt.of 2 rfl | exact WholeAt.of 3 rfl | exact WholeAt.of 4 rfl | exact WholeAt.of 5 rfl | exact WholeAt.of 6 rfl | exact WholeAt.of 7 rfl) (by rfl)) ?_
      refine XR.store 4 rfl rfl z3 rfl rfl rfl rfl (by simp) (.inr (List.Sublist.cons _ (List.Sublist.cons_cons _ (List.nil_sublist _)))) ?_
      refine XR.store_agg (vs := hand84 x j) 3 rfl rfl z84 rfl rfl (by simp [Value.oneCell']) rfl (by simp) (.inr (List.Sublist.cons _ (List.Sublist.cons_cons _ (List.nil_sublist _)))) ?_
      refine XR.nil ?_
      refine XQ.then_normal ?_
      refine XC.ret ?_
      refine XQ.block_ret ?_
      refine XQ.perm (perm_take [1]) ?_
      refine XQ.dropn 1 ?_
      refine XQ.round_ret (L := some (D, .deferred (some [])) :: some (b5, .cells (hand84 x j).toArray 84 (0, 0)) :: some (b4, .cells #[.int .i64 (j : Int)] 3 (0, 0)) :: some (b3, .cells #[.func (.func g) #[] ca] 90 (0, 0)) :: Lc (j + 1)) (Im.le_refl _) ?_
      exact ⟨(fun h => by cases h), fun _ => ⟨rfl, hpf, hpj, rfl⟩⟩
    · skip
      have hpj : p j = false := h1
      refine XC.skip ?_
      refine XQ.block_normal ?_
      refine XQ.perm (perm_take [1]) ?_
      refine XQ.dropn 1 ?_
      refine XQ.round_normal (L := some (D, .deferred (some [])) :: some (b5, .cells #[.int .i64 0, .int .i64 0, .string ⟨#[]⟩, .string ⟨#[]⟩] 84 (0, 0)) :: some (b4, .cells #[.int .i64 0] 3 (0, 0)) :: some (b3, .cells #[.func (.func g) #[] ca] 90 (0, 0)) :: Lc (j + 1)) (Im.le_refl _) ?_
      exact ⟨fun _ => ⟨rfl, fun i hi => (Nat.lt_succ_iff_lt_or_eq.1 hi).elim (hpf i) (fun e => e ▸ hpj), rfl⟩, (fun h => by cases h)⟩
  · skip
    obtain ⟨L5, rfl, hI4, hpf, rfl⟩ := hq
    rw [hI4]
    refine ⟨.ready, none, some (b1, .cells (x.cs a cap).toArray 37 (0, 0)) :: some (D, .deferred (some [])) :: some (b5, .cells #[.int .i64 0, .int .i64 0, .string ⟨#[]⟩, .string ⟨#[]⟩] 84 (0, 0)) :: some (b4, .cells #[.int .i64 0] 3 (0, 0)) :: some (b3, .cells #[.func (.func g) #[] ca] 90 (0, 0)) :: Lc x.hs.length, perm_take [1], by simp, ?_⟩
    refine XQ.block_normal ?_
    refine XQ.then_normal ?_
    refine XC.seq ?_
    refine XC.region ?_
    refine XO.alloc (cs := #[.int .i64 0, .int .i64 0, .string ⟨#[]⟩, .string ⟨#[]⟩]) rfl rfl zo84 rfl (fun b8 => ?_)
    refine XO.nil ?_
    refine XQ.then_normal ?_
    refine XC.seq ?_
    refine XC.draw m_mixed (some 2) (.pure 0 (.eff 1 (.eff 2 (.done)))) [some (b8, .cells #[.int .i64 0, .int .i64 0, .string ⟨#[]⟩, .string ⟨#[]⟩] 84 (0, 0))] (by kernel_rfl) (List.Sublist.cons_cons _ (List.nil_sublist _)) ?_
    refine XR.rd rfl rfl rfl (Reads.load_whole k84 z84 rfl (by first | exact WholeAt.of 0 rfl | exact WholeAt.of 1 rfl | exact WholeAt.of 2 rfl | exact WholeAt.of 3 rfl | exact WholeAt.of 4 rfl | exact WholeAt.of 5 rfl | exact WholeAt.of 6 rfl | exact WholeAt.of 7 rfl) (by rfl)) ?_
    refine XR.store 4 rfl rfl z3 rfl rfl rfl rfl (by simp) (.inr (List.Sublist.cons_cons _ (List.nil_sublist _))) ?_
    refine XR.store_agg (vs := [.int .i64 0, .int .i64 0, .string ⟨#[]⟩, .string ⟨#[]⟩]) 3 rfl rfl z84 rfl rfl (by simp [Value.oneCell']) rfl (by simp) (.inr (List.Sublist.cons_cons _ (List.nil_sublist _))) ?_
    refine XR.nil ?_
    refine XQ.then_normal ?_
    refine XC.ret ?_
    refine XQ.unmark 2 rfl ?_
    refine XQ.ofM ?_
    refine XQ.done2cc (Lc x.hs.length) 5 rfl k3 k84 z84 rfl rfl (OwnAt.of 3 rfl rfl) (WholeAt.of 2 rfl) rfl rfl (Im.le_refl _) ?_
    exact ⟨by rw [firstI_none.2 hpf]; rfl, rfl, _, rfl⟩
  · skip
    obtain ⟨j, L5, hj3, rfl, hI4, hpf, hpj, rfl⟩ := hq
    rw [hI4]
    refine ⟨.done, some .ret, some (b1, .cells (x.cs a cap).toArray 37 (0, 0)) :: some (D, .deferred (some [])) :: some (b5, .cells (hand84 x j).toArray 84 (0, 0)) :: some (b4, .cells #[.int .i64 (j : Int)] 3 (0, 0)) :: some (b3, .cells #[.func (.func g) #[] ca] 90 (0, 0)) :: Lc (j + 1), perm_take [1], by simp, ?_⟩
    refine XC.ret ?_
    refine XQ.block_ret ?_
    refine XQ.then_ret ?_
    refine XQ.unmark 1 rfl ?_
    refine XQ.ofM ?_
    refine XQ.done2cc (Lc (j + 1)) 4 rfl k3 k84 z84 rfl rfl (OwnAt.of 2 rfl rfl) (WholeAt.of 1 rfl) rfl rfl (Im.le_refl _) ?_
    exact ⟨by rw [firstI_some.2 ⟨hj3, hpj, hpf⟩]; rfl, rfl, _, rfl⟩

end Go.Proofs.YtmlliafhpbfdbaaDoor
namespace Go.Proofs.YtmlliafhpbfdbaaDoor
open Go.Xe Go.Sh Go Go.At

theorem check1_any (bk : Nat) (x : Att) (j : Nat) (ak : Option Addr) (ck : Nat) (keys : List ByteArray) (I : Im) (hK : Arr I ak keys) (hk8 : keys.length = 8) (hks : ∀ k ∈ keys, k.size ≤ 1000) (hc : 0 ≤ (x.h j).c ∧ (x.h j).c ≤ 7) (hct : (content x j).size ≤ 10000) (hG : Glob I) : FSo Tryd.prog 50 [.agg (hand84 x j).toArray, .pointer (some ⟨bk, 0, none⟩)] I [some (bk, .cells #[.slice ak keys.length ck] 29 (0, 0))] (fun u I' L' => u = .bool (shown keys x j) ∧ I' = I ∧ L' = [some (bk, .cells #[.slice ak keys.length ck] 29 (0, 0))]) := by
  refine FSo.intro (n := 7) Tryd.func50 rfl rfl rfl (fun K Lf => ?_)
  refine XC.seq ?_
  refine XC.region ?_
  refine XO.box_agg rfl rfl rfl (fun b2 => ?_)
  refine XO.rd rfl rfl rfl (Reads.assign rfl) ?_
  refine XO.nil ?_
  refine XQ.then_normal ?_
  refine XC.seq ?_
  refine XC.region ?_
  refine XO.rd rfl rfl rfl (Reads.load_whole k84 z84 rfl (by first | exact WholeAt.of 0 rfl | exact WholeAt.of 1 rfl | exact WholeAt.of 2 rfl | exact WholeAt.of 3 rfl | exact WholeAt.of 4 rfl | exact WholeAt.of 5 rfl) (by rfl)) ?_
  refine XO.rd rfl rfl rfl (Reads.load_own k29 rfl (by first | exact OwnAt.of 0 rfl rfl | exact OwnAt.of 1 rfl rfl | exact OwnAt.of 2 rfl rfl | exact OwnAt.of 3 rfl rfl | exact OwnAt.of 4 rfl rfl | exact OwnAt.of 5 rfl rfl)) ?_
  refine XO.callp rfl rfl en51 (isShown_any _ _ _ _ ak ck keys _ hK hk8 hks hc hct hG) ⟨rfl, rfl, trivial⟩ ?_
  refine XO.rd rfl rfl rfl (Reads.assign rfl) ?_
  refine XO.nil ?_
  refine XQ.then_normal ?_
  refine XC.ret ?_
  refine XQ.dropn 1 ?_
  refine XQ.done1 (L := [some (bk, .cells #[.slice ak keys.length ck] 29 (0, 0))]) rfl rfl (Im.le_refl _) ?_
  exact ⟨rfl, rfl, rfl⟩

theorem check_any (x : Att) (a ak : Option Addr) (cap ck : Nat) (keys : List ByteArray) (I : Im) (hA : Arr I a x.hs) (h63 : x.hs.length ≤ 9223372036854775807) (hK : Arr I ak keys) (hkl : keys.length ≤ 1000000) (hG : Glob I) : FC Tryd.prog 19 [.slice ak keys.length ck, .agg (x.cs a cap).toArray] I (fun u I' => u = .tuple #[.int .i64 (check keys x).1, .int .i64 (check keys x).2.1, .int .i64 (check keys x).2.2] ∧ I' = I) := by
  refine FSo.intro (n := 28) Tryd.func19 rfl rfl rfl (fun K Lf => ?_)
  refine XC.seq ?_
  refine XC.region ?_
  refine XO.box1 rfl rfl rfl rfl (fun b2 => ?_)
  refine XO.box_agg rfl rfl rfl (fun b3 => ?_)
  refine XO.rd rfl rfl rfl (Reads.assign rfl) ?_
  refine XO.rd rfl rfl rfl (Reads.assign rfl) ?_
  refine XO.rd rfl rfl rfl (Reads.assign rfl) ?_
  refine XO.nil ?_
  refine XQ.then_normal ?_
  refine XC.seq ?_
  refine XC.seq ?_
  refine XC.region ?_
  refine XO.rd rfl rfl rfl (Reads.load_whole k37 z37 rfl (by first | exact WholeAt.of 0 rfl | exact WholeAt.of 1 rfl | exact WholeAt.of 2 rfl | exact WholeAt.of 3 rfl | exact WholeAt.of 4 rfl | exact WholeAt.of 5 rfl) (by rfl)) ?_
  refine XO.callp rfl rfl en20 (formed_any x a cap _ hA h63) ⟨rfl, trivial⟩ ?_
  refine XO.rd rfl rfl rfl (Reads.not rfl) ?_
  refine XO.rd rfl rfl rfl (Reads.move rfl) ?_
  refine XO.split (d := 12) rfl (fun h1 => ?_) (fun h1 => ?_)
  · skip
    simp only [Bool.not_eq_true'] at h1
    refine XO.s (wg rfl rfl rfl) rfl ?_
    refine XO.s (wg rfl rfl rfl) rfl ?_
    refine XO.s (wg rfl rfl rfl) rfl ?_
    refine XO.rd rfl rfl rfl (Reads.pick_true rfl rfl) ?_
    refine XO.nil ?_
    refine XQ.then_normal ?_
    refine XC.cond rfl (fun _ => ?_) (fun hx => by cases hx)
    refine XC.seq ?_
    refine XC.region ?_
    refine XO.rd rfl rfl rfl (Reads.assign rfl) ?_
    refine XO.rd rfl rfl rfl (Reads.assign rfl) ?_
    refine XO.rd rfl rfl rfl (Reads.assign rfl) ?_
    refine XO.nil ?_
    refine XQ.then_normal ?_
    refine XC.ret ?_
    refine XQ.then_ret ?_
    refine XQ.dropn 2 ?_
    refine XQ.done3 (L := []) rfl rfl rfl rfl (Im.le_refl _) ?_
    exact ⟨rfl, by simp [check, h1], rfl⟩
  · skip
    simp only [Bool.not_eq_false'] at h1
    have hf : x.formed = true := h1
    have hle8 := formed_len hf
    have hn9 : x.hs.length ≤ 9 := by omega
    have hsz := formed_sz hf
    have hin := formed_in hf
    have hdi := formed_d hf
    refine XO.rd (wg rfl rfl rfl) rfl rfl (Reads.load_own k29 rfl (by first | exact OwnAt.of 0 rfl rfl | exact OwnAt.of 1 rfl rfl | exact OwnAt.of 2 rfl rfl | exact OwnAt.of 3 rfl rfl | exact OwnAt.of 4 rfl rfl | exact OwnAt.of 5 rfl rfl)) ?_
    refine XO.callp (wg rfl rfl rfl) rfl en47 (isKnown_any ak ck keys _ hK hkl) ⟨rfl, trivial⟩ ?_
    refine XO.rd (wg rfl rfl rfl) rfl rfl (Reads.not rfl) ?_
    refine XO.rd rfl rfl rfl (Reads.pick_false rfl rfl) ?_
    refine XO.nil ?_
    refine XQ.then_normal ?_
    refine XC.cond rfl (fun h2 => ?_) (fun h2 => ?_)
    · skip
      simp only [Bool.not_eq_true'] at h2
      refine XC.seq ?_
      refine XC.region ?_
      refine XO.rd rfl rfl rfl (Reads.assign rfl) ?_
      refine XO.rd rfl rfl rfl (Reads.assign rfl) ?_
      refine XO.rd rfl rfl rfl (Reads.assign rfl) ?_
      refine XO.nil ?_
      refine XQ.then_normal ?_
      refine XC.ret ?_
      refine XQ.then_ret ?_
      refine XQ.dropn 2 ?_
      refine XQ.done3 (L := []) rfl rfl rfl rfl (Im.le_refl _) ?_
      exact ⟨rfl, by simp [check, *], rfl⟩
    · skip
      simp only [Bool.not_eq_false'] at h2
      have hok : okKeys keys = true := h2
      have hk8 := (okKeys_iff.1 hok).1
      have hks := okKeys_sz hok
      refine XC.skip ?_
      refine XQ.then_normal ?_
      refine XC.seq ?_
      refine XC.region ?_
      refine XO.rd rfl rfl rfl (Reads.load_whole k37 z37 rfl (by first | exact WholeAt.of 0 rfl | exact WholeAt.of 1 rfl | exact WholeAt.of 2 rfl | exact WholeAt.of 3 rfl | exact WholeAt.of 4 rfl | exact WholeAt.of 5 rfl) (by rfl)) ?_
      refine XO.callo (vs := [_]) (L1 := []) rfl rfl rfl en49 ⟨rfl, trivial⟩ (hands_any x a cap I) (List.Perm.refl _) ?_
      rintro v' J' L' _ ⟨bh, rfl, hJ', rfl⟩
      replace hJ' := hJ'.symm
      subst hJ'
      refine XO.rd rfl rfl rfl (Reads.makeFunc (fi := []) (fv := []) (ca := [.tmp 2]) (cv := [_]) trivial ⟨rfl, trivial⟩) ?_
      refine XO.callo (vs := [_, _]) (L1 := [some (bh, .cells (x.cs a cap).toArray 37 (0, 0)), some (b2, .cells #[.slice ak keys.length ck] 29 (0, 0))]) rfl rfl rfl en48 ⟨rfl, rfl, trivial⟩ (first_any bh x a cap 50 #[.pointer (some ⟨b2, 0, none⟩)] (fun _ => [some (b2, .cells #[.slice ak keys.length ck] 29 (0, 0))]) (shown keys x) I hn9 hsz hin hdi hA en50 (fun j hj => check1_any b2 x j ak ck keys I hK hk8 hks (formed_c hf hj) (formed_ct hf hj) hG)) (perm_take [0, 1]) ?_
      rintro v' J' L' _ ⟨rfl, hJ', kx, rfl⟩
      replace hJ' := hJ'.symm
      subst hJ'
      refine XO.rd rfl rfl rfl (Reads.move rfl) ?_
      refine XO.rd rfl rfl rfl (Reads.extract rfl rfl) ?_
      refine XO.rd rfl rfl rfl (Reads.extract rfl rfl) ?_
      refine XO.alloc (cs := #[.int .i64 0, .int .i64 0, .string ⟨#[]⟩, .string ⟨#[]⟩]) rfl rfl zo84 rfl (fun b8 => ?_)
      refine XO.rd rfl rfl rfl (Reads.assign rfl) ?_
      refine XO.store_agg (vs := fHand x (firstI (shown keys x) x.hs.length)) 0 rfl z84 rfl rfl (by simp [Value.oneCell']) rfl (by simp) ?_
      refine XO.nil ?_
      refine XQ.then_normal ?_
      refine XC.seq ?_
      refine XC.region ?_
      refine XO.rd rfl rfl rfl (fa84_0 rfl) ?_
      refine XO.rd rfl rfl rfl (fa53_1 rfl) ?_
      refine XO.rd rfl rfl rfl (Reads.load_own k3 rfl (by first | exact OwnAt.of 0 rfl rfl | exact OwnAt.of 1 rfl rfl | exact OwnAt.of 2 rfl rfl | exact OwnAt.of 3 rfl rfl | exact OwnAt.of 4 rfl rfl | exact OwnAt.of 5 rfl rfl)) ?_
      refine XO.rd rfl rfl rfl (Reads.move rfl) ?_
      refine XO.rd rfl rfl rfl (Reads.assign rfl) ?_
      refine XO.rd rfl rfl rfl (Reads.assign rfl) ?_
      refine XO.rd rfl rfl rfl (Reads.assign rfl) ?_
      refine XO.nil ?_
      refine XQ.then_normal ?_
      refine XC.ret ?_
      refine XQ.dropn 3 ?_
      refine XQ.done3 (L := []) rfl rfl rfl rfl (Im.le_refl _) ?_
      exact ⟨rfl, by simp [check, *], rfl⟩

end Go.Proofs.YtmlliafhpbfdbaaDoor
namespace Go.Proofs.YtmlliafhpbfdbaaDoor
open Go.Xe Go.Sh Go Go.At

theorem shown_any (x : Att) (a ak : Option Addr) (cap ck : Nat) (keys : List ByteArray) (i0 : Int) (I : Im) (hA : Arr I a x.hs) (h63 : x.hs.length ≤ 9223372036854775807) (hK : Arr I ak keys) (hkl : keys.length ≤ 1000000) (hG : Glob I) : FC Tryd.prog 33 [.slice ak keys.length ck, .agg (x.cs a cap).toArray, .int .i64 i0] I (fun u I' => u = .bool (shownI keys x i0) ∧ I' = I) := by
  refine FSo.introM (n := 27) Tryd.func33 rfl rfl rfl (fun K Lf => ?_)
  refine XC.seq ?_
  refine XC.region ?_
  refine XO.box1 rfl rfl rfl rfl (fun b3 => ?_)
  refine XO.box_agg rfl rfl rfl (fun b4 => ?_)
  refine XO.box1 rfl rfl rfl rfl (fun b5 => ?_)
  refine XO.alloc (cs := #[.bool false]) rfl rfl zo4 rfl (fun b6 => ?_)
  refine XO.nil ?_
  refine XQ.then_normal ?_
  refine XC.seq ?_
  refine XC.seq ?_
  refine XC.region ?_
  refine XO.rd rfl rfl rfl (Reads.load_whole k37 z37 rfl (by first | exact WholeAt.of 0 rfl | exact WholeAt.of 1 rfl | exact WholeAt.of 2 rfl | exact WholeAt.of 3 rfl | exact WholeAt.of 4 rfl | exact WholeAt.of 5 rfl | exact WholeAt.of 6 rfl | exact WholeAt.of 7 rfl | exact WholeAt.of 8 rfl | exact WholeAt.of 9 rfl) (by rfl)) ?_
  refine XO.callp rfl rfl en20 (formed_any x a cap _ hA h63) ⟨rfl, trivial⟩ ?_
  refine XO.rd rfl rfl rfl (Reads.not rfl) ?_
  refine XO.rd rfl rfl rfl (Reads.move rfl) ?_
  refine XO.split (d := 12) rfl (fun h1 => ?_) (fun h1 => ?_)
  · skip
    simp only [Bool.not_eq_true'] at h1
    refine XO.s (wg rfl rfl rfl) rfl ?_
    refine XO.s (wg rfl rfl rfl) rfl ?_
    refine XO.s (wg rfl rfl rfl) rfl ?_
    refine XO.rd rfl rfl rfl (Reads.pick_true rfl rfl) ?_
    refine XO.nil ?_
    refine XQ.then_normal ?_
    refine XC.cond rfl (fun _ => ?_) (fun hx => by cases hx)
    refine XC.seq ?_
    refine XC.region ?_
    refine XO.store 0 rfl z4 rfl rfl rfl rfl (by simp) ?_
    refine XO.nil ?_
    refine XQ.then_normal ?_
    refine XC.ret ?_
    refine XQ.then_ret ?_
    refine XQ.ofM ?_
    refine XQ.done1c [] 4 rfl k4 rfl (OwnAt.of 0 rfl rfl) rfl (Im.le_refl _) ?_
    exact ⟨rfl, by simp [shownI, h1], rfl⟩
  · skip
    simp only [Bool.not_eq_false'] at h1
    have hf : x.formed = true := h1
    have hle8 := formed_len hf
    have hn9 : x.hs.length ≤ 9 := by omega
    have hsz := formed_sz hf
    have hin := formed_in hf
    have hdi := formed_d hf
    refine XO.rd (wg rfl rfl rfl) rfl rfl (Reads.load_own k29 rfl (by first | exact OwnAt.of 0 rfl rfl | exact OwnAt.of 1 rfl rfl | exact OwnAt.of 2 rfl rfl | exact OwnAt.of 3 rfl rfl | exact OwnAt.of 4 rfl rfl | exact OwnAt.of 5 rfl rfl | exact OwnAt.of 6 rfl rfl | exact OwnAt.of 7 rfl rfl | exact OwnAt.of 8 rfl rfl | exact OwnAt.of 9 rfl rfl)) ?_
    refine XO.callp (wg rfl rfl rfl) rfl en47 (isKnown_any ak ck keys _ hK hkl) ⟨rfl, trivial⟩ ?_
    refine XO.rd (wg rfl rfl rfl) rfl rfl (Reads.not rfl) ?_
    refine XO.rd rfl rfl rfl (Reads.pick_false rfl rfl) ?_
    refine XO.nil ?_
    refine XQ.then_normal ?_
    refine XC.cond rfl (fun h2 => ?_) (fun h2 => ?_)
    · skip
      simp only [Bool.not_eq_true'] at h2
      refine XC.seq ?_
      refine XC.region ?_
      refine XO.store 0 rfl z4 rfl rfl rfl rfl (by simp) ?_
      refine XO.nil ?_
      refine XQ.then_normal ?_
      refine XC.ret ?_
      refine XQ.then_ret ?_
      refine XQ.ofM ?_
      refine XQ.done1c [] 4 rfl k4 rfl (OwnAt.of 0 rfl rfl) rfl (Im.le_refl _) ?_
      exact ⟨rfl, by simp [shownI, *], rfl⟩
    · skip
      simp only [Bool.not_eq_false'] at h2
      have hok : okKeys keys = true := h2
      have hk8 := (okKeys_iff.1 hok).1
      have hks := okKeys_sz hok
      refine XC.skip ?_
      refine XQ.then_normal ?_
      refine XC.seq ?_
      refine XC.seq ?_
      refine XC.region ?_
      refine XO.rd rfl rfl rfl (Reads.load_whole k37 z37 rfl (by first | exact WholeAt.of 0 rfl | exact WholeAt.of 1 rfl | exact WholeAt.of 2 rfl | exact WholeAt.of 3 rfl | exact WholeAt.of 4 rfl | exact WholeAt.of 5 rfl | exact WholeAt.of 6 rfl | exact WholeAt.of 7 rfl | exact WholeAt.of 8 rfl | exact WholeAt.of 9 rfl) (by rfl)) ?_
      refine XO.callo (vs := [_]) (L1 := []) rfl rfl rfl en49 ⟨rfl, trivial⟩ (hands_any x a cap I) (List.Perm.refl _) ?_
      rintro v' J' L' _ ⟨bh, rfl, hJ', rfl⟩
      replace hJ' := hJ'.symm
      subst hJ'
      refine XO.nil ?_
      refine XQ.then_normal ?_
      refine XC.block ?_
      refine XC.rangeFunc (f := 74) (fi := #[]) (ca := #[.pointer (some ⟨bh, 0, none⟩)]) (L1 := [some (bh, .cells (x.cs a cap).toArray 37 (0, 0)), some (b6, .cells #[.bool false] 4 (0, 0)), some (b5, .cells #[.int .i64 i0] 3 (0, 0)), some (b4, .cells (x.cs a cap).toArray 37 (0, 0)), some (b3, .cells #[.slice ak keys.length ck] 29 (0, 0))]) (Lf := Lf) rfl en74 (List.Perm.refl _) (fun l D rc hR => ?_)
      let J : Nat → Im → Own → Prop := fun j I' L => I' = I ∧ (∀ i : Nat, i < j → ¬ (i : Int) = i0) ∧ L = [some (l, lp rc .ready none), some (D, .deferred (some [])), some (b6, .cells #[.bool false] 4 (0, 0)), some (b5, .cells #[.int .i64 i0] 3 (0, 0)), some (b4, .cells (x.cs a cap).toArray 37 (0, 0)), some (b3, .cells #[.slice ak keys.length ck] 29 (0, 0))]
      let Jx : Nat → Im → Own → Prop := fun j I' L => I' = I ∧ (j : Int) = i0 ∧ L = [some (l, lp rc .done (some .ret)), some (D, .deferred (some [])), some (b6, .cells #[.bool (shown keys x j)] 4 (0, 0)), some (b5, .cells #[.int .i64 i0] 3 (0, 0)), some (b4, .cells (x.cs a cap).toArray 37 (0, 0)), some (b3, .cells #[.slice ak keys.length ck] 29 (0, 0))]
      refine ⟨_, FSo.perm (perm_take [2]) (hands1_any l bh x a cap I [some (l, lp rc .ready none), some (D, .deferred (some [])), some (b6, .cells #[.bool false] 4 (0, 0)), some (b5, .cells #[.int .i64 i0] 3 (0, 0)), some (b4, .cells (x.cs a cap).toArray 37 (0, 0)), some (b3, .cells #[.slice ak keys.length ck] 29 (0, 0))] J Jx hn9 hsz hin hdi ⟨rfl, (fun _ h => absurd h (Nat.not_lt_zero _)), rfl⟩ (fun h => hA.addr (by decide) h) (fun j I1 L1 hJ hj3 i v hi => .inl (by rw [hJ.1]; rw [x.h_get hj3] at hi; exact hA.hand hj3 i v hi)) (fun j I1 L1 hJ hj3 => ?_)), fun u I4 L4 hle4 hq => Or.elim hq (fun hq => ?_) (fun hq => ?_)⟩
      · skip
        obtain ⟨hI1, hpf, rfl⟩ := hJ
        rw [hI1]
        refine YS.intro hR rfl rfl (fun K Lf => ?_)
        refine XC.seq ?_
        refine XC.region ?_
        refine XO.rd rfl rfl rfl (Reads.assign rfl) ?_
        refine XO.nil ?_
        refine XQ.then_normal ?_
        refine XC.region ?_
        refine XO.alloc (cs := #[.int .i64 0, .int .i64 0, .string ⟨#[]⟩, .string ⟨#[]⟩]) rfl rfl zo84 rfl (fun b8 => ?_)
        refine XO.store_agg (vs := hand84 x j) 0 rfl z84 rfl rfl (by simp [Value.oneCell']) rfl (by simp) ?_
        refine XO.nil ?_
        refine XQ.perm (perm_take [1]) ?_
        refine XQ.begin ?_
        refine XC.block ?_
        refine XC.seq ?_
        refine XC.region ?_
        refine XO.rd rfl rfl rfl (Reads.move rfl) ?_
        refine XO.rd rfl rfl rfl (Reads.load_own k3 rfl (by first | exact OwnAt.of 0 rfl rfl | exact OwnAt.of 1 rfl rfl | exact OwnAt.of 2 rfl rfl | exact OwnAt.of 3 rfl rfl | exact OwnAt.of 4 rfl rfl | exact OwnAt.of 5 rfl rfl | exact OwnAt.of 6 rfl rfl | exact OwnAt.of 7 rfl rfl | exact OwnAt.of 8 rfl rfl | exact OwnAt.of 9 rfl rfl)) ?_
        refine XO.rd rfl rfl rfl (Reads.cmp rfl rfl rfl) ?_
        refine XO.nil ?_
        refine XQ.then_normal ?_
        refine XC.cond rfl (fun h3 => ?_) (fun h3 => ?_)
        · skip
          simp only [cmpInt, beq_iff_eq] at h3
          refine XC.seq ?_
          refine XC.region ?_
          refine XO.rd rfl rfl rfl (Reads.load_whole k84 z84 rfl (by first | exact WholeAt.of 0 rfl | exact WholeAt.of 1 rfl | exact WholeAt.of 2 rfl | exact WholeAt.of 3 rfl | exact WholeAt.of 4 rfl | exact WholeAt.of 5 rfl | exact WholeAt.of 6 rfl | exact WholeAt.of 7 rfl | exact WholeAt.of 8 rfl | exact WholeAt.of 9 rfl) (by rfl)) ?_
          refine XO.rd rfl rfl rfl (Reads.load_own k29 rfl (by first | exact OwnAt.of 0 rfl rfl | exact OwnAt.of 1 rfl rfl | exact OwnAt.of 2 rfl rfl | exact OwnAt.of 3 rfl rfl | exact OwnAt.of 4 rfl rfl | exact OwnAt.of 5 rfl rfl | exact OwnAt.of 6 rfl rfl | exact OwnAt.of 7 rfl rfl | exact OwnAt.of 8 rfl rfl | exact OwnAt.of 9 rfl rfl)) ?_
          refine XO.callp rfl rfl en51 (isShown_any _ _ _ _ ak ck keys _ hK hk8 hks (formed_c hf hj3) (formed_ct hf hj3) hG) ⟨rfl, rfl, trivial⟩ ?_
          refine XO.store 3 rfl z4 rfl rfl rfl rfl (by simp) ?_
          refine XO.nil ?_
          refine XQ.then_normal ?_
          refine XC.ret ?_
          refine XQ.block_ret ?_
          refine XQ.perm (perm_take [1]) ?_
          refine XQ.dropn 1 ?_
          refine XQ.round_ret (L := [some (D, .deferred (some [])), some (b6, .cells #[.bool (shown keys x j)] 4 (0, 0)), some (b5, .cells #[.int .i64 i0] 3 (0, 0)), some (b4, .cells (x.cs a cap).toArray 37 (0, 0)), some (b3, .cells #[.slice ak keys.length ck] 29 (0, 0))]) (Im.le_refl _) ?_
          exact ⟨(fun h => by cases h), fun _ => ⟨rfl, by assumption, rfl⟩⟩
        · skip
          simp only [cmpInt, beq_eq_false_iff_ne] at h3
          refine XC.skip ?_
          refine XQ.block_normal ?_
          refine XQ.perm (perm_take [1]) ?_
          refine XQ.dropn 1 ?_
          refine XQ.round_normal (L := [some (D, .deferred (some [])), some (b6, .cells #[.bool false] 4 (0, 0)), some (b5, .cells #[.int .i64 i0] 3 (0, 0)), some (b4, .cells (x.cs a cap).toArray 37 (0, 0)), some (b3, .cells #[.slice ak keys.length ck] 29 (0, 0))]) (Im.le_refl _) ?_
          exact ⟨fun _ => ⟨rfl, fun i hi => (Nat.lt_succ_iff_lt_or_eq.1 hi).elim (hpf i) (fun e => e ▸ (by assumption)), rfl⟩, (fun h => by cases h)⟩
      · skip
        obtain ⟨L5, rfl, hI4, hpf, rfl⟩ := hq
        rw [hI4]
        refine ⟨.ready, none, [some (bh, .cells (x.cs a cap).toArray 37 (0, 0)), some (D, .deferred (some [])), some (b6, .cells #[.bool false] 4 (0, 0)), some (b5, .cells #[.int .i64 i0] 3 (0, 0)), some (b4, .cells (x.cs a cap).toArray 37 (0, 0)), some (b3, .cells #[.slice ak keys.length ck] 29 (0, 0))], perm_take [1], by simp, ?_⟩
        refine XQ.block_normal ?_
        refine XQ.then_normal ?_
        refine XC.seq ?_
        refine XC.region ?_
        refine XO.store 2 rfl z4 rfl rfl rfl rfl (by simp) ?_
        refine XO.nil ?_
        refine XQ.then_normal ?_
        refine XC.ret ?_
        refine XQ.unmark 1 rfl ?_
        refine XQ.dropn 1 ?_
        refine XQ.ofM ?_
        refine XQ.done1c [] 4 rfl k4 rfl (OwnAt.of 0 rfl rfl) rfl (Im.le_refl _) ?_
        exact ⟨rfl, congrArg Value.bool (by symm; rw [Bool.eq_false_iff]; intro hh; simp only [shownI, Bool.and_eq_true, inB_iff] at hh; exact hpf i0.toNat (by omega) (by omega)), rfl⟩
      · skip
        obtain ⟨j, L5, hj3, rfl, hI4, hji, rfl⟩ := hq
        rw [hI4]
        refine ⟨.done, some .ret, [some (bh, .cells (x.cs a cap).toArray 37 (0, 0)), some (D, .deferred (some [])), some (b6, .cells #[.bool (shown keys x j)] 4 (0, 0)), some (b5, .cells #[.int .i64 i0] 3 (0, 0)), some (b4, .cells (x.cs a cap).toArray 37 (0, 0)), some (b3, .cells #[.slice ak keys.length ck] 29 (0, 0))], perm_take [1], by simp, ?_⟩
        refine XC.ret ?_
        refine XQ.block_ret ?_
        refine XQ.then_ret ?_
        refine XQ.unmark 1 rfl ?_
        refine XQ.dropn 1 ?_
        refine XQ.ofM ?_
        refine XQ.done1c [] 4 rfl k4 rfl (OwnAt.of 0 rfl rfl) rfl (Im.le_refl _) ?_
        exact ⟨rfl, congrArg Value.bool (by subst hji; simp only [shownI, hf, hok, Bool.true_and, Int.toNat_natCast]; rw [inB_iff.2 (by omega)]; rfl), rfl⟩

theorem cut_any (x : Att) (a : Option Addr) (cap : Nat) (n0 : Int) (I : Im) (hA : Arr I a x.hs) (h63 : x.hs.length ≤ 9223372036854775807) (hcap : x.hs.length ≤ cap) : FC Tryd.prog 21 [.agg (x.cs a cap).toArray, .int .i64 n0] I (fun u I' => AOut I' u (cut x n0)) := by
  refine FSo.intro (n := 26) Tryd.func21 rfl rfl rfl (fun K Lf => ?_)
  refine XC.seq ?_
  refine XC.region ?_
  refine XO.box_agg rfl rfl rfl (fun b2 => ?_)
  refine XO.alloc (cs := #[.int .i64 0, .int .i64 0, .int .i64 0, .int .i64 0, .slice none 0 0]) rfl rfl zo37 rfl (fun b4 => ?_)
  refine XO.rd rfl rfl rfl (Reads.assign rfl) ?_
  refine XO.nil ?_
  refine XQ.then_normal ?_
  refine XC.seq ?_
  refine XC.seq ?_
  refine XC.region ?_
  refine XO.rd rfl rfl rfl (Reads.load_whole k37 z37 rfl (by first | exact WholeAt.of 0 rfl | exact WholeAt.of 1 rfl | exact WholeAt.of 2 rfl | exact WholeAt.of 3 rfl | exact WholeAt.of 4 rfl | exact WholeAt.of 5 rfl) (by rfl)) ?_
  refine XO.callp rfl rfl en20 (formed_any x a cap _ hA h63) ⟨rfl, trivial⟩ ?_
  refine XO.rd rfl rfl rfl (Reads.not rfl) ?_
  refine XO.rd rfl rfl rfl (Reads.move rfl) ?_
  refine XO.split (d := 9) rfl (fun h1 => ?_) (fun h1 => ?_)
  · skip
    simp only [Bool.not_eq_true'] at h1
    refine XO.s (wg rfl rfl rfl) rfl ?_
    refine XO.s (wg rfl rfl rfl) rfl ?_
    refine XO.s (wg rfl rfl rfl) rfl ?_
    refine XO.s (wg rfl rfl rfl) rfl ?_
    refine XO.s (wg rfl rfl rfl) rfl ?_
    refine XO.s (wg rfl rfl rfl) rfl ?_
    refine XO.rd rfl rfl rfl (Reads.pick_true rfl rfl) ?_
    refine XO.nil ?_
    refine XQ.then_normal ?_
    refine XC.cond rfl (fun _ => ?_) (fun hx => by cases hx)
    refine XC.seq ?_
    refine XC.region ?_
    refine XO.rd rfl rfl rfl (bd37 (vs := []) (none0.cs none 0).toArray trivial rfl) ?_
    refine XO.store_agg (vs := none0.cs none 0) 0 rfl z37 rfl rfl (by simp [Att.cs, none0, Value.oneCell']) rfl (by simp [Att.cs]) ?_
    refine XO.rd rfl rfl rfl (Reads.assign rfl) ?_
    refine XO.nil ?_
    refine XQ.then_normal ?_
    refine XC.ret ?_
    refine XQ.then_ret ?_
    refine XQ.done2ca [] 2 rfl k37 z37 rfl rfl (WholeAt.of 0 rfl) rfl rfl (Im.le_refl _) ?_
    exact ⟨rfl, _, _, rfl, (fun y hy => by rw [cut_no1 h1] at hy; cases hy), fun _ => ⟨rfl, rfl⟩⟩
  · skip
    simp only [Bool.not_eq_false'] at h1
    have hf : x.formed = true := h1
    have hle8 := formed_len hf
    have hn9 : x.hs.length ≤ 9 := by omega
    have hsz := formed_sz hf
    have hin := formed_in hf
    have hdi := formed_d hf
    refine XO.rd (wg rfl rfl rfl) rfl rfl (Reads.move rfl) ?_
    refine XO.rd (wg rfl rfl rfl) rfl rfl (fa37_1 rfl) ?_
    refine XO.rd (wg rfl rfl rfl) rfl rfl (Reads.load_own k35 rfl (by first | exact OwnAt.of 0 rfl rfl | exact OwnAt.of 1 rfl rfl | exact OwnAt.of 2 rfl rfl | exact OwnAt.of 3 rfl rfl | exact OwnAt.of 4 rfl rfl | exact OwnAt.of 5 rfl rfl)) ?_
    refine XO.rd (wg rfl rfl rfl) rfl rfl (Reads.len_slice Tryd.underlying35 rfl) ?_
    refine XO.callp (wg rfl rfl rfl) rfl en52 (isIn_any _ _ _ _) ⟨rfl, rfl, rfl, trivial⟩ ?_
    refine XO.rd (wg rfl rfl rfl) rfl rfl (Reads.not rfl) ?_
    refine XO.rd rfl rfl rfl (Reads.pick_false rfl rfl) ?_
    refine XO.nil ?_
    refine XQ.then_normal ?_
    refine XC.cond rfl (fun h2 => ?_) (fun h2 => ?_)
    · skip
      simp only [Bool.not_eq_true'] at h2
      refine XC.seq ?_
      refine XC.region ?_
      refine XO.rd rfl rfl rfl (bd37 (vs := []) (none0.cs none 0).toArray trivial rfl) ?_
      refine XO.store_agg (vs := none0.cs none 0) 0 rfl z37 rfl rfl (by simp [Att.cs, none0, Value.oneCell']) rfl (by simp [Att.cs]) ?_
      refine XO.rd rfl rfl rfl (Reads.assign rfl) ?_
      refine XO.nil ?_
      refine XQ.then_normal ?_
      refine XC.ret ?_
      refine XQ.then_ret ?_
      refine XQ.done2ca [] 2 rfl k37 z37 rfl rfl (WholeAt.of 0 rfl) rfl rfl (Im.le_refl _) ?_
      exact ⟨rfl, _, _, rfl, (fun y hy => by rw [cut_no2 (by assumption)] at hy; cases hy), fun _ => ⟨rfl, rfl⟩⟩
    · skip
      simp only [Bool.not_eq_false'] at h2
      have hin := inB_iff.1 h2
      obtain ⟨n, rfl⟩ := Int.eq_ofNat_of_zero_le (show 0 ≤ n0 by omega)
      refine XC.skip ?_
      refine XQ.then_normal ?_
      refine XC.seq ?_
      refine XC.draw m_mixed none (.pure 0 (.pure 1 (.pure 2 (.pure 3 (.pure 4 (.pure 5 (.eff 6 (.pure 7 (.eff 8 (.pure 9 (.done))))))))))) [some (b2, .cells (x.cs a cap).toArray 37 (0, 0))] (by kernel_rfl) (List.Sublist.cons _ (List.Sublist.cons_cons _ (List.nil_sublist _))) ?_
      refine XR.rd rfl rfl rfl (fa37_0 rfl) ?_
      refine XR.rd rfl rfl rfl (Reads.load_agg_own (vs := x.d.cs) k34 z34 rfl (fun j v hj => OwnAt.of 0 rfl (by rw [Nat.zero_add]; exact dial_at x a cap hj))) ?_
      refine XR.rd rfl rfl rfl (fa37_1 rfl) ?_
      refine XR.rd rfl rfl rfl (Reads.load_own k35 rfl (by first | exact OwnAt.of 0 rfl rfl | exact OwnAt.of 1 rfl rfl | exact OwnAt.of 2 rfl rfl | exact OwnAt.of 3 rfl rfl | exact OwnAt.of 4 rfl rfl | exact OwnAt.of 5 rfl rfl)) ?_
      refine XR.rd rfl rfl rfl (Reads.move rfl) ?_
      refine XR.rd rfl rfl rfl (Reads.slice_to Tryd.underlying35 z53 rfl rfl (by omega)) ?_
      rw [show ((n : Nat) : Int).toNat = (x.hs.take n).length by rw [List.length_take]; omega]
      refine XR.callo (vs := [_]) (L1 := []) rfl rfl rfl rfl en53 ⟨rfl, trivial⟩ (clone_any a cap (x.hs.take n) I (hA.take n) (by rw [List.length_take]; omega)) (List.Perm.refl _) ?_
      rintro v' J' L' _ ⟨V, rfl, hJ', rfl, hV⟩
      replace hJ' := hJ'.symm
      subst hJ'
      refine ⟨.inr (List.Sublist.cons _ (List.Sublist.cons _ (List.Sublist.cons_cons _ (List.nil_sublist _)))), ?_⟩
      refine XR.rd rfl rfl rfl (bd37v x.d V.val ⟨_, _, _, rfl⟩ ⟨rfl, rfl, rfl, rfl, trivial⟩) ?_
      refine XR.store_agg (vs := [.int .i64 x.d.a, .int .i64 x.d.b, .int .i64 x.d.t, .int .i64 x.d.n, V.val]) 1 rfl rfl z37 rfl rfl (by simp [Value.oneCell']) rfl (by simp) (.inr (List.Sublist.cons _ (List.Sublist.cons _ (List.Sublist.cons_cons _ (List.nil_sublist _))))) ?_
      refine XR.rd rfl rfl rfl (Reads.assign rfl) ?_
      refine XR.nil ?_
      refine XQ.then_normal ?_
      refine XC.ret ?_
      refine XQ.give_vec (fun hb => ?_)
      refine XQ.done2ca [] 2 rfl k37 z37 rfl rfl (WholeAt.of 0 rfl) rfl rfl (Vec.le_give hb) ?_
      obtain ⟨a9, c9, h91, h92, h93⟩ := (Vec.sl (e := 53) (α := Hand) (by decide) hV (flat_hand _ _) hb).2.ex
      have hcu : cut x n = some ⟨x.d, x.hs.take n⟩ := by simp only [cut, hf, inB_iff.2 hin, Bool.true_and, if_true, Int.toNat_natCast]
      exact ⟨rfl, _, _, rfl, (fun y hy => by rw [hcu] at hy; cases hy; exact ⟨rfl, a9, c9, congrArg (fun z => Value.agg #[.int .i64 x.d.a, .int .i64 x.d.b, .int .i64 x.d.t, .int .i64 x.d.n, z]) h91, h92, h93⟩), fun hy => by rw [hcu] at hy; cases hy⟩

end Go.Proofs.YtmlliafhpbfdbaaDoor
namespace Go.Proofs.YtmlliafhpbfdbaaDoor
open Go.Xe Go.Sh Go Go.At

theorem blame3_any (bl bk bw : Nat) (x : Att) (j : Nat) (ak aw : Option Addr) (ck cw : Nat) (keys : List ByteArray) (knows : List Int) (I : Im) (hK : Arr I ak keys) (hk8 : keys.length = 8) (hks : ∀ k ∈ keys, k.size ≤ 1000) (hW : Arr I aw knows) (hw8 : knows.length = 8) (hwk : ∀ n ∈ knows, 0 ≤ n ∧ n ≤ 255) (hf : x.formed = true) (hj3 : j < x.hs.length) (hG : Glob I) : FSo Tryd.prog 59 [.agg (hand84 x j).toArray, .pointer (some ⟨bl, 0, none⟩), .pointer (some ⟨bk, 0, none⟩), .pointer (some ⟨bw, 0, none⟩)] I [some (bl, .cells (lastH x j).toArray 84 (0, 0)), some (bk, .cells #[.slice ak keys.length ck] 29 (0, 0)), some (bw, .cells #[.slice aw knows.length cw] 23 (0, 0))] (fun u I' L' => u = .bool (bad keys knows x j) ∧ I' = I ∧ L' = [some (bl, .cells (lastH x (j + 1)).toArray 84 (0, 0)), some (bk, .cells #[.slice ak keys.length ck] 29 (0, 0)), some (bw, .cells #[.slice aw knows.length cw] 23 (0, 0))]) := by
  have hc := formed_c hf hj3
  have hc8 : (x.h j).c.toNat < keys.length := by omega
  have hw3 : (x.h j).c.toNat < knows.length := by omega
  have hkey : keyAt keys x j = keys[(x.h j).c.toNat] := by simp [keyAt, hc8]
  have hk32 := hks _ (List.getElem_mem hc8)
  have hwv := hwk _ (List.getElem_mem hw3)
  have hwg : knows.getD (x.h j).c.toNat 0 = knows[(x.h j).c.toNat] := by simp [hw3]
  refine FSo.intro (n := 48) Tryd.func59 rfl rfl rfl (fun K Lf => ?_)
  refine XC.seq ?_
  refine XC.region ?_
  refine XO.box_agg rfl rfl rfl (fun b4 => ?_)
  refine XO.rd rfl rfl rfl (Reads.assign rfl) ?_
  refine XO.nil ?_
  refine XQ.then_normal ?_
  refine XC.seq ?_
  refine XC.region ?_
  refine XO.rd rfl rfl rfl (Reads.load_whole k84 z84 rfl (WholeAt.of 1 rfl) (by rfl)) ?_
  refine XO.alloc (cs := #[.int .i64 0, .int .i64 0, .string ⟨#[]⟩, .string ⟨#[]⟩]) rfl rfl zo84 rfl (fun b6 => ?_)
  refine XO.store_agg (vs := lastH x j) 0 rfl z84 rfl rfl (by simp [lastH, Value.oneCell']) rfl (by simp [lastH]) ?_
  refine XO.own_eq (congrArg (fun c => some (b6, Obj.cells c 84 (0, 0)) :: _) (show _ = (lastH x j).toArray from rfl)) ?_
  refine XO.nil ?_
  refine XQ.then_normal ?_
  refine XC.seq ?_
  refine XC.region ?_
  refine XO.rd rfl rfl rfl (Reads.load_whole k84 z84 rfl (by first | exact WholeAt.of 0 rfl | exact WholeAt.of 1 rfl | exact WholeAt.of 2 rfl | exact WholeAt.of 3 rfl | exact WholeAt.of 4 rfl | exact WholeAt.of 5 rfl | exact WholeAt.of 6 rfl | exact WholeAt.of 7 rfl) (by rfl)) ?_
  refine XO.store_agg (vs := hand84 x j) 2 rfl z84 rfl rfl (by simp [Value.oneCell']) rfl (by simp [lastH]) ?_
  refine XO.own_eq (congrArg (fun c => _ :: _ :: some (bl, Obj.cells c 84 (0, 0)) :: _) (show _ = (lastH x (j + 1)).toArray from rfl)) ?_
  refine XO.nil ?_
  refine XQ.then_normal ?_
  refine XC.seq ?_
  refine XC.seq ?_
  refine XC.draw m_mixed none (.pure 0 (.pure 1 (.pure 2 (.pure 3 (.pure 4 (.pure 5 (.pure 6 (.pure 7 (.pure 8 (.pure 9 (.eff 10 (.pure 11 (.done))))))))))))) _ (by kernel_rfl) (List.Sublist.refl _) ?_
  refine XR.rd rfl rfl rfl (fa84_0 rfl) ?_
  refine XR.rd rfl rfl rfl (fa53_2 rfl) ?_
  refine XR.rd rfl rfl rfl (Reads.load_own k9 rfl (by first | exact OwnAt.of 0 rfl rfl | exact OwnAt.of 1 rfl rfl | exact OwnAt.of 2 rfl rfl | exact OwnAt.of 3 rfl rfl | exact OwnAt.of 4 rfl rfl | exact OwnAt.of 5 rfl rfl | exact OwnAt.of 6 rfl rfl | exact OwnAt.of 7 rfl rfl)) ?_
  refine XR.rd rfl rfl rfl (Reads.load_whole k84 z84 rfl (by first | exact WholeAt.of 0 rfl | exact WholeAt.of 1 rfl | exact WholeAt.of 2 rfl | exact WholeAt.of 3 rfl | exact WholeAt.of 4 rfl | exact WholeAt.of 5 rfl | exact WholeAt.of 6 rfl | exact WholeAt.of 7 rfl) (by rfl)) ?_
  refine XR.rd rfl rfl rfl (Reads.load_own k29 rfl (by first | exact OwnAt.of 0 rfl rfl | exact OwnAt.of 1 rfl rfl | exact OwnAt.of 2 rfl rfl | exact OwnAt.of 3 rfl rfl | exact OwnAt.of 4 rfl rfl | exact OwnAt.of 5 rfl rfl | exact OwnAt.of 6 rfl rfl | exact OwnAt.of 7 rfl rfl)) ?_
  refine XR.rd rfl rfl rfl (fa84_0 rfl) ?_
  refine XR.rd rfl rfl rfl (fa53_0 rfl) ?_
  refine XR.rd rfl rfl rfl (Reads.load_own k3 rfl (by first | exact OwnAt.of 0 rfl rfl | exact OwnAt.of 1 rfl rfl | exact OwnAt.of 2 rfl rfl | exact OwnAt.of 3 rfl rfl | exact OwnAt.of 4 rfl rfl | exact OwnAt.of 5 rfl rfl | exact OwnAt.of 6 rfl rfl | exact OwnAt.of 7 rfl rfl)) ?_
  refine XR.rd rfl rfl rfl (Reads.index_slot Tryd.underlying29 z9 rfl rfl (by omega) (hK.isSome (by decide) (by omega)) rfl) ?_
  refine XR.rd rfl rfl rfl (Reads.load_at k9 rfl (hK.str hc8)) ?_
  refine XR.callp rfl rfl rfl en60 (seal_any _ _ _ (content x j) keys[(x.h j).c.toNat] _ (formed_ct hf hj3) hk32 hG) ⟨rfl, rfl, trivial⟩ (List.Sublist.refl _) ?_
  refine XR.rd rfl rfl rfl (Reads.sne rfl rfl) ?_
  refine XR.nil ?_
  refine XQ.then_normal ?_
  refine XC.cond rfl (fun h1 => ?_) (fun h1 => ?_)
  · skip
    have hbd : bad keys knows x j = true := bad_yes (by rw [hkey]; simpa using h1)
    refine XC.seq ?_
    refine XC.region ?_
    refine XO.rd rfl rfl rfl (Reads.assign rfl) ?_
    refine XO.nil ?_
    refine XQ.then_normal ?_
    refine XC.ret ?_
    refine XQ.then_ret ?_
    refine XQ.dropn 2 ?_
    refine XQ.done1 (L := [some (bl, .cells (lastH x (j + 1)).toArray 84 (0, 0)), some (bk, .cells #[.slice ak keys.length ck] 29 (0, 0)), some (bw, .cells #[.slice aw knows.length cw] 23 (0, 0))]) rfl rfl (Im.le_refl _) ?_
    exact ⟨by rw [hbd], rfl, rfl⟩
  · skip
    have hrt : right (keyAt keys x j) x j = true := by rw [hkey]; simpa [right] using h1
    refine XC.skip ?_
    refine XQ.then_normal ?_
    refine XC.seq ?_
    refine XC.seq ?_
    refine XC.region ?_
    refine XO.rd rfl rfl rfl (fa84_0 rfl) ?_
    refine XO.rd rfl rfl rfl (fa53_0 rfl) ?_
    refine XO.rd rfl rfl rfl (Reads.load_own k3 rfl (by first | exact OwnAt.of 0 rfl rfl | exact OwnAt.of 1 rfl rfl | exact OwnAt.of 2 rfl rfl | exact OwnAt.of 3 rfl rfl | exact OwnAt.of 4 rfl rfl | exact OwnAt.of 5 rfl rfl | exact OwnAt.of 6 rfl rfl | exact OwnAt.of 7 rfl rfl)) ?_
    refine XO.rd rfl rfl rfl (Reads.cmp rfl rfl rfl) ?_
    refine XO.nil ?_
    refine XQ.then_normal ?_
    refine XC.cond rfl (fun h2 => ?_) (fun h2 => ?_)
    · skip
      simp only [cmpInt, decide_eq_true_eq] at h2
      have hj0 : j = 0 := (last_neg hf hj3).1 h2
      refine XC.seq ?_
      refine XC.region ?_
      refine XO.rd rfl rfl rfl (Reads.assign rfl) ?_
      refine XO.nil ?_
      refine XQ.then_normal ?_
      refine XC.ret ?_
      refine XQ.then_ret ?_
      refine XQ.dropn 2 ?_
      refine XQ.done1 (L := [some (bl, .cells (lastH x (j + 1)).toArray 84 (0, 0)), some (bk, .cells #[.slice ak keys.length ck] 29 (0, 0)), some (bw, .cells #[.slice aw knows.length cw] 23 (0, 0))]) rfl rfl (Im.le_refl _) ?_
      exact ⟨by rw [bad_zero hrt hj0], rfl, rfl⟩
    · skip
      simp only [cmpInt, decide_eq_false_iff_not] at h2
      have hj0 : 0 < j := by rcases Nat.eq_zero_or_pos j with h9 | h9; exact absurd ((last_neg hf hj3).2 h9) h2; exact h9
      have hcp := formed_c hf (i := j - 1) (by omega)
      refine XC.skip ?_
      refine XQ.then_normal ?_
      refine XC.seq ?_
      refine XC.region ?_
      refine XO.rd rfl rfl rfl (fa84_0 rfl) ?_
      refine XO.rd rfl rfl rfl (fa53_1 rfl) ?_
      refine XO.rd rfl rfl rfl (Reads.load_own k3 rfl (by first | exact OwnAt.of 0 rfl rfl | exact OwnAt.of 1 rfl rfl | exact OwnAt.of 2 rfl rfl | exact OwnAt.of 3 rfl rfl | exact OwnAt.of 4 rfl rfl | exact OwnAt.of 5 rfl rfl | exact OwnAt.of 6 rfl rfl | exact OwnAt.of 7 rfl rfl)) ?_
      refine XO.rd rfl rfl rfl (Reads.assign rfl) ?_
      refine XO.nil ?_
      refine XQ.then_normal ?_
      refine XC.seq ?_
      refine XC.seq ?_
      refine XC.draw m_mixed none (.pure 0 (.pure 1 (.pure 2 (.pure 3 (.pure 4 (.pure 5 (.pure 6 (.pure 7 (.pure 8 (.pure 9 (.pure 10 (.pure 11 (.done))))))))))))) _ (by kernel_rfl) (List.Sublist.refl _) ?_
      refine XR.rd rfl rfl rfl (Reads.load_own k23 rfl (by first | exact OwnAt.of 0 rfl rfl | exact OwnAt.of 1 rfl rfl | exact OwnAt.of 2 rfl rfl | exact OwnAt.of 3 rfl rfl | exact OwnAt.of 4 rfl rfl | exact OwnAt.of 5 rfl rfl | exact OwnAt.of 6 rfl rfl | exact OwnAt.of 7 rfl rfl)) ?_
      refine XR.rd rfl rfl rfl (fa84_0 rfl) ?_
      refine XR.rd rfl rfl rfl (fa53_0 rfl) ?_
      refine XR.rd rfl rfl rfl (Reads.load_own k3 rfl (by first | exact OwnAt.of 0 rfl rfl | exact OwnAt.of 1 rfl rfl | exact OwnAt.of 2 rfl rfl | exact OwnAt.of 3 rfl rfl | exact OwnAt.of 4 rfl rfl | exact OwnAt.of 5 rfl rfl | exact OwnAt.of 6 rfl rfl | exact OwnAt.of 7 rfl rfl)) ?_
      refine XR.rd rfl rfl rfl (Reads.index_slot Tryd.underlying23 z3 rfl rfl (by omega) (hW.isSome (by decide) (by omega)) rfl) ?_
      refine XR.rd rfl rfl rfl (Reads.load_at k3 rfl (hW.int hw3)) ?_
      rw [show knows[(x.h j).c.toNat] = ((knows[(x.h j).c.toNat].toNat : Nat) : Int) by omega]
      refine XR.rd rfl rfl rfl (fa84_0 rfl) ?_
      refine XR.rd rfl rfl rfl (fa53_0 rfl) ?_
      refine XR.rd rfl rfl rfl (Reads.load_own (v := .int .i64 (lastC x j)) k3 rfl (OwnAt.of 0 rfl rfl)) ?_
      rw [show lastC x j = (((x.h (j - 1)).c.toNat : Nat) : Int) by rw [lastC_pos hj0]; omega]
      refine XR.rd rfl rfl rfl (Reads.shrn rfl rfl (by show _ ≤ 64; omega)) ?_
      refine XR.rd rfl rfl rfl (Reads.iand (n := 1) rfl rfl (Nat.lt_of_le_of_lt (Nat.div_le_self _ _) (by omega)) (by decide)) ?_
      rw [Nat.and_one_is_mod]
      refine XR.rd rfl rfl rfl (Reads.cmp rfl rfl rfl) ?_
      refine XR.nil ?_
      refine XQ.then_normal ?_
      refine XC.cond rfl (fun h3 => ?_) (fun h3 => ?_)
      · skip
        simp only [cmpInt, beq_iff_eq] at h3
        have hcan : can knows x j = false := by unfold can; rw [hwg]; exact decide_eq_false (by omega)
        refine XC.region ?_
        refine XO.rd rfl rfl rfl (Reads.move rfl) ?_
        refine XO.rd rfl rfl rfl (Reads.min rfl rfl) ?_
        refine XO.rd rfl rfl rfl (Reads.assign rfl) ?_
        refine XO.nil ?_
        refine XQ.then_normal ?_
        refine XC.seq ?_
        refine XC.region ?_
        refine XO.rd rfl rfl rfl (fa84_0 rfl) ?_
        refine XO.rd rfl rfl rfl (fa53_1 rfl) ?_
        refine XO.rd rfl rfl rfl (Reads.load_own k3 rfl (by first | exact OwnAt.of 0 rfl rfl | exact OwnAt.of 1 rfl rfl | exact OwnAt.of 2 rfl rfl | exact OwnAt.of 3 rfl rfl | exact OwnAt.of 4 rfl rfl | exact OwnAt.of 5 rfl rfl | exact OwnAt.of 6 rfl rfl | exact OwnAt.of 7 rfl rfl)) ?_
        refine XO.rd rfl rfl rfl (Reads.move rfl) ?_
        refine XO.rd rfl rfl rfl (Reads.cmp rfl rfl rfl) ?_
        refine XO.rd rfl rfl rfl (Reads.assign rfl) ?_
        refine XO.nil ?_
        refine XQ.then_normal ?_
        refine XC.ret ?_
        refine XQ.dropn 2 ?_
        refine XQ.done1 (L := [some (bl, .cells (lastH x (j + 1)).toArray 84 (0, 0)), some (bk, .cells #[.slice ak keys.length ck] 29 (0, 0)), some (bw, .cells #[.slice aw knows.length cw] 23 (0, 0))]) rfl rfl (Im.le_refl _) ?_
        exact ⟨by rw [bad_pos hrt hj0, most, hcan, ← lastL_pos hj0]; simp only [cmpInt]; rfl, rfl, rfl⟩
      · skip
        simp only [cmpInt, beq_eq_false_iff_ne] at h3
        have hcan : can knows x j = true := by unfold can; rw [hwg]; exact decide_eq_true (by omega)
        refine XC.skip ?_
        refine XQ.then_normal ?_
        refine XC.seq ?_
        refine XC.region ?_
        refine XO.rd rfl rfl rfl (fa84_0 rfl) ?_
        refine XO.rd rfl rfl rfl (fa53_1 rfl) ?_
        refine XO.rd rfl rfl rfl (Reads.load_own k3 rfl (by first | exact OwnAt.of 0 rfl rfl | exact OwnAt.of 1 rfl rfl | exact OwnAt.of 2 rfl rfl | exact OwnAt.of 3 rfl rfl | exact OwnAt.of 4 rfl rfl | exact OwnAt.of 5 rfl rfl | exact OwnAt.of 6 rfl rfl | exact OwnAt.of 7 rfl rfl)) ?_
        refine XO.rd rfl rfl rfl (Reads.move rfl) ?_
        refine XO.rd rfl rfl rfl (Reads.cmp rfl rfl rfl) ?_
        refine XO.rd rfl rfl rfl (Reads.assign rfl) ?_
        refine XO.nil ?_
        refine XQ.then_normal ?_
        refine XC.ret ?_
        refine XQ.dropn 2 ?_
        refine XQ.done1 (L := [some (bl, .cells (lastH x (j + 1)).toArray 84 (0, 0)), some (bk, .cells #[.slice ak keys.length ck] 29 (0, 0)), some (bw, .cells #[.slice aw knows.length cw] 23 (0, 0))]) rfl rfl (Im.le_refl _) ?_
        exact ⟨by rw [bad_pos hrt hj0, most, hcan, ← lastL_pos hj0]; simp only [cmpInt]; rfl, rfl, rfl⟩

theorem blame_any (x : Att) (a ak aw : Option Addr) (cap ck cw : Nat) (keys : List ByteArray) (knows : List Int) (I : Im) (hA : Arr I a x.hs) (h63 : x.hs.length ≤ 9223372036854775807) (hK : Arr I ak keys) (hkl : keys.length ≤ 1000000) (hW : Arr I aw knows) (hwl : knows.length ≤ 1000000) (hG : Glob I) : FC Tryd.prog 24 [.slice ak keys.length ck, .slice aw knows.length cw, .agg (x.cs a cap).toArray] I (fun u I' => u = .tuple #[.int .i64 (blame keys knows x).1, .int .i64 (blame keys knows x).2] ∧ I' = I) := by
  refine FSo.intro (n := 46) Tryd.func24 rfl rfl rfl (fun K Lf => ?_)
  refine XC.seq ?_
  refine XC.region ?_
  refine XO.box1 rfl rfl rfl rfl (fun b3 => ?_)
  refine XO.box1 rfl rfl rfl rfl (fun b4 => ?_)
  refine XO.box_agg rfl rfl rfl (fun b5 => ?_)
  refine XO.rd rfl rfl rfl (Reads.assign rfl) ?_
  refine XO.rd rfl rfl rfl (Reads.assign rfl) ?_
  refine XO.nil ?_
  refine XQ.then_normal ?_
  refine XC.seq ?_
  refine XC.region ?_
  refine XO.rd rfl rfl rfl (Reads.assign rfl) ?_
  refine XO.nil ?_
  refine XQ.then_normal ?_
  refine XC.seq ?_
  refine XC.region ?_
  refine XO.rd rfl rfl rfl (Reads.assign rfl) ?_
  refine XO.nil ?_
  refine XQ.then_normal ?_
  refine XC.seq ?_
  refine XC.seq ?_
  refine XC.region ?_
  refine XO.rd rfl rfl rfl (Reads.load_whole k37 z37 rfl (by first | exact WholeAt.of 0 rfl | exact WholeAt.of 1 rfl | exact WholeAt.of 2 rfl | exact WholeAt.of 3 rfl | exact WholeAt.of 4 rfl | exact WholeAt.of 5 rfl | exact WholeAt.of 6 rfl | exact WholeAt.of 7 rfl) (by rfl)) ?_
  refine XO.callp rfl rfl en20 (formed_any x a cap _ hA h63) ⟨rfl, trivial⟩ ?_
  refine XO.rd rfl rfl rfl (Reads.not rfl) ?_
  refine XO.rd rfl rfl rfl (Reads.move rfl) ?_
  refine XO.split (d := 16) rfl (fun h1 => ?_) (fun h1 => ?_)
  · skip
    simp only [Bool.not_eq_true'] at h1
    refine XO.s (wg rfl rfl rfl) rfl ?_
    refine XO.s (wg rfl rfl rfl) rfl ?_
    refine XO.s (wg rfl rfl rfl) rfl ?_
    refine XO.rd rfl rfl rfl (Reads.pick_true rfl rfl) ?_
    refine XO.rd rfl rfl rfl (Reads.move rfl) ?_
    refine XO.s (wg rfl rfl rfl) rfl ?_
    refine XO.s (wg rfl rfl rfl) rfl ?_
    refine XO.s (wg rfl rfl rfl) rfl ?_
    refine XO.rd rfl rfl rfl (Reads.pick_true rfl rfl) ?_
    refine XO.rd rfl rfl rfl (Reads.move rfl) ?_
    refine XO.s (wg rfl rfl rfl) rfl ?_
    refine XO.s (wg rfl rfl rfl) rfl ?_
    refine XO.s (wg rfl rfl rfl) rfl ?_
    refine XO.rd rfl rfl rfl (Reads.pick_true rfl rfl) ?_
    refine XO.rd rfl rfl rfl (Reads.move rfl) ?_
    refine XO.s (wg rfl rfl rfl) rfl ?_
    refine XO.s (wg rfl rfl rfl) rfl ?_
    refine XO.s (wg rfl rfl rfl) rfl ?_
    refine XO.rd rfl rfl rfl (Reads.pick_true rfl rfl) ?_
    refine XO.nil ?_
    refine XQ.then_normal ?_
    refine XC.cond rfl (fun _ => ?_) (fun hx => by cases hx)
    refine XC.seq ?_
    refine XC.region ?_
    refine XO.rd rfl rfl rfl (Reads.assign rfl) ?_
    refine XO.rd rfl rfl rfl (Reads.assign rfl) ?_
    refine XO.nil ?_
    refine XQ.then_normal ?_
    refine XC.ret ?_
    refine XQ.then_ret ?_
    refine XQ.dropn 3 ?_
    refine XQ.done2 (L := []) rfl rfl rfl (Im.le_refl _) ?_
    exact ⟨rfl, by rw [blame_no (by simp [h1])], rfl⟩
  · skip
    simp only [Bool.not_eq_false'] at h1
    have hf : x.formed = true := h1
    have hle8 := formed_len hf
    have hn9 : x.hs.length ≤ 9 := by omega
    have hsz := formed_sz hf
    have hin := formed_in hf
    have hdi := formed_d hf
    refine XO.rd (wg rfl rfl rfl) rfl rfl (Reads.load_own k29 rfl (by first | exact OwnAt.of 0 rfl rfl | exact OwnAt.of 1 rfl rfl | exact OwnAt.of 2 rfl rfl | exact OwnAt.of 3 rfl rfl | exact OwnAt.of 4 rfl rfl | exact OwnAt.of 5 rfl rfl | exact OwnAt.of 6 rfl rfl | exact OwnAt.of 7 rfl rfl)) ?_
    refine XO.callp (wg rfl rfl rfl) rfl en47 (isKnown_any ak ck keys _ hK hkl) ⟨rfl, trivial⟩ ?_
    refine XO.rd (wg rfl rfl rfl) rfl rfl (Reads.not rfl) ?_
    refine XO.rd rfl rfl rfl (Reads.pick_false rfl rfl) ?_
    refine XO.rd rfl rfl rfl (Reads.move rfl) ?_
    refine XO.split (d := 21) rfl (fun h2 => ?_) (fun h2 => ?_)
    · skip
      simp only [Bool.not_eq_true'] at h2
      refine XO.s (wg rfl rfl rfl) rfl ?_
      refine XO.s (wg rfl rfl rfl) rfl ?_
      refine XO.s (wg rfl rfl rfl) rfl ?_
      refine XO.rd rfl rfl rfl (Reads.pick_true rfl rfl) ?_
      refine XO.rd rfl rfl rfl (Reads.move rfl) ?_
      refine XO.s (wg rfl rfl rfl) rfl ?_
      refine XO.s (wg rfl rfl rfl) rfl ?_
      refine XO.s (wg rfl rfl rfl) rfl ?_
      refine XO.rd rfl rfl rfl (Reads.pick_true rfl rfl) ?_
      refine XO.rd rfl rfl rfl (Reads.move rfl) ?_
      refine XO.s (wg rfl rfl rfl) rfl ?_
      refine XO.s (wg rfl rfl rfl) rfl ?_
      refine XO.s (wg rfl rfl rfl) rfl ?_
      refine XO.rd rfl rfl rfl (Reads.pick_true rfl rfl) ?_
      refine XO.nil ?_
      refine XQ.then_normal ?_
      refine XC.cond rfl (fun _ => ?_) (fun hx => by cases hx)
      refine XC.seq ?_
      refine XC.region ?_
      refine XO.rd rfl rfl rfl (Reads.assign rfl) ?_
      refine XO.rd rfl rfl rfl (Reads.assign rfl) ?_
      refine XO.nil ?_
      refine XQ.then_normal ?_
      refine XC.ret ?_
      refine XQ.then_ret ?_
      refine XQ.dropn 3 ?_
      refine XQ.done2 (L := []) rfl rfl rfl (Im.le_refl _) ?_
      exact ⟨rfl, by rw [blame_no (by rw [full_not (by assumption)]; simp)], rfl⟩
    · skip
      simp only [Bool.not_eq_false'] at h2
      have hok : okKeys keys = true := h2
      have hk8 := (okKeys_iff.1 hok).1
      have hks := okKeys_sz hok
      refine XO.rd (wg rfl rfl rfl) rfl rfl (Reads.load_own k29 rfl (by first | exact OwnAt.of 0 rfl rfl | exact OwnAt.of 1 rfl rfl | exact OwnAt.of 2 rfl rfl | exact OwnAt.of 3 rfl rfl | exact OwnAt.of 4 rfl rfl | exact OwnAt.of 5 rfl rfl | exact OwnAt.of 6 rfl rfl | exact OwnAt.of 7 rfl rfl)) ?_
      refine XO.rd (wg rfl rfl rfl) rfl rfl (Reads.move rfl) ?_
      refine XO.callp (wg rfl rfl rfl) rfl en57 (containsFunc_str ak ck keys 54 (fun s => !decide (s.size = 32)) _ hK hkl en54 (fun k hk J => badKey_any keys[k] J)) ⟨rfl, rfl, trivial⟩ ?_
      refine XO.rd rfl rfl rfl (Reads.pick_false rfl rfl) ?_
      refine XO.rd rfl rfl rfl (Reads.move rfl) ?_
      refine XO.split (d := 26) rfl (fun h3 => ?_) (fun h3 => ?_)
      · skip
        refine XO.s (wg rfl rfl rfl) rfl ?_
        refine XO.s (wg rfl rfl rfl) rfl ?_
        refine XO.s (wg rfl rfl rfl) rfl ?_
        refine XO.rd rfl rfl rfl (Reads.pick_true rfl rfl) ?_
        refine XO.rd rfl rfl rfl (Reads.move rfl) ?_
        refine XO.s (wg rfl rfl rfl) rfl ?_
        refine XO.s (wg rfl rfl rfl) rfl ?_
        refine XO.s (wg rfl rfl rfl) rfl ?_
        refine XO.rd rfl rfl rfl (Reads.pick_true rfl rfl) ?_
        refine XO.nil ?_
        refine XQ.then_normal ?_
        refine XC.cond rfl (fun _ => ?_) (fun hx => by cases hx)
        refine XC.seq ?_
        refine XC.region ?_
        refine XO.rd rfl rfl rfl (Reads.assign rfl) ?_
        refine XO.rd rfl rfl rfl (Reads.assign rfl) ?_
        refine XO.nil ?_
        refine XQ.then_normal ?_
        refine XC.ret ?_
        refine XQ.then_ret ?_
        refine XQ.dropn 3 ?_
        refine XQ.done2 (L := []) rfl rfl rfl (Im.le_refl _) ?_
        exact ⟨rfl, by rw [blame_no (by rw [full_any hok]; simp [*])], rfl⟩
      · skip
        refine XO.rd (wg rfl rfl rfl) rfl rfl (Reads.load_own k23 rfl (by first | exact OwnAt.of 0 rfl rfl | exact OwnAt.of 1 rfl rfl | exact OwnAt.of 2 rfl rfl | exact OwnAt.of 3 rfl rfl | exact OwnAt.of 4 rfl rfl | exact OwnAt.of 5 rfl rfl | exact OwnAt.of 6 rfl rfl | exact OwnAt.of 7 rfl rfl)) ?_
        refine XO.rd (wg rfl rfl rfl) rfl rfl (Reads.len_slice Tryd.underlying23 rfl) ?_
        refine XO.rd (wg rfl rfl rfl) rfl rfl (Reads.cmp rfl rfl rfl) ?_
        refine XO.rd rfl rfl rfl (Reads.pick_false rfl rfl) ?_
        refine XO.rd rfl rfl rfl (Reads.move rfl) ?_
        refine XO.split (d := 31) rfl (fun h4 => ?_) (fun h4 => ?_)
        · skip
          simp only [cmpInt, bne_iff_ne, ne_eq] at h4
          have hw8 : ¬ knows.length = 8 := by omega
          refine XO.s (wg rfl rfl rfl) rfl ?_
          refine XO.s (wg rfl rfl rfl) rfl ?_
          refine XO.s (wg rfl rfl rfl) rfl ?_
          refine XO.rd rfl rfl rfl (Reads.pick_true rfl rfl) ?_
          refine XO.nil ?_
          refine XQ.then_normal ?_
          refine XC.cond rfl (fun _ => ?_) (fun hx => by cases hx)
          refine XC.seq ?_
          refine XC.region ?_
          refine XO.rd rfl rfl rfl (Reads.assign rfl) ?_
          refine XO.rd rfl rfl rfl (Reads.assign rfl) ?_
          refine XO.nil ?_
          refine XQ.then_normal ?_
          refine XC.ret ?_
          refine XQ.then_ret ?_
          refine XQ.dropn 3 ?_
          refine XQ.done2 (L := []) rfl rfl rfl (Im.le_refl _) ?_
          exact ⟨rfl, by rw [blame_no (by simp [okKnows, hw8])], rfl⟩
        · skip
          simp only [cmpInt, bne_eq_false_iff_eq] at h4
          have hw8 : knows.length = 8 := by omega
          refine XO.rd (wg rfl rfl rfl) rfl rfl (Reads.load_own k23 rfl (by first | exact OwnAt.of 0 rfl rfl | exact OwnAt.of 1 rfl rfl | exact OwnAt.of 2 rfl rfl | exact OwnAt.of 3 rfl rfl | exact OwnAt.of 4 rfl rfl | exact OwnAt.of 5 rfl rfl | exact OwnAt.of 6 rfl rfl | exact OwnAt.of 7 rfl rfl)) ?_
          refine XO.rd (wg rfl rfl rfl) rfl rfl (Reads.move rfl) ?_
          refine XO.callp (wg rfl rfl rfl) rfl en58 (containsFunc_int aw cw knows 56 (fun n => !inB n 0 255) _ hW hwl en56 (fun k hk J => badSet_any knows[k] J)) ⟨rfl, rfl, trivial⟩ ?_
          refine XO.rd rfl rfl rfl (Reads.pick_false rfl rfl) ?_
          refine XO.nil ?_
          refine XQ.then_normal ?_
          refine XC.cond rfl (fun h5 => ?_) (fun h5 => ?_)
          · skip
            refine XC.seq ?_
            refine XC.region ?_
            refine XO.rd rfl rfl rfl (Reads.assign rfl) ?_
            refine XO.rd rfl rfl rfl (Reads.assign rfl) ?_
            refine XO.nil ?_
            refine XQ.then_normal ?_
            refine XC.ret ?_
            refine XQ.then_ret ?_
            refine XQ.dropn 3 ?_
            refine XQ.done2 (L := []) rfl rfl rfl (Im.le_refl _) ?_
            exact ⟨rfl, by rw [blame_no (by rw [okKnows_any hw8]; simp [*])], rfl⟩
          · skip
            have hwk := okKnows_in h5
            refine XC.skip ?_
            refine XQ.then_normal ?_
            refine XC.seq ?_
            refine XC.region ?_
            refine XO.rd rfl rfl rfl (bd53 (vs := [(0, .int .i64 (-1))]) #[.int .i64 (-1), .int .i64 0, .string ⟨#[]⟩] ⟨rfl, rfl, trivial⟩ rfl) ?_
            refine XO.rd rfl rfl rfl (bd84 (vs := [(0, .agg #[.int .i64 (-1), .int .i64 0, .string ⟨#[]⟩])]) (lastH x 0).toArray ⟨rfl, rfl, trivial⟩ rfl) ?_
            refine XO.alloc (cs := #[.int .i64 0, .int .i64 0, .string ⟨#[]⟩, .string ⟨#[]⟩]) rfl rfl zo84 rfl (fun b10 => ?_)
            refine XO.store_agg (vs := lastH x 0) 0 rfl z84 rfl rfl (by simp [Value.oneCell']) rfl (by simp) ?_
            refine XO.nil ?_
            refine XQ.then_normal ?_
            refine XC.seq ?_
            refine XC.region ?_
            refine XO.rd rfl rfl rfl (Reads.load_whole k37 z37 rfl (by first | exact WholeAt.of 0 rfl | exact WholeAt.of 1 rfl | exact WholeAt.of 2 rfl | exact WholeAt.of 3 rfl | exact WholeAt.of 4 rfl | exact WholeAt.of 5 rfl | exact WholeAt.of 6 rfl | exact WholeAt.of 7 rfl) (by rfl)) ?_
            refine XO.callo (vs := [_]) (L1 := []) rfl rfl rfl en49 ⟨rfl, trivial⟩ (hands_any x a cap I) (List.Perm.refl _) ?_
            rintro v' J' L' _ ⟨bh, rfl, hJ', rfl⟩
            replace hJ' := hJ'.symm
            subst hJ'
            refine XO.rd rfl rfl rfl (Reads.makeFunc (fi := []) (fv := []) (ca := [.tmp 10, .tmp 3, .tmp 4]) (cv := [_, _, _]) trivial ⟨rfl, rfl, rfl, trivial⟩) ?_
            refine XO.callo (vs := [_, _]) (L1 := some (bh, .cells (x.cs a cap).toArray 37 (0, 0)) :: [some (b10, .cells (lastH x 0).toArray 84 (0, 0)), some (b3, .cells #[.slice ak keys.length ck] 29 (0, 0)), some (b4, .cells #[.slice aw knows.length cw] 23 (0, 0))]) rfl rfl rfl en48 ⟨rfl, rfl, trivial⟩ (first_any bh x a cap 59 #[.pointer (some ⟨b10, 0, none⟩), .pointer (some ⟨b3, 0, none⟩), .pointer (some ⟨b4, 0, none⟩)] (fun j => [some (b10, .cells (lastH x j).toArray 84 (0, 0)), some (b3, .cells #[.slice ak keys.length ck] 29 (0, 0)), some (b4, .cells #[.slice aw knows.length cw] 23 (0, 0))]) (bad keys knows x) I hn9 hsz hin hdi hA en59 (fun j hj => blame3_any b10 b3 b4 x j ak aw ck cw keys knows I hK hk8 hks hW hw8 hwk hf hj hG)) (perm_take [0, 0, 2, 1]) ?_
            rintro v' J' L' _ ⟨rfl, hJ', kx, rfl⟩
            replace hJ' := hJ'.symm
            subst hJ'
            refine XO.rd rfl rfl rfl (Reads.move rfl) ?_
            refine XO.rd rfl rfl rfl (Reads.extract rfl rfl) ?_
            refine XO.rd rfl rfl rfl (Reads.extract rfl rfl) ?_
            refine XO.alloc (cs := #[.int .i64 0, .int .i64 0, .string ⟨#[]⟩, .string ⟨#[]⟩]) rfl rfl zo84 rfl (fun b12 => ?_)
            refine XO.rd rfl rfl rfl (Reads.assign rfl) ?_
            refine XO.store_agg (vs := fHand x (firstI (bad keys knows x) x.hs.length)) 0 rfl z84 rfl rfl (by simp [Value.oneCell']) rfl (by simp) ?_
            refine XO.nil ?_
            refine XQ.then_normal ?_
            refine XC.seq ?_
            refine XC.region ?_
            refine XO.rd rfl rfl rfl (Reads.move rfl) ?_
            refine XO.rd rfl rfl rfl (Reads.assign rfl) ?_
            refine XO.rd rfl rfl rfl (Reads.assign rfl) ?_
            refine XO.nil ?_
            refine XQ.then_normal ?_
            refine XC.ret ?_
            refine XQ.dropn 5 ?_
            refine XQ.done2 (L := []) rfl rfl rfl (Im.le_refl _) ?_
            exact ⟨rfl, by rw [blame_yes hf (by rw [full_any hok]; simp [*]) (by rw [okKnows_any hw8]; simp [*])], rfl⟩

end Go.Proofs.YtmlliafhpbfdbaaDoor
