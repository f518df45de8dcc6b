/- Walks of layer 6: the reference's data. -/
import Derived.Test.YtlgfpieokaegiaaB1
namespace Go.Proofs.Ytlgfpieokaegiaa
open Go.Xe

theorem pickR_any (c n : Int) (I : Im) (hc : In64 c) (hn : 0 < n) : FC Try.prog 38 [.int .i64 c, .int .i64 n] I (fun u I' => u = .int .i64 (pickI c n) ∧ I' = I) := by
  have hc1 := hc.1
  have hc2 := hc.2
  refine FSo.intro (n := 13) Try.func38 rfl rfl rfl (fun K Lf => ?_)
  refine XC.seq ?_
  refine XC.region ?_
  refine XO.rd rfl rfl rfl (Reads.assign rfl) ?_
  refine XO.nil ?_
  refine XQ.then_normal ?_
  refine XC.seq ?_
  refine XC.seq ?_
  refine XC.region ?_
  refine XO.rd rfl rfl rfl (Reads.move rfl) ?_
  refine XO.rd rfl rfl rfl (Reads.cmp rfl rfl rfl) ?_
  refine XO.nil ?_
  refine XQ.then_normal ?_
  refine XC.cond rfl (fun h1 => ?_) (fun h1 => ?_)
  · skip
    simp [cmpInt] at h1
    refine XC.region ?_
    refine XO.rd rfl rfl rfl (Reads.move rfl) ?_
    refine XO.rd rfl rfl rfl (Reads.add rfl rfl (by omega)) ?_
    refine XO.rd rfl rfl rfl (Reads.neg rfl (by omega)) ?_
    refine XO.rd rfl rfl rfl (Reads.assign rfl) ?_
    refine XO.nil ?_
    refine XQ.then_normal ?_
    refine XC.seq ?_
    refine XC.region ?_
    refine XO.rd rfl rfl rfl (Reads.move rfl) ?_
    refine XO.rd rfl rfl rfl (Reads.move rfl) ?_
    refine XO.rd rfl rfl rfl (Reads.rem rfl rfl (by omega) (by omega)) ?_
    refine XO.rd rfl rfl rfl (Reads.assign rfl) ?_
    refine XO.nil ?_
    refine XQ.then_normal ?_
    refine XC.ret ?_
    refine XQ.done1 rfl rfl (Im.le_refl _) ?_
    exact ⟨rfl, by simp only [pickI]; rw [if_pos (by omega)], rfl⟩
  · skip
    simp [cmpInt] at h1
    refine XC.skip ?_
    refine XQ.then_normal ?_
    refine XC.seq ?_
    refine XC.region ?_
    refine XO.rd rfl rfl rfl (Reads.move rfl) ?_
    refine XO.rd rfl rfl rfl (Reads.move rfl) ?_
    refine XO.rd rfl rfl rfl (Reads.rem rfl rfl (by omega) (by omega)) ?_
    refine XO.rd rfl rfl rfl (Reads.assign rfl) ?_
    refine XO.nil ?_
    refine XQ.then_normal ?_
    refine XC.ret ?_
    refine XQ.done1 rfl rfl (Im.le_refl _) ?_
    exact ⟨rfl, by simp only [pickI]; rw [if_neg (by omega)], rfl⟩

theorem pickL_any (c n : Int) (I : Im) (hc : In64 c) (hn : 0 < n) : FC Try.prog 13 [.int .i64 c, .int .i64 n] I (fun u I' => u = .int .i64 (pickI c n) ∧ I' = I) := by
  have hc1 := hc.1
  have hc2 := hc.2
  refine FSo.intro (n := 13) Try.func13 rfl rfl rfl (fun K Lf => ?_)
  refine XC.seq ?_
  refine XC.region ?_
  refine XO.rd rfl rfl rfl (Reads.assign rfl) ?_
  refine XO.nil ?_
  refine XQ.then_normal ?_
  refine XC.seq ?_
  refine XC.seq ?_
  refine XC.region ?_
  refine XO.rd rfl rfl rfl (Reads.move rfl) ?_
  refine XO.rd rfl rfl rfl (Reads.cmp rfl rfl rfl) ?_
  refine XO.nil ?_
  refine XQ.then_normal ?_
  refine XC.cond rfl (fun h1 => ?_) (fun h1 => ?_)
  · skip
    simp [cmpInt] at h1
    refine XC.region ?_
    refine XO.rd rfl rfl rfl (Reads.move rfl) ?_
    refine XO.rd rfl rfl rfl (Reads.add rfl rfl (by omega)) ?_
    refine XO.rd rfl rfl rfl (Reads.neg rfl (by omega)) ?_
    refine XO.rd rfl rfl rfl (Reads.assign rfl) ?_
    refine XO.nil ?_
    refine XQ.then_normal ?_
    refine XC.seq ?_
    refine XC.region ?_
    refine XO.rd rfl rfl rfl (Reads.move rfl) ?_
    refine XO.rd rfl rfl rfl (Reads.move rfl) ?_
    refine XO.rd rfl rfl rfl (Reads.rem rfl rfl (by omega) (by omega)) ?_
    refine XO.rd rfl rfl rfl (Reads.assign rfl) ?_
    refine XO.nil ?_
    refine XQ.then_normal ?_
    refine XC.ret ?_
    refine XQ.done1 rfl rfl (Im.le_refl _) ?_
    exact ⟨rfl, by simp only [pickI]; rw [if_pos (by omega)], rfl⟩
  · skip
    simp [cmpInt] at h1
    refine XC.skip ?_
    refine XQ.then_normal ?_
    refine XC.seq ?_
    refine XC.region ?_
    refine XO.rd rfl rfl rfl (Reads.move rfl) ?_
    refine XO.rd rfl rfl rfl (Reads.move rfl) ?_
    refine XO.rd rfl rfl rfl (Reads.rem rfl rfl (by omega) (by omega)) ?_
    refine XO.rd rfl rfl rfl (Reads.assign rfl) ?_
    refine XO.nil ?_
    refine XQ.then_normal ?_
    refine XC.ret ?_
    refine XQ.done1 rfl rfl (Im.le_refl _) ?_
    exact ⟨rfl, by simp only [pickI]; rw [if_neg (by omega)], rfl⟩

theorem ints_any (a c : Option Addr) (ca cc : Nat) (xs ys : List Int) (I : Im) (hA : Arr I a xs) (hC : Arr I c ys) (hl : xs.length ≤ 1000000)  : FC Try.prog 25 [.slice a xs.length ca, .slice c ys.length cc] I (fun u I' => u = .bool (decide (xs = ys)) ∧ I' = I) := by
  refine FSo.intro (n := 26) Try.func25 rfl rfl rfl (fun K Lf => ?_)
  refine XC.seq ?_
  refine XC.region ?_
  refine XO.rd rfl rfl rfl (Reads.assign rfl) ?_
  refine XO.nil ?_
  refine XQ.then_normal ?_
  refine XC.seq ?_
  refine XC.seq ?_
  refine XC.region ?_
  refine XO.rd rfl rfl rfl (Reads.move rfl) ?_
  refine XO.rd rfl rfl rfl (Reads.len_slice Try.underlying22 rfl) ?_
  refine XO.rd rfl rfl rfl (Reads.move rfl) ?_
  refine XO.rd rfl rfl rfl (Reads.len_slice Try.underlying22 rfl) ?_
  refine XO.rd rfl rfl rfl (Reads.cmp rfl rfl rfl) ?_
  refine XO.nil ?_
  refine XQ.then_normal ?_
  refine XC.cond rfl (fun h1 => ?_) (fun h1 => ?_)
  · skip
    simp [cmpInt] at h1
    have hne : ¬ xs = ys := fun e => by subst e; omega
    refine XC.seq ?_
    refine XC.region ?_
    refine XO.rd rfl rfl rfl (Reads.assign rfl) ?_
    refine XO.nil ?_
    refine XQ.then_normal ?_
    refine XC.ret ?_
    refine XQ.then_ret ?_
    refine XQ.done1 rfl rfl (Im.le_refl _) ?_
    exact ⟨rfl, by simp [hne], rfl⟩
  · skip
    simp [cmpInt] at h1
    have hlen : xs.length = ys.length := by omega
    refine XC.skip ?_
    refine XQ.then_normal ?_
    refine XC.seq ?_
    refine XC.seq ?_
    refine XC.region ?_
    refine XO.rd rfl rfl rfl (Reads.assign rfl) ?_
    refine XO.nil ?_
    refine XQ.then_normal ?_
    refine XC.block ?_
    refine XC.loop (ι := Nat) (fun q => [(0, .slice a xs.length ca), (1, .slice c ys.length cc), (5, .int .i64 q)]) (fun q => I) (fun q => [] ++ Lf) (fun q => q ≤ xs.length ∧ ∀ (j : Nat) (h : j < xs.length) (h2 : j < ys.length), j < q → xs[j] = ys[j]) (fun q => xs.length - q) 0 ⟨Nat.zero_le _, fun _ _ _ h => absurd h (Nat.not_lt_zero _)⟩ ⟨rfl, rfl, rfl, trivial⟩ rfl (List.Perm.refl _) (fun k hk => ?_)
    obtain ⟨hk1, hk2⟩ := hk
    refine XC.seq ?_
    refine XC.seq ?_
    refine XC.region ?_
    refine XO.rd rfl rfl rfl (Reads.move rfl) ?_
    refine XO.rd rfl rfl rfl (Reads.move rfl) ?_
    refine XO.rd rfl rfl rfl (Reads.len_slice Try.underlying22 rfl) ?_
    refine XO.rd rfl rfl rfl (Reads.cmp rfl rfl rfl) ?_
    refine XO.nil ?_
    refine XQ.then_normal ?_
    refine XC.cond rfl (fun h2 => ?_) (fun h2 => ?_)
    · skip
      simp only [cmpInt, decide_eq_true_eq] at h2
      have hk3 : k < xs.length := by omega
      have hk4 : k < ys.length := by omega
      refine XC.skip ?_
      refine XQ.then_normal ?_
      refine XC.seq ?_
      refine XC.block ?_
      refine XC.seq ?_
      refine XC.draw m_mixed none (.pure 0 (.pure 1 (.pure 2 (.pure 3 (.pure 4 (.pure 5 (.pure 6 (.pure 7 (.pure 8 (.done)))))))))) _ (by kernel_rfl) (List.Sublist.refl _) ?_
      refine XR.rd rfl rfl rfl (Reads.move rfl) ?_
      refine XR.rd rfl rfl rfl (Reads.move rfl) ?_
      refine XR.rd rfl rfl rfl (Reads.index_slot Try.underlying22 z3 rfl rfl (by omega) (hA.isSome (by decide) (by omega)) rfl) ?_
      refine XR.rd rfl rfl rfl (Reads.load_at k3 rfl (hA.int hk3)) ?_
      refine XR.rd rfl rfl rfl (Reads.move rfl) ?_
      refine XR.rd rfl rfl rfl (Reads.move rfl) ?_
      refine XR.rd rfl rfl rfl (Reads.index_slot Try.underlying22 z3 rfl rfl (by omega) (hC.isSome (by decide) (by omega)) rfl) ?_
      refine XR.rd rfl rfl rfl (Reads.load_at k3 rfl (hC.int hk4)) ?_
      refine XR.rd rfl rfl rfl (Reads.cmp rfl rfl rfl) ?_
      refine XR.nil ?_
      refine XQ.then_normal ?_
      refine XC.cond rfl (fun h3 => ?_) (fun h3 => ?_)
      · skip
        simp [cmpInt] at h3
        have hne : ¬ xs = ys := fun e => by subst e; exact h3 rfl
        refine XC.seq ?_
        refine XC.region ?_
        refine XO.rd rfl rfl rfl (Reads.assign rfl) ?_
        refine XO.nil ?_
        refine XQ.then_normal ?_
        refine XC.ret ?_
        refine XQ.block_ret ?_
        refine XQ.then_ret ?_
        refine XQ.then_ret ?_
        refine XQ.block_ret ?_
        refine XQ.then_ret ?_
        refine XQ.done1 rfl rfl (Im.le_refl _) ?_
        exact ⟨rfl, by simp [hne], rfl⟩
      · skip
        simp [cmpInt] at h3
        refine XC.skip ?_
        refine XQ.block_normal ?_
        refine XQ.then_normal ?_
        refine XC.region ?_
        refine XO.rd rfl rfl rfl (Reads.move rfl) ?_
        refine XO.rd rfl rfl rfl (Reads.add rfl rfl (by omega)) ?_
        refine XO.rd rfl rfl rfl (Reads.assign rfl) ?_
        refine XO.nil ?_
        refine XQ.back (k + 1) ⟨by omega, fun j h h2 hj => by rcases Nat.lt_succ_iff_lt_or_eq.1 hj with h3 | rfl; exact hk2 j h h2 h3; assumption⟩ (by omega) ⟨rfl, rfl, rfl, trivial⟩ rfl (List.Perm.refl _)
    · skip
      simp only [cmpInt, decide_eq_false_iff_not] at h2
      refine XC.exit ?_
      refine XQ.then_exit ?_
      refine XQ.then_exit ?_
      refine XQ.block_exit ?_
      refine XQ.then_normal ?_
      refine XC.seq ?_
      refine XC.region ?_
      refine XO.rd rfl rfl rfl (Reads.assign rfl) ?_
      refine XO.nil ?_
      refine XQ.then_normal ?_
      refine XC.ret ?_
      refine XQ.done1 rfl rfl (Im.le_refl _) ?_
      have he : xs = ys := List.ext_getElem hlen (fun j h h2 => hk2 j h h2 (by omega))
      exact ⟨rfl, by simp [he], rfl⟩

theorem tables_any (a c : Option Addr) (ca cc : Nat) (xs ys : List (List Int)) (I : Im) (hA : Arr I a xs) (hC : Arr I c ys) (hl : xs.length ≤ 1000000) (hr : ∀ r ∈ xs, r.length ≤ 1000000) : FC Try.prog 24 [.slice a xs.length ca, .slice c ys.length cc] I (fun u I' => u = .bool (decide (xs = ys)) ∧ I' = I) := by
  refine FSo.intro (n := 27) Try.func24 rfl rfl rfl (fun K Lf => ?_)
  refine XC.seq ?_
  refine XC.region ?_
  refine XO.rd rfl rfl rfl (Reads.assign rfl) ?_
  refine XO.nil ?_
  refine XQ.then_normal ?_
  refine XC.seq ?_
  refine XC.seq ?_
  refine XC.region ?_
  refine XO.rd rfl rfl rfl (Reads.move rfl) ?_
  refine XO.rd rfl rfl rfl (Reads.len_slice Try.underlying38 rfl) ?_
  refine XO.rd rfl rfl rfl (Reads.move rfl) ?_
  refine XO.rd rfl rfl rfl (Reads.len_slice Try.underlying38 rfl) ?_
  refine XO.rd rfl rfl rfl (Reads.cmp rfl rfl rfl) ?_
  refine XO.nil ?_
  refine XQ.then_normal ?_
  refine XC.cond rfl (fun h1 => ?_) (fun h1 => ?_)
  · skip
    simp [cmpInt] at h1
    have hne : ¬ xs = ys := fun e => by subst e; omega
    refine XC.seq ?_
    refine XC.region ?_
    refine XO.rd rfl rfl rfl (Reads.assign rfl) ?_
    refine XO.nil ?_
    refine XQ.then_normal ?_
    refine XC.ret ?_
    refine XQ.then_ret ?_
    refine XQ.done1 rfl rfl (Im.le_refl _) ?_
    exact ⟨rfl, by simp [hne], rfl⟩
  · skip
    simp [cmpInt] at h1
    have hlen : xs.length = ys.length := by omega
    refine XC.skip ?_
    refine XQ.then_normal ?_
    refine XC.seq ?_
    refine XC.seq ?_
    refine XC.region ?_
    refine XO.rd rfl rfl rfl (Reads.assign rfl) ?_
    refine XO.nil ?_
    refine XQ.then_normal ?_
    refine XC.block ?_
    refine XC.loop (ι := Nat) (fun q => [(0, .slice a xs.length ca), (1, .slice c ys.length cc), (5, .int .i64 q)]) (fun q => I) (fun q => [] ++ Lf) (fun q => q ≤ xs.length ∧ ∀ (j : Nat) (h : j < xs.length) (h2 : j < ys.length), j < q → xs[j] = ys[j]) (fun q => xs.length - q) 0 ⟨Nat.zero_le _, fun _ _ _ h => absurd h (Nat.not_lt_zero _)⟩ ⟨rfl, rfl, rfl, trivial⟩ rfl (List.Perm.refl _) (fun k hk => ?_)
    obtain ⟨hk1, hk2⟩ := hk
    refine XC.seq ?_
    refine XC.seq ?_
    refine XC.region ?_
    refine XO.rd rfl rfl rfl (Reads.move rfl) ?_
    refine XO.rd rfl rfl rfl (Reads.move rfl) ?_
    refine XO.rd rfl rfl rfl (Reads.len_slice Try.underlying38 rfl) ?_
    refine XO.rd rfl rfl rfl (Reads.cmp rfl rfl rfl) ?_
    refine XO.nil ?_
    refine XQ.then_normal ?_
    refine XC.cond rfl (fun h2 => ?_) (fun h2 => ?_)
    · skip
      simp only [cmpInt, decide_eq_true_eq] at h2
      have hk3 : k < xs.length := by omega
      have hk4 : k < ys.length := by omega
      obtain ⟨v1, hv1, hs1⟩ := hA.sl hk3
      obtain ⟨a1, c1, rfl, _, hA1⟩ := hs1.ex
      obtain ⟨v2, hv2, hs2⟩ := hC.sl hk4
      obtain ⟨a2, c2, rfl, _, hA2⟩ := hs2.ex
      refine XC.skip ?_
      refine XQ.then_normal ?_
      refine XC.seq ?_
      refine XC.block ?_
      refine XC.seq ?_
      refine XC.draw m_mixed none (.pure 0 (.pure 1 (.pure 2 (.pure 3 (.pure 4 (.pure 5 (.pure 6 (.pure 7 (.eff 8 (.pure 9 (.done))))))))))) _ (by kernel_rfl) (List.Sublist.refl _) ?_
      refine XR.rd rfl rfl rfl (Reads.move rfl) ?_
      refine XR.rd rfl rfl rfl (Reads.move rfl) ?_
      refine XR.rd rfl rfl rfl (Reads.index_slot Try.underlying38 z22 rfl rfl (by omega) hv1.isSome rfl) ?_
      refine XR.rd rfl rfl rfl (Reads.load_at k22 rfl hv1) ?_
      refine XR.rd rfl rfl rfl (Reads.move rfl) ?_
      refine XR.rd rfl rfl rfl (Reads.move rfl) ?_
      refine XR.rd rfl rfl rfl (Reads.index_slot Try.underlying38 z22 rfl rfl (by omega) hv2.isSome rfl) ?_
      refine XR.rd rfl rfl rfl (Reads.load_at k22 rfl hv2) ?_
      refine XR.callp rfl rfl rfl en25 (ints_any a1 a2 c1 c2 xs[k] ys[k] _ hA1 hA2 (hr _ (List.getElem_mem hk3))) ⟨rfl, rfl, trivial⟩ (List.Sublist.refl _) ?_
      refine XR.rd rfl rfl rfl (Reads.not rfl) ?_
      refine XR.nil ?_
      refine XQ.then_normal ?_
      refine XC.cond rfl (fun h3 => ?_) (fun h3 => ?_)
      · skip
        simp at h3
        have hne : ¬ xs = ys := fun e => by subst e; exact h3 rfl
        refine XC.seq ?_
        refine XC.region ?_
        refine XO.rd rfl rfl rfl (Reads.assign rfl) ?_
        refine XO.nil ?_
        refine XQ.then_normal ?_
        refine XC.ret ?_
        refine XQ.block_ret ?_
        refine XQ.then_ret ?_
        refine XQ.then_ret ?_
        refine XQ.block_ret ?_
        refine XQ.then_ret ?_
        refine XQ.done1 rfl rfl (Im.le_refl _) ?_
        exact ⟨rfl, by simp [hne], rfl⟩
      · skip
        simp at h3
        refine XC.skip ?_
        refine XQ.block_normal ?_
        refine XQ.then_normal ?_
        refine XC.region ?_
        refine XO.rd rfl rfl rfl (Reads.move rfl) ?_
        refine XO.rd rfl rfl rfl (Reads.add rfl rfl (by omega)) ?_
        refine XO.rd rfl rfl rfl (Reads.assign rfl) ?_
        refine XO.nil ?_
        refine XQ.back (k + 1) ⟨by omega, fun j h h2 hj => by rcases Nat.lt_succ_iff_lt_or_eq.1 hj with h3 | rfl; exact hk2 j h h2 h3; assumption⟩ (by omega) ⟨rfl, rfl, rfl, trivial⟩ rfl (List.Perm.refl _)
    · skip
      simp only [cmpInt, decide_eq_false_iff_not] at h2
      refine XC.exit ?_
      refine XQ.then_exit ?_
      refine XQ.then_exit ?_
      refine XQ.block_exit ?_
      refine XQ.then_normal ?_
      refine XC.seq ?_
      refine XC.region ?_
      refine XO.rd rfl rfl rfl (Reads.assign rfl) ?_
      refine XO.nil ?_
      refine XQ.then_normal ?_
      refine XC.ret ?_
      refine XQ.done1 rfl rfl (Im.le_refl _) ?_
      have he : xs = ys := List.ext_getElem hlen (fun j h h2 => hk2 j h h2 (by omega))
      exact ⟨rfl, by simp [he], rfl⟩

theorem hidden_any (x : Nums) (ah ab : Option Addr) (ch cb : Nat) (I : Im) (hx : x.Ok) (hH : Arr I ah x.hidden) (hB : Arr I ab x.bnds) : FC Try.prog 26 [.agg #[.int .i64 x.n, .slice ah x.hidden.length ch, .slice ab x.bnds.length cb, .int .i64 x.miss]] I (fun u I' => Sl I' u x.hid) := by
  have hp8 := pickI_range (c := x.n) (n := 8) (by omega)
  have hN := x.hidN_range
  refine FSo.intro (n := 31) Try.func26 rfl rfl rfl (fun K Lf => ?_)
  refine XC.seq ?_
  refine XC.region ?_
  refine XO.box_agg rfl rfl rfl (fun b1 => ?_)
  refine XO.rd rfl rfl rfl (Reads.assign rfl) ?_
  refine XO.nil ?_
  refine XQ.then_normal ?_
  refine XC.seq ?_
  refine XC.region ?_
  refine XO.rd rfl rfl rfl (Reads.assign rfl) ?_
  refine XO.nil ?_
  refine XQ.then_normal ?_
  refine XC.seq ?_
  refine XC.seq ?_
  refine XC.region ?_
  refine XO.rd rfl rfl rfl (Reads.assign rfl) ?_
  refine XO.nil ?_
  refine XQ.then_normal ?_
  refine XC.block ?_
  refine XC.vec0 3 ?_
  refine XC.loop (ι := Nat × Vec) (fun q => [(1, .pointer (some ⟨b1, 0, none⟩)), (3, q.2.val), (4, .int .i64 q.1)]) (fun q => I) (fun q => q.2.ent 3 :: some (b1, .cells #[.int .i64 x.n, .slice ah x.hidden.length ch, .slice ab x.bnds.length cb, .int .i64 x.miss] 25 (0, 0)) :: ([] ++ Lf)) (fun q => q.1 ≤ x.hidN ∧ q.2.Is 1 (rowC q.1 x.hidF)) (fun q => x.hidN - q.1) (0, Vec.nil) ⟨Nat.zero_le _, Vec.nil_is 1⟩ ⟨rfl, rfl, rfl, trivial⟩ rfl (List.Perm.refl _) (fun q hq => ?_)
  obtain ⟨k, V⟩ := q
  obtain ⟨hk1, hV⟩ := hq
  simp only at hk1 hV ⊢
  have hVl := row_len hV
  refine XC.seq ?_
  refine XC.seq ?_
  refine XC.region ?_
  refine XO.rd rfl rfl rfl (Reads.move rfl) ?_
  refine XO.rd rfl rfl rfl (fa25_0 rfl) ?_
  refine XO.rd rfl rfl rfl (Reads.load_own k3 rfl (by first | exact OwnAt.of 0 rfl rfl | exact OwnAt.of 1 rfl rfl | exact OwnAt.of 2 rfl rfl | exact OwnAt.of 3 rfl rfl | exact OwnAt.of 4 rfl rfl | exact OwnAt.of 5 rfl rfl)) ?_
  refine XO.callp rfl rfl en38 (pickR_any x.n 8 _ hx.n (by decide)) ⟨rfl, rfl, trivial⟩ ?_
  refine XO.rd rfl rfl rfl (Reads.add rfl rfl (by omega)) ?_
  refine XO.rd rfl rfl rfl (Reads.cmp rfl rfl rfl) ?_
  refine XO.nil ?_
  refine XQ.then_normal ?_
  refine XC.cond rfl (fun h1 => ?_) (fun h1 => ?_)
  · skip
    simp only [cmpInt, decide_eq_true_eq] at h1
    have hkN : k < x.hidN := by unfold Nums.hidN; omega
    refine XC.skip ?_
    refine XQ.then_normal ?_
    refine XC.seq ?_
    refine XC.block ?_
    refine XC.seq ?_
    refine XC.region ?_
    refine XO.rd rfl rfl rfl (Reads.assign rfl) ?_
    refine XO.nil ?_
    refine XQ.then_normal ?_
    refine XC.seq ?_
    refine XC.seq ?_
    refine XC.region ?_
    refine XO.rd rfl rfl rfl (Reads.move rfl) ?_
    refine XO.rd rfl rfl rfl (fa25_1 rfl) ?_
    refine XO.rd rfl rfl rfl (Reads.load_own k22 rfl (by first | exact OwnAt.of 0 rfl rfl | exact OwnAt.of 1 rfl rfl | exact OwnAt.of 2 rfl rfl | exact OwnAt.of 3 rfl rfl | exact OwnAt.of 4 rfl rfl | exact OwnAt.of 5 rfl rfl)) ?_
    refine XO.rd rfl rfl rfl (Reads.len_slice Try.underlying22 rfl) ?_
    refine XO.rd rfl rfl rfl (Reads.cmp rfl rfl rfl) ?_
    refine XO.nil ?_
    refine XQ.then_normal ?_
    refine XC.cond rfl (fun h2 => ?_) (fun h2 => ?_)
    · skip
      simp only [cmpInt, decide_eq_true_eq] at h2
      have hk3 : k < x.hidden.length := by omega
      have hv : x.hidF k = pickI x.hidden[k] 200 - 100 := by simp [Nums.hidF, hk3]
      have hp2 := pickI_range (c := x.hidden[k]) (n := 200) (by omega)
      refine XC.region ?_
      refine XO.rd rfl rfl rfl (fa25_1 rfl) ?_
      refine XO.rd rfl rfl rfl (Reads.load_own k22 rfl (by first | exact OwnAt.of 0 rfl rfl | exact OwnAt.of 1 rfl rfl | exact OwnAt.of 2 rfl rfl | exact OwnAt.of 3 rfl rfl | exact OwnAt.of 4 rfl rfl | exact OwnAt.of 5 rfl rfl)) ?_
      refine XO.rd rfl rfl rfl (Reads.move rfl) ?_
      refine XO.rd rfl rfl rfl (Reads.index_slot Try.underlying22 z3 rfl rfl (by omega) (hH.isSome (by decide) (by omega)) rfl) ?_
      refine XO.rd rfl rfl rfl (Reads.load_at k3 rfl (hH.int hk3)) ?_
      refine XO.callp rfl rfl en38 (pickR_any x.hidden[k] 200 _ (hx.hidden _ (List.getElem_mem hk3)) (by decide)) ⟨rfl, rfl, trivial⟩ ?_
      refine XO.rd rfl rfl rfl (Reads.sub rfl rfl (by omega)) ?_
      refine XO.rd rfl rfl rfl (Reads.assign rfl) ?_
      refine XO.nil ?_
      refine XQ.then_normal ?_
      refine XC.region ?_
      refine XO.rd rfl rfl rfl (Reads.move rfl) ?_
      refine XO.rd rfl rfl rfl (Reads.move (v := .int .i64 (x.hidF k)) (by rw [hv]; rfl)) ?_
      refine XO.buildL [.int .i64 (x.hidF k)] [.int .i64 (x.hidF k)] rfl rfl Try.underlying22 el3 rfl (by simp) ⟨rfl, rfl, trivial⟩ rfl rfl (fun bu => ?_)
      refine XO.append (V := V) 1 rfl rfl Try.underlying22 el3 rfl rfl hV rfl (.slice Try.underlying22 (.inr (.inr ⟨bu, 0, rfl, fun j v hj => ⟨#[.int .i64 (x.hidF k)], 3, (0, 0), by simp, by simpa using hj⟩⟩)) rfl (by simp [Value.oneCell'])) (by omega) (by omega) ?_
      intro V' hV' _
      refine XO.rd rfl rfl rfl (Reads.assign rfl) ?_
      refine XO.nil ?_
      refine XQ.block_normal ?_
      refine XQ.then_normal ?_
      refine XC.region ?_
      refine XO.rd rfl rfl rfl (Reads.move rfl) ?_
      refine XO.rd rfl rfl rfl (Reads.add rfl rfl (by omega)) ?_
      refine XO.rd rfl rfl rfl (Reads.assign rfl) ?_
      refine XO.nil ?_
      refine XQ.dropn 1 ?_
      refine XQ.back (k + 1, V') ⟨by omega, by rw [rowC_succ]; exact hV'⟩ (by simp only; omega) ⟨rfl, rfl, rfl, trivial⟩ rfl (List.Perm.refl _)
    · skip
      simp only [cmpInt, decide_eq_false_iff_not] at h2
      have hv : x.hidF k = 0 := by simp [Nums.hidF, show x.hidden[k]? = none from List.getElem?_eq_none (by omega)]
      refine XC.skip ?_
      refine XQ.then_normal ?_
      refine XC.region ?_
      refine XO.rd rfl rfl rfl (Reads.move rfl) ?_
      refine XO.rd rfl rfl rfl (Reads.move (v := .int .i64 (x.hidF k)) (by rw [hv]; rfl)) ?_
      refine XO.buildL [.int .i64 (x.hidF k)] [.int .i64 (x.hidF k)] rfl rfl Try.underlying22 el3 rfl (by simp) ⟨rfl, rfl, trivial⟩ rfl rfl (fun bu => ?_)
      refine XO.append (V := V) 1 rfl rfl Try.underlying22 el3 rfl rfl hV rfl (.slice Try.underlying22 (.inr (.inr ⟨bu, 0, rfl, fun j v hj => ⟨#[.int .i64 (x.hidF k)], 3, (0, 0), by simp, by simpa using hj⟩⟩)) rfl (by simp [Value.oneCell'])) (by omega) (by omega) ?_
      intro V' hV' _
      refine XO.rd rfl rfl rfl (Reads.assign rfl) ?_
      refine XO.nil ?_
      refine XQ.block_normal ?_
      refine XQ.then_normal ?_
      refine XC.region ?_
      refine XO.rd rfl rfl rfl (Reads.move rfl) ?_
      refine XO.rd rfl rfl rfl (Reads.add rfl rfl (by omega)) ?_
      refine XO.rd rfl rfl rfl (Reads.assign rfl) ?_
      refine XO.nil ?_
      refine XQ.dropn 1 ?_
      refine XQ.back (k + 1, V') ⟨by omega, by rw [rowC_succ]; exact hV'⟩ (by simp only; omega) ⟨rfl, rfl, rfl, trivial⟩ rfl (List.Perm.refl _)
  · skip
    simp only [cmpInt, decide_eq_false_iff_not] at h1
    have hkN : k = x.hidN := by unfold Nums.hidN at *; omega
    subst hkN
    refine XC.exit ?_
    refine XQ.then_exit ?_
    refine XQ.then_exit ?_
    refine XQ.block_exit ?_
    refine XQ.then_normal ?_
    refine XC.seq ?_
    refine XC.region ?_
    refine XO.rd rfl rfl rfl (Reads.move rfl) ?_
    refine XO.rd rfl rfl rfl (Reads.assign rfl) ?_
    refine XO.nil ?_
    refine XQ.then_normal ?_
    refine XC.ret ?_
    refine XQ.give_vec (fun hb => ?_)
    refine XQ.dropn 1 ?_
    refine XQ.done1 rfl rfl (Vec.le_give hb) ?_
    exact ⟨rfl, (Vec.sl (α := Int) (by decide) hV (flat_row I _ x.hidF) hb).2⟩

theorem misses_any (x : Nums) (ah ab : Option Addr) (ch cb : Nat) (I : Im) (hx : x.Ok) : FC Try.prog 35 [.agg #[.int .i64 x.n, .slice ah x.hidden.length ch, .slice ab x.bnds.length cb, .int .i64 x.miss]] I (fun u I' => u = .bool x.misses ∧ I' = I) := by
  refine FSo.intro (n := 7) Try.func35 rfl rfl rfl (fun K Lf => ?_)
  refine XC.seq ?_
  refine XC.region ?_
  refine XO.box_agg rfl rfl rfl (fun b1 => ?_)
  refine XO.rd rfl rfl rfl (Reads.assign rfl) ?_
  refine XO.nil ?_
  refine XQ.then_normal ?_
  refine XC.seq ?_
  refine XC.region ?_
  refine XO.rd rfl rfl rfl (fa25_3 rfl) ?_
  refine XO.rd rfl rfl rfl (Reads.load_own k3 rfl (by first | exact OwnAt.of 0 rfl rfl | exact OwnAt.of 1 rfl rfl | exact OwnAt.of 2 rfl rfl | exact OwnAt.of 3 rfl rfl | exact OwnAt.of 4 rfl rfl | exact OwnAt.of 5 rfl rfl)) ?_
  refine XO.callp rfl rfl en38 (pickR_any x.miss 3 _ hx.miss (by decide)) ⟨rfl, rfl, trivial⟩ ?_
  refine XO.rd rfl rfl rfl (Reads.cmp rfl rfl rfl) ?_
  refine XO.rd rfl rfl rfl (Reads.assign rfl) ?_
  refine XO.nil ?_
  refine XQ.then_normal ?_
  refine XC.ret ?_
  refine XQ.dropn 1 ?_
  refine XQ.done1 rfl rfl (Im.le_refl _) ?_
  exact ⟨rfl, rfl, rfl⟩

theorem made_any (x : Nums) (ah ab : Option Addr) (ch cb : Nat) (I : Im) (hx : x.Ok) (hH : Arr I ah x.hidden) (hB : Arr I ab x.bnds) : FC Try.prog 12 [.agg #[.int .i64 x.n, .slice ah x.hidden.length ch, .slice ab x.bnds.length cb, .int .i64 x.miss]] I (fun u I' => BtwV I' u x.made) := by
  have hN := x.hidN_range
  have hN0 : (0 : Int) < x.hidN := by omega
  refine FSo.intro (n := 102) Try.func12 rfl rfl rfl (fun K Lf => ?_)
  refine XC.seq ?_
  refine XC.region ?_
  refine XO.box_agg rfl rfl rfl (fun b1 => ?_)
  refine XO.alloc (cs := #[.int .i64 0, .slice none 0 0]) rfl rfl zo28 rfl (fun b2 => ?_)
  refine XO.nil ?_
  refine XQ.then_normal ?_
  refine XC.seq ?_
  refine XC.region ?_
  refine XO.rd rfl rfl rfl (Reads.load_whole k25 z25 rfl (by first | exact WholeAt.of 0 rfl | exact WholeAt.of 1 rfl | exact WholeAt.of 2 rfl | exact WholeAt.of 3 rfl | exact WholeAt.of 4 rfl | exact WholeAt.of 5 rfl | exact WholeAt.of 6 rfl) (by rfl)) ?_
  refine XO.call rfl rfl en26 (hidden_any x ah ab ch cb _ hx hH hB) ⟨rfl, trivial⟩ ?_
  rintro u I' hle hs
  obtain ⟨av, cv, rfl, _, hHd⟩ := hs.ex
  simp only [Nums.hid_len]
  have hB1 := hB.mono hle
  refine XO.rd rfl rfl rfl (Reads.assign rfl) ?_
  refine XO.nil ?_
  refine XQ.then_normal ?_
  refine XC.seq ?_
  refine XC.region ?_
  refine XO.rd rfl rfl rfl (Reads.move rfl) ?_
  refine XO.rd rfl rfl rfl (Reads.len_slice Try.underlying22 rfl) ?_
  refine XO.rd rfl rfl rfl (bd28 (vs := [(0, .int .i64 x.hidN)]) #[.int .i64 x.hidN, .slice none 0 0] ⟨rfl, rfl, trivial⟩ rfl) ?_
  refine XO.alloc (cs := #[.int .i64 0, .slice none 0 0]) rfl rfl zo28 rfl (fun b4 => ?_)
  refine XO.store_agg (vs := [.int .i64 x.hidN, .slice none 0 0]) 0 rfl z28 rfl rfl (by simp [Value.oneCell']) rfl (by simp) ?_
  refine XO.nil ?_
  refine XQ.then_normal ?_
  refine XC.seq ?_
  refine XC.seq ?_
  refine XC.region ?_
  refine XO.rd rfl rfl rfl (Reads.assign rfl) ?_
  refine XO.nil ?_
  refine XQ.then_normal ?_
  refine XC.block ?_
  refine XC.vec0 30 ?_
  refine XC.loop (ι := Nat × Vec) (fun q => [(1, .pointer (some ⟨b1, 0, none⟩)), (2, .pointer (some ⟨b2, 0, none⟩)), (3, .slice av x.hidN cv), (4, .pointer (some ⟨b4, 0, none⟩)), (5, .int .i64 q.1)]) (fun q => I') (fun q => some (b4, .cells #[.int .i64 x.hidN, q.2.val] 28 (0, 0)) :: q.2.ent 30 :: some (b2, .cells #[.int .i64 0, .slice none 0 0] 28 (0, 0)) :: some (b1, .cells #[.int .i64 x.n, .slice ah x.hidden.length ch, .slice ab x.bnds.length cb, .int .i64 x.miss] 25 (0, 0)) :: ([] ++ Lf)) (fun q => q.1 ≤ x.bnds.length ∧ q.1 ≤ 16 ∧ q.2.Is 3 (bndC ((x.bnds.take q.1).map x.bnd1))) (fun q => x.bnds.length - q.1) (0, Vec.nil) ⟨Nat.zero_le _, Nat.zero_le _, by simpa [bndC] using Vec.nil_is 3⟩ ⟨rfl, rfl, rfl, rfl, rfl, trivial⟩ rfl (perm_take [1]) (fun q hq => ?_)
  obtain ⟨k, V⟩ := q
  obtain ⟨hk1, hk16, hV⟩ := hq
  simp only at hk1 hk16 hV ⊢
  have hVl : V.len = k := by have := hV.len; rw [bndC_len] at this; simp at this; omega
  refine XC.seq ?_
  refine XC.seq ?_
  refine XC.region ?_
  refine XO.rd rfl rfl rfl (Reads.move rfl) ?_
  refine XO.rd rfl rfl rfl (fa25_2 rfl) ?_
  refine XO.rd rfl rfl rfl (Reads.load_own k23 rfl (by first | exact OwnAt.of 0 rfl rfl | exact OwnAt.of 1 rfl rfl | exact OwnAt.of 2 rfl rfl | exact OwnAt.of 3 rfl rfl | exact OwnAt.of 4 rfl rfl | exact OwnAt.of 5 rfl rfl | exact OwnAt.of 6 rfl rfl)) ?_
  refine XO.rd rfl rfl rfl (Reads.len_slice Try.underlying23 rfl) ?_
  refine XO.rd rfl rfl rfl (Reads.cmp rfl rfl rfl) ?_
  refine XO.rd rfl rfl rfl (Reads.move rfl) ?_
  refine XO.split (d := 18) rfl (fun h1 => ?_) (fun h1 => ?_)
  · skip
    simp only [cmpInt, decide_eq_true_eq] at h1
    have hk3 : k < x.bnds.length := by omega
    refine XO.rd (wg rfl rfl rfl) rfl rfl (Reads.move rfl) ?_
    refine XO.rd (wg rfl rfl rfl) rfl rfl (Reads.cmp rfl rfl rfl) ?_
    refine XO.rd rfl rfl rfl (Reads.pick_true rfl rfl) ?_
    refine XO.nil ?_
    refine XQ.then_normal ?_
    refine XC.cond rfl (fun h2 => ?_) (fun h2 => ?_)
    · skip
      simp only [cmpInt, decide_eq_true_eq] at h2
      have hB2 := hB1.tri hk3
      have hBa := hB1.addr (by decide) (show 0 < x.bnds.length by omega)
      have hf : (pickI x.bnds[k].1 x.hidN).toNat < x.hidN := by have := pickI_range (c := x.bnds[k].1) hN0; omega
      have ht : (pickI x.bnds[k].2.1 x.hidN).toNat < x.hidN := by have := pickI_range (c := x.bnds[k].2.1) hN0; omega
      have hff := x.hidF_range (pickI x.bnds[k].1 x.hidN).toNat
      have hft := x.hidF_range (pickI x.bnds[k].2.1 x.hidN).toNat
      have hfr := pickI_range (c := x.bnds[k].1) hN0
      have htr := pickI_range (c := x.bnds[k].2.1) hN0
      have hpr := pickI_range (c := x.bnds[k].2.2) (n := 30) (by omega)
      refine XC.skip ?_
      refine XQ.then_normal ?_
      refine XC.seq ?_
      refine XC.block ?_
      refine XC.seq ?_
      refine XC.join (ι := Nat) (fun q => [(1, .pointer (some ⟨b1, 0, none⟩)), (2, .pointer (some ⟨b2, 0, none⟩)), (3, .slice av x.hidN cv), (4, .pointer (some ⟨b4, 0, none⟩)), (5, .int .i64 k), (6, .pointer (some ⟨q, 0, none⟩))]) (fun q => I') (fun q => some (q, .cells #[.int .i64 (pickI x.bnds[k].1 x.hidN), .int .i64 (pickI x.bnds[k].2.1 x.hidN), .int .i64 0] 30 (0, 0)) :: some (b4, .cells #[.int .i64 x.hidN, V.val] 28 (0, 0)) :: V.ent 30 :: some (b2, .cells #[.int .i64 0, .slice none 0 0] 28 (0, 0)) :: some (b1, .cells #[.int .i64 x.n, .slice ah x.hidden.length ch, .slice ab x.bnds.length cb, .int .i64 x.miss] 25 (0, 0)) :: ([] ++ Lf)) (fun q => True) ?_ (fun b6 hb6 => ?_)
      · skip
        refine XC.draw m_mixed (some 20) (.pure 0 (.pure 1 (.pure 2 (.pure 3 (.pure 4 (.pure 5 (.pure 6 (.pure 7 (.pure 9 (.pure 10 (.pure 11 (.pure 12 (.pure 13 (.pure 14 (.pure 15 (.pure 16 (.alt 8 (.alt 17 (.pure 18 (.eff 19 (.eff 20 (.done)))) (.eff 19 (.eff 17 (.pure 18 (.eff 20 (.done)))))) (.eff 19 (.eff 8 (.eff 17 (.pure 18 (.eff 20 (.done))))))))))))))))))))))) _ (by kernel_rfl) (List.Sublist.refl _) ?_
        refine XR.rd rfl rfl rfl (fa25_2 rfl) ?_
        refine XR.rd rfl rfl rfl (Reads.load_own k23 rfl (by first | exact OwnAt.of 0 rfl rfl | exact OwnAt.of 1 rfl rfl | exact OwnAt.of 2 rfl rfl | exact OwnAt.of 3 rfl rfl | exact OwnAt.of 4 rfl rfl | exact OwnAt.of 5 rfl rfl | exact OwnAt.of 6 rfl rfl)) ?_
        refine XR.rd rfl rfl rfl (Reads.move rfl) ?_
        refine XR.rd rfl rfl rfl (Reads.index_slot (q := k * 3) Try.underlying23 z57 rfl rfl (by omega) (hB2.1.isSome) (by simp)) ?_
        refine XR.rd rfl rfl rfl (Reads.index_arr_slot (q := k * 3 + 0) Try.underlying57 z3 rfl rfl (by decide) hBa (by simp)) ?_
        refine XR.rd rfl rfl rfl (Reads.load_at k3 rfl hB2.1) ?_
        refine XR.rd rfl rfl rfl (fa28_0 rfl) ?_
        refine XR.rd rfl rfl rfl (Reads.load_own k3 rfl (by first | exact OwnAt.of 0 rfl rfl | exact OwnAt.of 1 rfl rfl | exact OwnAt.of 2 rfl rfl | exact OwnAt.of 3 rfl rfl | exact OwnAt.of 4 rfl rfl | exact OwnAt.of 5 rfl rfl | exact OwnAt.of 6 rfl rfl)) ?_
        refine XR.rd rfl rfl rfl (fa25_2 rfl) ?_
        refine XR.rd rfl rfl rfl (Reads.load_own k23 rfl (by first | exact OwnAt.of 0 rfl rfl | exact OwnAt.of 1 rfl rfl | exact OwnAt.of 2 rfl rfl | exact OwnAt.of 3 rfl rfl | exact OwnAt.of 4 rfl rfl | exact OwnAt.of 5 rfl rfl | exact OwnAt.of 6 rfl rfl)) ?_
        refine XR.rd rfl rfl rfl (Reads.move rfl) ?_
        refine XR.rd rfl rfl rfl (Reads.index_slot (q := k * 3) Try.underlying23 z57 rfl rfl (by omega) (hB2.1.isSome) (by simp)) ?_
        refine XR.rd rfl rfl rfl (Reads.index_arr_slot (q := k * 3 + 1) Try.underlying57 z3 rfl rfl (by decide) hBa (by simp)) ?_
        refine XR.rd rfl rfl rfl (Reads.load_at k3 rfl hB2.2.1) ?_
        refine XR.rd rfl rfl rfl (fa28_0 rfl) ?_
        refine XR.rd rfl rfl rfl (Reads.load_own k3 rfl (by first | exact OwnAt.of 0 rfl rfl | exact OwnAt.of 1 rfl rfl | exact OwnAt.of 2 rfl rfl | exact OwnAt.of 3 rfl rfl | exact OwnAt.of 4 rfl rfl | exact OwnAt.of 5 rfl rfl | exact OwnAt.of 6 rfl rfl)) ?_
        refine XR.alt ?_ ?_
        · skip
          refine XR.callp rfl rfl rfl en38 (pickR_any _ _ _ (hx.bnds _ (List.getElem_mem hk3)).1 hN0) ⟨rfl, rfl, trivial⟩ (List.Sublist.refl _) ?_
          refine XR.alt ?_ ?_
          · skip
            refine XR.callp rfl rfl rfl en38 (pickR_any _ _ _ (hx.bnds _ (List.getElem_mem hk3)).2.1 hN0) ⟨rfl, rfl, trivial⟩ (List.Sublist.refl _) ?_
            refine XR.rd rfl rfl rfl (bd30 (vs := [(0, .int .i64 (pickI x.bnds[k].1 x.hidN)), (1, .int .i64 (pickI x.bnds[k].2.1 x.hidN))]) #[.int .i64 (pickI x.bnds[k].1 x.hidN), .int .i64 (pickI x.bnds[k].2.1 x.hidN), .int .i64 0] ⟨rfl, rfl, rfl, rfl, trivial⟩ rfl) ?_
            refine XR.alloc (cs := #[.int .i64 0, .int .i64 0, .int .i64 0]) rfl rfl rfl zo30 rfl (List.Sublist.refl _) (fun b6 => ?_)
            refine XR.store_agg (vs := [.int .i64 (pickI x.bnds[k].1 x.hidN), .int .i64 (pickI x.bnds[k].2.1 x.hidN), .int .i64 0]) 0 rfl rfl z30 rfl rfl (by simp [Value.oneCell']) rfl (by simp) (.inl rfl) ?_
            refine XR.nil ?_
            refine XQ.joined b6 trivial ⟨rfl, rfl, rfl, rfl, rfl, rfl, trivial⟩ rfl (List.Perm.refl _)
          · skip
            refine XR.alloc (cs := #[.int .i64 0, .int .i64 0, .int .i64 0]) rfl rfl rfl zo30 rfl (List.Sublist.refl _) (fun b6 => ?_)
            refine XR.callp rfl rfl rfl en38 (pickR_any _ _ _ (hx.bnds _ (List.getElem_mem hk3)).2.1 hN0) ⟨rfl, rfl, trivial⟩ (List.sublist_cons_self _ _) ?_
            refine XR.rd rfl rfl rfl (bd30 (vs := [(0, .int .i64 (pickI x.bnds[k].1 x.hidN)), (1, .int .i64 (pickI x.bnds[k].2.1 x.hidN))]) #[.int .i64 (pickI x.bnds[k].1 x.hidN), .int .i64 (pickI x.bnds[k].2.1 x.hidN), .int .i64 0] ⟨rfl, rfl, rfl, rfl, trivial⟩ rfl) ?_
            refine XR.store_agg (vs := [.int .i64 (pickI x.bnds[k].1 x.hidN), .int .i64 (pickI x.bnds[k].2.1 x.hidN), .int .i64 0]) 0 rfl rfl z30 rfl rfl (by simp [Value.oneCell']) rfl (by simp) (.inl rfl) ?_
            refine XR.nil ?_
            refine XQ.joined b6 trivial ⟨rfl, rfl, rfl, rfl, rfl, rfl, trivial⟩ rfl (List.Perm.refl _)
        · skip
          refine XR.alloc (cs := #[.int .i64 0, .int .i64 0, .int .i64 0]) rfl rfl rfl zo30 rfl (List.Sublist.refl _) (fun b6 => ?_)
          refine XR.callp rfl rfl rfl en38 (pickR_any _ _ _ (hx.bnds _ (List.getElem_mem hk3)).1 hN0) ⟨rfl, rfl, trivial⟩ (List.sublist_cons_self _ _) ?_
          refine XR.callp rfl rfl rfl en38 (pickR_any _ _ _ (hx.bnds _ (List.getElem_mem hk3)).2.1 hN0) ⟨rfl, rfl, trivial⟩ (List.sublist_cons_self _ _) ?_
          refine XR.rd rfl rfl rfl (bd30 (vs := [(0, .int .i64 (pickI x.bnds[k].1 x.hidN)), (1, .int .i64 (pickI x.bnds[k].2.1 x.hidN))]) #[.int .i64 (pickI x.bnds[k].1 x.hidN), .int .i64 (pickI x.bnds[k].2.1 x.hidN), .int .i64 0] ⟨rfl, rfl, rfl, rfl, trivial⟩ rfl) ?_
          refine XR.store_agg (vs := [.int .i64 (pickI x.bnds[k].1 x.hidN), .int .i64 (pickI x.bnds[k].2.1 x.hidN), .int .i64 0]) 0 rfl rfl z30 rfl rfl (by simp [Value.oneCell']) rfl (by simp) (.inl rfl) ?_
          refine XR.nil ?_
          refine XQ.joined b6 trivial ⟨rfl, rfl, rfl, rfl, rfl, rfl, trivial⟩ rfl (List.Perm.refl _)
      · skip
        refine XQ.then_normal ?_
        refine XC.seq ?_
        refine XC.draw m_mixed (some 20) (.pure 0 (.pure 1 (.pure 2 (.pure 3 (.pure 4 (.pure 5 (.pure 6 (.pure 7 (.pure 8 (.pure 9 (.pure 10 (.pure 11 (.pure 12 (.pure 13 (.pure 14 (.pure 15 (.pure 16 (.eff 17 (.pure 18 (.pure 19 (.eff 20 (.done)))))))))))))))))))))) _ (by kernel_rfl) (List.Sublist.refl _) ?_
        refine XR.rd rfl rfl rfl (Reads.move rfl) ?_
        refine XR.rd rfl rfl rfl (fa30_1 rfl) ?_
        refine XR.rd rfl rfl rfl (Reads.load_own k3 rfl (by first | exact OwnAt.of 0 rfl rfl | exact OwnAt.of 1 rfl rfl | exact OwnAt.of 2 rfl rfl | exact OwnAt.of 3 rfl rfl | exact OwnAt.of 4 rfl rfl | exact OwnAt.of 5 rfl rfl | exact OwnAt.of 6 rfl rfl)) ?_
        refine XR.rd rfl rfl rfl (Reads.index_slot Try.underlying22 z3 rfl rfl (by omega) (row_int hHd ht).isSome rfl) ?_
        refine XR.rd rfl rfl rfl (Reads.load_at k3 rfl (row_int hHd ht)) ?_
        refine XR.rd rfl rfl rfl (Reads.move rfl) ?_
        refine XR.rd rfl rfl rfl (fa30_0 rfl) ?_
        refine XR.rd rfl rfl rfl (Reads.load_own k3 rfl (by first | exact OwnAt.of 0 rfl rfl | exact OwnAt.of 1 rfl rfl | exact OwnAt.of 2 rfl rfl | exact OwnAt.of 3 rfl rfl | exact OwnAt.of 4 rfl rfl | exact OwnAt.of 5 rfl rfl | exact OwnAt.of 6 rfl rfl)) ?_
        refine XR.rd rfl rfl rfl (Reads.index_slot Try.underlying22 z3 rfl rfl (by omega) (row_int hHd hf).isSome rfl) ?_
        refine XR.rd rfl rfl rfl (Reads.load_at k3 rfl (row_int hHd hf)) ?_
        refine XR.rd rfl rfl rfl (Reads.sub rfl rfl (by omega)) ?_
        refine XR.rd rfl rfl rfl (fa25_2 rfl) ?_
        refine XR.rd rfl rfl rfl (Reads.load_own k23 rfl (by first | exact OwnAt.of 0 rfl rfl | exact OwnAt.of 1 rfl rfl | exact OwnAt.of 2 rfl rfl | exact OwnAt.of 3 rfl rfl | exact OwnAt.of 4 rfl rfl | exact OwnAt.of 5 rfl rfl | exact OwnAt.of 6 rfl rfl)) ?_
        refine XR.rd rfl rfl rfl (Reads.move rfl) ?_
        refine XR.rd rfl rfl rfl (Reads.index_slot (q := k * 3) Try.underlying23 z57 rfl rfl (by omega) (hB2.1.isSome) (by simp)) ?_
        refine XR.rd rfl rfl rfl (Reads.index_arr_slot (q := k * 3 + 2) Try.underlying57 z3 rfl rfl (by decide) hBa (by simp)) ?_
        refine XR.rd rfl rfl rfl (Reads.load_at k3 rfl hB2.2.2) ?_
        refine XR.callp rfl rfl rfl en38 (pickR_any _ 30 _ (hx.bnds _ (List.getElem_mem hk3)).2.2 (by decide)) ⟨rfl, rfl, trivial⟩ (List.Sublist.refl _) ?_
        refine XR.rd rfl rfl rfl (Reads.add rfl rfl (by omega)) ?_
        refine XR.rd rfl rfl rfl (fa30_2 rfl) ?_
        refine XR.store 0 rfl rfl z3 rfl rfl rfl rfl (by simp) (.inl rfl) ?_
        refine XR.nil ?_
        refine XQ.then_normal ?_
        refine XC.region ?_
        refine XO.rd rfl rfl rfl (fa28_1 rfl) ?_
        refine XO.rd rfl rfl rfl (Reads.load_own k26 rfl (by first | exact OwnAt.of 0 rfl rfl | exact OwnAt.of 1 rfl rfl | exact OwnAt.of 2 rfl rfl | exact OwnAt.of 3 rfl rfl | exact OwnAt.of 4 rfl rfl | exact OwnAt.of 5 rfl rfl | exact OwnAt.of 6 rfl rfl)) ?_
        refine XO.rd rfl rfl rfl (Reads.load_whole (c := (x.bnd1 x.bnds[k]).cs.toArray) k30 z30 rfl (WholeAt.of 0 rfl) rfl) ?_
        refine XO.buildL [.agg (x.bnd1 x.bnds[k]).cs.toArray] (x.bnd1 x.bnds[k]).cs rfl rfl Try.underlying26 el30 rfl (by simp) ⟨rfl, rfl, trivial⟩ rfl rfl (fun bu => ?_)
        refine XO.append (V := V) 3 rfl rfl Try.underlying26 el30 rfl rfl hV rfl (.slice Try.underlying26 (.inr (.inr ⟨bu, 0, rfl, fun j v hj => ⟨(x.bnd1 x.bnds[k]).cs.toArray, 30, (0, 0), by simp, by simpa using hj⟩⟩)) rfl (by simp [Bnd.cs, Value.oneCell'])) (by omega) (by omega) ?_
        intro V' hV' _
        rw [← x.bnd0_succ hk3] at hV'
        refine XO.rd rfl rfl rfl (fa28_1 rfl) ?_
        refine XO.store 2 rfl z26 rfl rfl rfl rfl (by simp) ?_
        refine XO.nil ?_
        refine XQ.block_normal ?_
        refine XQ.then_normal ?_
        refine XC.region ?_
        refine XO.rd rfl rfl rfl (Reads.move rfl) ?_
        refine XO.rd rfl rfl rfl (Reads.add rfl rfl (by omega)) ?_
        refine XO.rd rfl rfl rfl (Reads.assign rfl) ?_
        refine XO.nil ?_
        refine XQ.dropn 2 ?_
        refine XQ.back (k + 1, V') ⟨by omega, by omega, hV'⟩ (by simp only; omega) ⟨rfl, rfl, rfl, rfl, rfl, trivial⟩ rfl (List.Perm.refl _)
    · skip
      simp only [cmpInt, decide_eq_false_iff_not] at h2
      have hkE : x.bnds.take k = x.bnds.take 16 := by rw [show k = 16 by omega]
      have hV0 : V.Is 3 (bndC x.bnd0) := by rw [hkE] at hV; exact hV
      have hVl0 : V.len = x.bnd0.length := by have := hV0.len; rw [bndC_len] at this; omega
      have hb16 := x.bnd0_len
      refine XC.exit ?_
      refine XQ.then_exit ?_
      refine XQ.then_exit ?_
      refine XQ.block_exit ?_
      refine XQ.then_normal ?_
      refine XC.seq ?_
      refine XC.seq ?_
      refine XC.region ?_
      refine XO.rd rfl rfl rfl (Reads.load_whole k25 z25 rfl (by first | exact WholeAt.of 0 rfl | exact WholeAt.of 1 rfl | exact WholeAt.of 2 rfl | exact WholeAt.of 3 rfl | exact WholeAt.of 4 rfl | exact WholeAt.of 5 rfl | exact WholeAt.of 6 rfl) (by rfl)) ?_
      refine XO.callp rfl rfl en35 (misses_any x ah ab ch cb _ hx) ⟨rfl, trivial⟩ ?_
      refine XO.rd rfl rfl rfl (Reads.move rfl) ?_
      refine XO.split (d := 71) rfl (fun h3 => ?_) (fun h3 => ?_)
      · skip
        skip
        refine XO.rd (wg rfl rfl rfl) rfl rfl (fa28_1 rfl) ?_
        refine XO.rd (wg rfl rfl rfl) rfl rfl (Reads.load_own k26 rfl (by first | exact OwnAt.of 0 rfl rfl | exact OwnAt.of 1 rfl rfl | exact OwnAt.of 2 rfl rfl | exact OwnAt.of 3 rfl rfl | exact OwnAt.of 4 rfl rfl | exact OwnAt.of 5 rfl rfl | exact OwnAt.of 6 rfl rfl)) ?_
        refine XO.rd (wg rfl rfl rfl) rfl rfl (Reads.len_slice Try.underlying26 rfl) ?_
        rw [hVl0]
        refine XO.rd (wg rfl rfl rfl) rfl rfl (Reads.cmp rfl rfl rfl) ?_
        refine XO.rd rfl rfl rfl (Reads.pick_true rfl rfl) ?_
        refine XO.nil ?_
        refine XQ.then_normal ?_
        refine XC.cond rfl (fun h4 => ?_) (fun h4 => ?_)
        · skip
          simp only [cmpInt, decide_eq_true_eq] at h4
          have hl0 : (0 : Int) < x.bnd0.length := by omega
          have hm0 : (x.misses && decide (0 < x.bnd0.length)) = true := by simp [*]; omega
          have hlr := pickI_range (c := x.miss.tdiv 3) hl0
          have hlo : x.lowAt < x.bnd0.length := by unfold Nums.lowAt; omega
          have hc2 := (bndC_get x.bnd0 hlo).2.2
          have hmr := (x.bnd0_range (List.getElem_mem hlo)).2.2
          have hp60 := pickI_range (c := x.miss.tdiv 60) (n := 60) (by omega)
          refine XC.seq ?_
          refine XC.region ?_
          refine XO.rd rfl rfl rfl (fa25_3 rfl) ?_
          refine XO.rd rfl rfl rfl (Reads.load_own k3 rfl (by first | exact OwnAt.of 0 rfl rfl | exact OwnAt.of 1 rfl rfl | exact OwnAt.of 2 rfl rfl | exact OwnAt.of 3 rfl rfl | exact OwnAt.of 4 rfl rfl | exact OwnAt.of 5 rfl rfl | exact OwnAt.of 6 rfl rfl)) ?_
          refine XO.rd rfl rfl rfl (Reads.tdiv rfl rfl hx.miss (by decide)) ?_
          refine XO.rd rfl rfl rfl (fa28_1 rfl) ?_
          refine XO.rd rfl rfl rfl (Reads.load_own k26 rfl (by first | exact OwnAt.of 0 rfl rfl | exact OwnAt.of 1 rfl rfl | exact OwnAt.of 2 rfl rfl | exact OwnAt.of 3 rfl rfl | exact OwnAt.of 4 rfl rfl | exact OwnAt.of 5 rfl rfl | exact OwnAt.of 6 rfl rfl)) ?_
          refine XO.rd rfl rfl rfl (Reads.len_slice Try.underlying26 rfl) ?_
          rw [hVl0]
          refine XO.callp rfl rfl en38 (pickR_any _ _ _ (in64_tdiv hx.miss (by decide)) hl0) ⟨rfl, rfl, trivial⟩ ?_
          refine XO.rd rfl rfl rfl (Reads.assign rfl) ?_
          refine XO.nil ?_
          refine XQ.then_normal ?_
          refine XC.draw m_mixed (some 17) (.pure 0 (.pure 1 (.pure 2 (.pure 3 (.pure 4 (.pure 5 (.pure 6 (.pure 7 (.pure 8 (.pure 9 (.pure 10 (.pure 11 (.pure 12 (.eff 13 (.pure 14 (.pure 15 (.pure 16 (.eff 17 (.done))))))))))))))))))) _ (by kernel_rfl) (List.Sublist.refl _) ?_
          refine XR.rd rfl rfl rfl (fa28_1 rfl) ?_
          refine XR.rd rfl rfl rfl (Reads.load_own k26 rfl (by first | exact OwnAt.of 0 rfl rfl | exact OwnAt.of 1 rfl rfl | exact OwnAt.of 2 rfl rfl | exact OwnAt.of 3 rfl rfl | exact OwnAt.of 4 rfl rfl | exact OwnAt.of 5 rfl rfl | exact OwnAt.of 6 rfl rfl)) ?_
          refine XR.rd rfl rfl rfl (Reads.move rfl) ?_
          refine XR.rd rfl rfl rfl (fa28_1 rfl) ?_
          refine XR.rd rfl rfl rfl (Reads.load_own k26 rfl (by first | exact OwnAt.of 0 rfl rfl | exact OwnAt.of 1 rfl rfl | exact OwnAt.of 2 rfl rfl | exact OwnAt.of 3 rfl rfl | exact OwnAt.of 4 rfl rfl | exact OwnAt.of 5 rfl rfl | exact OwnAt.of 6 rfl rfl)) ?_
          refine XR.rd rfl rfl rfl (Reads.move rfl) ?_
          refine XR.rd rfl rfl rfl (Reads.index_slot (q := x.lowAt * 3) Try.underlying26 z30 rfl rfl (by omega) (vec_isSomes hV0 hc2) (by simp [Nums.lowAt])) ?_
          refine XR.rd rfl rfl rfl (fs30_2 rfl (vec_addr hV0 hc2)) ?_
          refine XR.rd rfl rfl rfl (Reads.load_vecs (e := 30) k3 rfl hV0 (List.mem_of_getElem? (i := 1) rfl) hc2) ?_
          refine XR.rd rfl rfl rfl (Reads.sub rfl rfl (by omega)) ?_
          refine XR.rd rfl rfl rfl (fa25_3 rfl) ?_
          refine XR.rd rfl rfl rfl (Reads.load_own k3 rfl (by first | exact OwnAt.of 0 rfl rfl | exact OwnAt.of 1 rfl rfl | exact OwnAt.of 2 rfl rfl | exact OwnAt.of 3 rfl rfl | exact OwnAt.of 4 rfl rfl | exact OwnAt.of 5 rfl rfl | exact OwnAt.of 6 rfl rfl)) ?_
          refine XR.rd rfl rfl rfl (Reads.tdiv rfl rfl hx.miss (by decide)) ?_
          refine XR.callp rfl rfl rfl en38 (pickR_any _ 60 _ (in64_tdiv hx.miss (by decide)) (by decide)) ⟨rfl, rfl, trivial⟩ (List.Sublist.refl _) ?_
          refine XR.rd rfl rfl rfl (Reads.sub rfl rfl (by omega)) ?_
          refine XR.rd rfl rfl rfl (Reads.index_slot (q := x.lowAt * 3) Try.underlying26 z30 rfl rfl (by omega) (vec_isSomes hV0 hc2) (by simp [Nums.lowAt])) ?_
          refine XR.rd rfl rfl rfl (fs30_2 rfl (vec_addr hV0 hc2)) ?_
          refine XR.store_vecs (V := V) (e := 30) 1 rfl rfl z3 rfl rfl rfl hV0 rfl hc2 rfl ?_
          intro V' hV' hval
          rw [bndC_set x.bnd0 x.low hlo (by decide) (by intro y hy; simp [hlo] at hy; subst hy; rfl)] at hV'
          rw [← hval]
          have hV1 : V'.Is 3 (bndC x.bnds1) := by simp only [Nums.bnds1, hm0]; exact hV'
          refine XR.nil ?_
          refine XQ.then_normal ?_
          refine XC.seq ?_
          refine XC.weaken (E' := [(2, _), (4, _)]) ⟨rfl, rfl, trivial⟩ ?_
          refine XC.region ?_
          refine XO.rd rfl rfl rfl (Reads.load_whole k28 z28 rfl (by first | exact WholeAt.of 0 rfl | exact WholeAt.of 1 rfl | exact WholeAt.of 2 rfl | exact WholeAt.of 3 rfl | exact WholeAt.of 4 rfl | exact WholeAt.of 5 rfl | exact WholeAt.of 6 rfl) (by rfl)) ?_
          refine XO.store_agg (vs := [.int .i64 x.hidN, _]) 2 rfl z28 rfl rfl (by simp [Value.oneCell']) rfl (by simp) ?_
          refine XO.nil ?_
          refine XQ.then_normal ?_
          refine XC.ret ?_
          refine XQ.perm (perm_take [1]) ?_
          refine XQ.give_vec (fun hb => ?_)
          refine XQ.done1ca [] 3 rfl k28 z28 rfl (WholeAt.of 1 rfl) rfl rfl (Im.le_trans hle (Vec.le_give hb)) ?_
          obtain ⟨a9, c9, h91, h92, h93⟩ := (Vec.sl (e := 30) (α := Bnd) (by decide) hV1 (flat_bnd _ x.bnds1) hb).2.ex
          exact ⟨rfl, a9, c9, congrArg (fun z => Value.agg #[Value.int .i64 x.hidN, z]) h91, h92, h93⟩
        · skip
          simp only [cmpInt, decide_eq_false_iff_not] at h4
          have hV1 : V.Is 3 (bndC x.bnds1) := by simp only [Nums.bnds1, show (x.misses && decide (0 < x.bnd0.length)) = false by simp only [Bool.and_eq_false_iff, decide_eq_false_iff_not]; exact .inr (by omega)]; exact hV0
          refine XC.skip ?_
          refine XQ.then_normal ?_
          refine XC.seq ?_
          refine XC.region ?_
          refine XO.rd rfl rfl rfl (Reads.load_whole k28 z28 rfl (by first | exact WholeAt.of 0 rfl | exact WholeAt.of 1 rfl | exact WholeAt.of 2 rfl | exact WholeAt.of 3 rfl | exact WholeAt.of 4 rfl | exact WholeAt.of 5 rfl | exact WholeAt.of 6 rfl) (by rfl)) ?_
          refine XO.store_agg (vs := [.int .i64 x.hidN, _]) 2 rfl z28 rfl rfl (by simp [Value.oneCell']) rfl (by simp) ?_
          refine XO.nil ?_
          refine XQ.then_normal ?_
          refine XC.ret ?_
          refine XQ.perm (perm_take [1]) ?_
          refine XQ.give_vec (fun hb => ?_)
          refine XQ.done1ca [] 3 rfl k28 z28 rfl (WholeAt.of 1 rfl) rfl rfl (Im.le_trans hle (Vec.le_give hb)) ?_
          obtain ⟨a9, c9, h91, h92, h93⟩ := (Vec.sl (e := 30) (α := Bnd) (by decide) hV1 (flat_bnd _ x.bnds1) hb).2.ex
          exact ⟨rfl, a9, c9, congrArg (fun z => Value.agg #[Value.int .i64 x.hidN, z]) h91, h92, h93⟩
      · skip
        have hV1 : V.Is 3 (bndC x.bnds1) := by simp only [Nums.bnds1, h3]; exact hV0
        refine XO.s (wg rfl rfl rfl) rfl ?_
        refine XO.s (wg rfl rfl rfl) rfl ?_
        refine XO.s (wg rfl rfl rfl) rfl ?_
        refine XO.s (wg rfl rfl rfl) rfl ?_
        refine XO.rd rfl rfl rfl (Reads.pick_false rfl rfl) ?_
        refine XO.nil ?_
        refine XQ.then_normal ?_
        refine XC.cond rfl (fun hx => by cases hx) (fun _ => ?_)
        refine XC.skip ?_
        refine XQ.then_normal ?_
        refine XC.seq ?_
        refine XC.region ?_
        refine XO.rd rfl rfl rfl (Reads.load_whole k28 z28 rfl (by first | exact WholeAt.of 0 rfl | exact WholeAt.of 1 rfl | exact WholeAt.of 2 rfl | exact WholeAt.of 3 rfl | exact WholeAt.of 4 rfl | exact WholeAt.of 5 rfl | exact WholeAt.of 6 rfl) (by rfl)) ?_
        refine XO.store_agg (vs := [.int .i64 x.hidN, _]) 2 rfl z28 rfl rfl (by simp [Value.oneCell']) rfl (by simp) ?_
        refine XO.nil ?_
        refine XQ.then_normal ?_
        refine XC.ret ?_
        refine XQ.perm (perm_take [1]) ?_
        refine XQ.give_vec (fun hb => ?_)
        refine XQ.done1ca [] 3 rfl k28 z28 rfl (WholeAt.of 1 rfl) rfl rfl (Im.le_trans hle (Vec.le_give hb)) ?_
        obtain ⟨a9, c9, h91, h92, h93⟩ := (Vec.sl (e := 30) (α := Bnd) (by decide) hV1 (flat_bnd _ x.bnds1) hb).2.ex
        exact ⟨rfl, a9, c9, congrArg (fun z => Value.agg #[Value.int .i64 x.hidN, z]) h91, h92, h93⟩
  · skip
    simp only [cmpInt, decide_eq_false_iff_not] at h1
    have hkE : x.bnds.take k = x.bnds.take 16 := by rw [List.take_of_length_le (by omega), List.take_of_length_le (by omega)]
    have hV0 : V.Is 3 (bndC x.bnd0) := by rw [hkE] at hV; exact hV
    have hVl0 : V.len = x.bnd0.length := by have := hV0.len; rw [bndC_len] at this; omega
    have hb16 := x.bnd0_len
    refine XO.s (wg rfl rfl rfl) rfl ?_
    refine XO.s (wg rfl rfl rfl) rfl ?_
    refine XO.rd rfl rfl rfl (Reads.pick_false rfl rfl) ?_
    refine XO.nil ?_
    refine XQ.then_normal ?_
    refine XC.cond rfl (fun hx => by cases hx) (fun _ => ?_)
    refine XC.exit ?_
    refine XQ.then_exit ?_
    refine XQ.then_exit ?_
    refine XQ.block_exit ?_
    refine XQ.then_normal ?_
    refine XC.seq ?_
    refine XC.seq ?_
    refine XC.region ?_
    refine XO.rd rfl rfl rfl (Reads.load_whole k25 z25 rfl (by first | exact WholeAt.of 0 rfl | exact WholeAt.of 1 rfl | exact WholeAt.of 2 rfl | exact WholeAt.of 3 rfl | exact WholeAt.of 4 rfl | exact WholeAt.of 5 rfl | exact WholeAt.of 6 rfl) (by rfl)) ?_
    refine XO.callp rfl rfl en35 (misses_any x ah ab ch cb _ hx) ⟨rfl, trivial⟩ ?_
    refine XO.rd rfl rfl rfl (Reads.move rfl) ?_
    refine XO.split (d := 71) rfl (fun h5 => ?_) (fun h5 => ?_)
    · skip
      skip
      refine XO.rd (wg rfl rfl rfl) rfl rfl (fa28_1 rfl) ?_
      refine XO.rd (wg rfl rfl rfl) rfl rfl (Reads.load_own k26 rfl (by first | exact OwnAt.of 0 rfl rfl | exact OwnAt.of 1 rfl rfl | exact OwnAt.of 2 rfl rfl | exact OwnAt.of 3 rfl rfl | exact OwnAt.of 4 rfl rfl | exact OwnAt.of 5 rfl rfl | exact OwnAt.of 6 rfl rfl)) ?_
      refine XO.rd (wg rfl rfl rfl) rfl rfl (Reads.len_slice Try.underlying26 rfl) ?_
      rw [hVl0]
      refine XO.rd (wg rfl rfl rfl) rfl rfl (Reads.cmp rfl rfl rfl) ?_
      refine XO.rd rfl rfl rfl (Reads.pick_true rfl rfl) ?_
      refine XO.nil ?_
      refine XQ.then_normal ?_
      refine XC.cond rfl (fun h6 => ?_) (fun h6 => ?_)
      · skip
        simp only [cmpInt, decide_eq_true_eq] at h6
        have hl0 : (0 : Int) < x.bnd0.length := by omega
        have hm0 : (x.misses && decide (0 < x.bnd0.length)) = true := by simp [*]; omega
        have hlr := pickI_range (c := x.miss.tdiv 3) hl0
        have hlo : x.lowAt < x.bnd0.length := by unfold Nums.lowAt; omega
        have hc2 := (bndC_get x.bnd0 hlo).2.2
        have hmr := (x.bnd0_range (List.getElem_mem hlo)).2.2
        have hp60 := pickI_range (c := x.miss.tdiv 60) (n := 60) (by omega)
        refine XC.seq ?_
        refine XC.region ?_
        refine XO.rd rfl rfl rfl (fa25_3 rfl) ?_
        refine XO.rd rfl rfl rfl (Reads.load_own k3 rfl (by first | exact OwnAt.of 0 rfl rfl | exact OwnAt.of 1 rfl rfl | exact OwnAt.of 2 rfl rfl | exact OwnAt.of 3 rfl rfl | exact OwnAt.of 4 rfl rfl | exact OwnAt.of 5 rfl rfl | exact OwnAt.of 6 rfl rfl)) ?_
        refine XO.rd rfl rfl rfl (Reads.tdiv rfl rfl hx.miss (by decide)) ?_
        refine XO.rd rfl rfl rfl (fa28_1 rfl) ?_
        refine XO.rd rfl rfl rfl (Reads.load_own k26 rfl (by first | exact OwnAt.of 0 rfl rfl | exact OwnAt.of 1 rfl rfl | exact OwnAt.of 2 rfl rfl | exact OwnAt.of 3 rfl rfl | exact OwnAt.of 4 rfl rfl | exact OwnAt.of 5 rfl rfl | exact OwnAt.of 6 rfl rfl)) ?_
        refine XO.rd rfl rfl rfl (Reads.len_slice Try.underlying26 rfl) ?_
        rw [hVl0]
        refine XO.callp rfl rfl en38 (pickR_any _ _ _ (in64_tdiv hx.miss (by decide)) hl0) ⟨rfl, rfl, trivial⟩ ?_
        refine XO.rd rfl rfl rfl (Reads.assign rfl) ?_
        refine XO.nil ?_
        refine XQ.then_normal ?_
        refine XC.draw m_mixed (some 17) (.pure 0 (.pure 1 (.pure 2 (.pure 3 (.pure 4 (.pure 5 (.pure 6 (.pure 7 (.pure 8 (.pure 9 (.pure 10 (.pure 11 (.pure 12 (.eff 13 (.pure 14 (.pure 15 (.pure 16 (.eff 17 (.done))))))))))))))))))) _ (by kernel_rfl) (List.Sublist.refl _) ?_
        refine XR.rd rfl rfl rfl (fa28_1 rfl) ?_
        refine XR.rd rfl rfl rfl (Reads.load_own k26 rfl (by first | exact OwnAt.of 0 rfl rfl | exact OwnAt.of 1 rfl rfl | exact OwnAt.of 2 rfl rfl | exact OwnAt.of 3 rfl rfl | exact OwnAt.of 4 rfl rfl | exact OwnAt.of 5 rfl rfl | exact OwnAt.of 6 rfl rfl)) ?_
        refine XR.rd rfl rfl rfl (Reads.move rfl) ?_
        refine XR.rd rfl rfl rfl (fa28_1 rfl) ?_
        refine XR.rd rfl rfl rfl (Reads.load_own k26 rfl (by first | exact OwnAt.of 0 rfl rfl | exact OwnAt.of 1 rfl rfl | exact OwnAt.of 2 rfl rfl | exact OwnAt.of 3 rfl rfl | exact OwnAt.of 4 rfl rfl | exact OwnAt.of 5 rfl rfl | exact OwnAt.of 6 rfl rfl)) ?_
        refine XR.rd rfl rfl rfl (Reads.move rfl) ?_
        refine XR.rd rfl rfl rfl (Reads.index_slot (q := x.lowAt * 3) Try.underlying26 z30 rfl rfl (by omega) (vec_isSomes hV0 hc2) (by simp [Nums.lowAt])) ?_
        refine XR.rd rfl rfl rfl (fs30_2 rfl (vec_addr hV0 hc2)) ?_
        refine XR.rd rfl rfl rfl (Reads.load_vecs (e := 30) k3 rfl hV0 (List.mem_of_getElem? (i := 1) rfl) hc2) ?_
        refine XR.rd rfl rfl rfl (Reads.sub rfl rfl (by omega)) ?_
        refine XR.rd rfl rfl rfl (fa25_3 rfl) ?_
        refine XR.rd rfl rfl rfl (Reads.load_own k3 rfl (by first | exact OwnAt.of 0 rfl rfl | exact OwnAt.of 1 rfl rfl | exact OwnAt.of 2 rfl rfl | exact OwnAt.of 3 rfl rfl | exact OwnAt.of 4 rfl rfl | exact OwnAt.of 5 rfl rfl | exact OwnAt.of 6 rfl rfl)) ?_
        refine XR.rd rfl rfl rfl (Reads.tdiv rfl rfl hx.miss (by decide)) ?_
        refine XR.callp rfl rfl rfl en38 (pickR_any _ 60 _ (in64_tdiv hx.miss (by decide)) (by decide)) ⟨rfl, rfl, trivial⟩ (List.Sublist.refl _) ?_
        refine XR.rd rfl rfl rfl (Reads.sub rfl rfl (by omega)) ?_
        refine XR.rd rfl rfl rfl (Reads.index_slot (q := x.lowAt * 3) Try.underlying26 z30 rfl rfl (by omega) (vec_isSomes hV0 hc2) (by simp [Nums.lowAt])) ?_
        refine XR.rd rfl rfl rfl (fs30_2 rfl (vec_addr hV0 hc2)) ?_
        refine XR.store_vecs (V := V) (e := 30) 1 rfl rfl z3 rfl rfl rfl hV0 rfl hc2 rfl ?_
        intro V' hV' hval
        rw [bndC_set x.bnd0 x.low hlo (by decide) (by intro y hy; simp [hlo] at hy; subst hy; rfl)] at hV'
        rw [← hval]
        have hV1 : V'.Is 3 (bndC x.bnds1) := by simp only [Nums.bnds1, hm0]; exact hV'
        refine XR.nil ?_
        refine XQ.then_normal ?_
        refine XC.seq ?_
        refine XC.weaken (E' := [(2, _), (4, _)]) ⟨rfl, rfl, trivial⟩ ?_
        refine XC.region ?_
        refine XO.rd rfl rfl rfl (Reads.load_whole k28 z28 rfl (by first | exact WholeAt.of 0 rfl | exact WholeAt.of 1 rfl | exact WholeAt.of 2 rfl | exact WholeAt.of 3 rfl | exact WholeAt.of 4 rfl | exact WholeAt.of 5 rfl | exact WholeAt.of 6 rfl) (by rfl)) ?_
        refine XO.store_agg (vs := [.int .i64 x.hidN, _]) 2 rfl z28 rfl rfl (by simp [Value.oneCell']) rfl (by simp) ?_
        refine XO.nil ?_
        refine XQ.then_normal ?_
        refine XC.ret ?_
        refine XQ.perm (perm_take [1]) ?_
        refine XQ.give_vec (fun hb => ?_)
        refine XQ.done1ca [] 3 rfl k28 z28 rfl (WholeAt.of 1 rfl) rfl rfl (Im.le_trans hle (Vec.le_give hb)) ?_
        obtain ⟨a9, c9, h91, h92, h93⟩ := (Vec.sl (e := 30) (α := Bnd) (by decide) hV1 (flat_bnd _ x.bnds1) hb).2.ex
        exact ⟨rfl, a9, c9, congrArg (fun z => Value.agg #[Value.int .i64 x.hidN, z]) h91, h92, h93⟩
      · skip
        simp only [cmpInt, decide_eq_false_iff_not] at h6
        have hV1 : V.Is 3 (bndC x.bnds1) := by simp only [Nums.bnds1, show (x.misses && decide (0 < x.bnd0.length)) = false by simp only [Bool.and_eq_false_iff, decide_eq_false_iff_not]; exact .inr (by omega)]; exact hV0
        refine XC.skip ?_
        refine XQ.then_normal ?_
        refine XC.seq ?_
        refine XC.region ?_
        refine XO.rd rfl rfl rfl (Reads.load_whole k28 z28 rfl (by first | exact WholeAt.of 0 rfl | exact WholeAt.of 1 rfl | exact WholeAt.of 2 rfl | exact WholeAt.of 3 rfl | exact WholeAt.of 4 rfl | exact WholeAt.of 5 rfl | exact WholeAt.of 6 rfl) (by rfl)) ?_
        refine XO.store_agg (vs := [.int .i64 x.hidN, _]) 2 rfl z28 rfl rfl (by simp [Value.oneCell']) rfl (by simp) ?_
        refine XO.nil ?_
        refine XQ.then_normal ?_
        refine XC.ret ?_
        refine XQ.perm (perm_take [1]) ?_
        refine XQ.give_vec (fun hb => ?_)
        refine XQ.done1ca [] 3 rfl k28 z28 rfl (WholeAt.of 1 rfl) rfl rfl (Im.le_trans hle (Vec.le_give hb)) ?_
        obtain ⟨a9, c9, h91, h92, h93⟩ := (Vec.sl (e := 30) (α := Bnd) (by decide) hV1 (flat_bnd _ x.bnds1) hb).2.ex
        exact ⟨rfl, a9, c9, congrArg (fun z => Value.agg #[Value.int .i64 x.hidN, z]) h91, h92, h93⟩
    · skip
      have hV1 : V.Is 3 (bndC x.bnds1) := by simp only [Nums.bnds1, h5]; exact hV0
      refine XO.s (wg rfl rfl rfl) rfl ?_
      refine XO.s (wg rfl rfl rfl) rfl ?_
      refine XO.s (wg rfl rfl rfl) rfl ?_
      refine XO.s (wg rfl rfl rfl) rfl ?_
      refine XO.rd rfl rfl rfl (Reads.pick_false rfl rfl) ?_
      refine XO.nil ?_
      refine XQ.then_normal ?_
      refine XC.cond rfl (fun hx => by cases hx) (fun _ => ?_)
      refine XC.skip ?_
      refine XQ.then_normal ?_
      refine XC.seq ?_
      refine XC.region ?_
      refine XO.rd rfl rfl rfl (Reads.load_whole k28 z28 rfl (by first | exact WholeAt.of 0 rfl | exact WholeAt.of 1 rfl | exact WholeAt.of 2 rfl | exact WholeAt.of 3 rfl | exact WholeAt.of 4 rfl | exact WholeAt.of 5 rfl | exact WholeAt.of 6 rfl) (by rfl)) ?_
      refine XO.store_agg (vs := [.int .i64 x.hidN, _]) 2 rfl z28 rfl rfl (by simp [Value.oneCell']) rfl (by simp) ?_
      refine XO.nil ?_
      refine XQ.then_normal ?_
      refine XC.ret ?_
      refine XQ.perm (perm_take [1]) ?_
      refine XQ.give_vec (fun hb => ?_)
      refine XQ.done1ca [] 3 rfl k28 z28 rfl (WholeAt.of 1 rfl) rfl rfl (Im.le_trans hle (Vec.le_give hb)) ?_
      obtain ⟨a9, c9, h91, h92, h93⟩ := (Vec.sl (e := 30) (α := Bnd) (by decide) hV1 (flat_bnd _ x.bnds1) hb).2.ex
      exact ⟨rfl, a9, c9, congrArg (fun z => Value.agg #[Value.int .i64 x.hidN, z]) h91, h92, h93⟩

end Go.Proofs.Ytlgfpieokaegiaa
