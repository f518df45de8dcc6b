/- Walks of layer 6: chains. -/
import Derived.Test.YtlgfpieokaegiaaB1
namespace Go.Proofs.Ytlgfpieokaegiaa
open Go.Xe

theorem follow_any (b : Btw) (a al : Option Addr) (cap capl : Nat) (f0 : Int) (l : List Int) (I : Im) (hA : Arr I a b.bs) (hL : Arr I al l) (hlen : b.bs.length ≤ 1000000) (hll : l.length ≤ 1000000) (hm : ∀ x ∈ b.bs, -1000000000 ≤ x.mo ∧ x.mo ≤ 1000000000) : FC Try.prog 56 [.agg #[.int .i64 b.n, .slice a b.bs.length cap], .int .i64 f0, .slice al l.length capl] I (fun u I' => u = .tuple #[.int .i64 (followT b.bs f0 l).1, .int .i64 (followT b.bs f0 l).2.1, .bool (followT b.bs f0 l).2.2] ∧ I' = I) := by
  refine FSo.intro (n := 55) Try.func56 rfl rfl rfl (fun K Lf => ?_)
  refine XC.seq ?_
  refine XC.region ?_
  refine XO.box_agg rfl rfl rfl (fun b3 => ?_)
  refine XO.rd rfl rfl rfl (Reads.assign rfl) ?_
  refine XO.rd rfl rfl rfl (Reads.assign rfl) ?_
  refine XO.rd rfl rfl rfl (Reads.assign rfl) ?_
  refine XO.nil ?_
  refine XQ.then_normal ?_
  refine XC.seq ?_
  refine XC.region ?_
  refine XO.rd rfl rfl rfl (Reads.assign rfl) ?_
  refine XO.nil ?_
  refine XQ.then_normal ?_
  refine XC.seq ?_
  refine XC.seq ?_
  refine XC.region ?_
  refine XO.rd rfl rfl rfl (Reads.move rfl) ?_
  refine XO.rd rfl rfl rfl (Reads.len_slice Try.underlying22 rfl) ?_
  refine XO.rd rfl rfl rfl (Reads.move rfl) ?_
  refine XO.nil ?_
  refine XQ.then_normal ?_
  refine XC.block ?_
  refine XC.loop (ι := Nat × Int × Int) (fun i => [(1, .int .i64 i.2.1), (3, .pointer (some ⟨b3, 0, none⟩)), (9, .int .i64 i.2.2), (2, .slice al l.length capl), (12, .slice al l.length capl), (13, .int .i64 l.length), (14, .int .i64 i.1)]) (fun _ => I) (fun _ => some (b3, .cells #[.int .i64 b.n, .slice a b.bs.length cap] 28 (0, 0)) :: ([] ++ Lf)) (fun i => i.1 ≤ l.length ∧ followI b.bs f0 l 0 = followI b.bs i.2.1 (l.drop i.1) i.2.2 ∧ -1000000000 * (i.1 : Int) ≤ i.2.2 ∧ i.2.2 ≤ 1000000000 * (i.1 : Int)) (fun i => l.length - i.1) (0, f0, 0) ⟨Nat.zero_le _, rfl, by simp, by simp⟩ ⟨rfl, rfl, rfl, rfl, rfl, rfl, rfl, trivial⟩ rfl (List.Perm.refl _) (fun i hi => ?_)
  obtain ⟨k, f, s⟩ := i
  obtain ⟨hk1, hk2, hk4, hk5⟩ := hi
  simp only at hk1 hk2 hk4 hk5 ⊢
  refine XC.seq ?_
  refine XC.region ?_
  refine XO.rd rfl rfl rfl (Reads.cmp rfl rfl rfl) ?_
  refine XO.nil ?_
  refine XQ.then_normal ?_
  refine XC.seq ?_
  refine XC.cond rfl (fun h1 => ?_) (fun h1 => ?_)
  · skip
    simp only [cmpInt, decide_eq_true_eq] at h1
    have hk3 : k < l.length := by omega
    have hstep : l.drop k = l[k] :: l.drop (k + 1) := List.drop_eq_getElem_cons hk3
    refine XC.skip ?_
    refine XQ.then_normal ?_
    refine XC.seq ?_
    refine XC.block ?_
    refine XC.seq ?_
    refine XC.region ?_
    refine XO.rd rfl rfl rfl (Reads.index_slot Try.underlying22 z3 rfl rfl (by omega) (hL.isSome (by decide) (by omega)) rfl) ?_
    refine XO.rd rfl rfl rfl (Reads.load_at k3 rfl (hL.int hk3)) ?_
    refine XO.rd rfl rfl rfl (Reads.assign rfl) ?_
    refine XO.nil ?_
    refine XQ.then_normal ?_
    refine XC.seq ?_
    refine XC.seq ?_
    refine XC.region ?_
    refine XO.rd rfl rfl rfl (Reads.move rfl) ?_
    refine XO.rd rfl rfl rfl (fa28_1 rfl) ?_
    refine XO.rd rfl rfl rfl (Reads.load_own k26 rfl (by first | exact OwnAt.of 0 rfl rfl | exact OwnAt.of 1 rfl rfl | exact OwnAt.of 2 rfl rfl | exact OwnAt.of 3 rfl rfl | exact OwnAt.of 4 rfl rfl | exact OwnAt.of 5 rfl rfl)) ?_
    refine XO.rd rfl rfl rfl (Reads.len_slice Try.underlying26 rfl) ?_
    refine XO.rd rfl rfl rfl (Reads.sub rfl rfl (by omega)) ?_
    refine XO.callp rfl rfl en47 (isIn_any _ _ _ _) ⟨rfl, rfl, rfl, trivial⟩ ?_
    refine XO.rd rfl rfl rfl (Reads.not rfl) ?_
    refine XO.rd rfl rfl rfl (Reads.move rfl) ?_
    refine XO.split (d := 25) rfl (fun h2 => ?_) (fun h2 => ?_)
    · skip
      simp [inB] at h2
      refine XO.s (wg rfl rfl rfl) rfl ?_
      refine XO.s (wg rfl rfl rfl) rfl ?_
      refine XO.s (wg rfl rfl rfl) rfl ?_
      refine XO.s (wg rfl rfl rfl) rfl ?_
      refine XO.s (wg rfl rfl rfl) rfl ?_
      refine XO.s (wg rfl rfl rfl) rfl ?_
      refine XO.s (wg rfl rfl rfl) rfl ?_
      refine XO.s (wg rfl rfl rfl) rfl ?_
      refine XO.rd rfl rfl rfl (Reads.pick_true rfl rfl) ?_
      refine XO.nil ?_
      refine XQ.then_normal ?_
      refine XC.cond rfl (fun _ => ?_) (fun hx => by cases hx)
      refine XC.seq ?_
      refine XC.region ?_
      refine XO.rd rfl rfl rfl (Reads.assign rfl) ?_
      refine XO.rd rfl rfl rfl (Reads.assign rfl) ?_
      refine XO.rd rfl rfl rfl (Reads.assign rfl) ?_
      refine XO.nil ?_
      refine XQ.then_normal ?_
      refine XC.ret ?_
      refine XQ.then_ret ?_
      refine XQ.block_ret ?_
      refine XQ.then_ret ?_
      refine XQ.then_ret ?_
      refine XQ.block_ret ?_
      refine XQ.then_ret ?_
      refine XQ.dropn 1 ?_
      refine XQ.done3 rfl rfl rfl rfl (Im.le_refl _) ?_
      exact ⟨rfl, by simp only [followT]; rw [hk2, hstep, followI_out (by omega)], rfl⟩
    · skip
      simp [inB] at h2
      have hj : l[k].toNat < b.bs.length := by omega
      refine XO.rd (wg rfl rfl rfl) rfl rfl (fa28_1 rfl) ?_
      refine XO.rd (wg rfl rfl rfl) rfl rfl (Reads.load_own k26 rfl (by first | exact OwnAt.of 0 rfl rfl | exact OwnAt.of 1 rfl rfl | exact OwnAt.of 2 rfl rfl | exact OwnAt.of 3 rfl rfl | exact OwnAt.of 4 rfl rfl | exact OwnAt.of 5 rfl rfl)) ?_
      refine XO.rd (wg rfl rfl rfl) rfl rfl (Reads.move rfl) ?_
      refine XO.rd (wg rfl rfl rfl) rfl rfl (Reads.index_slot Try.underlying26 z30 rfl rfl (by omega) (hA.isSome (by decide) (by omega)) rfl) ?_
      refine XO.rd (wg rfl rfl rfl) rfl rfl (fs30_0 rfl (hA.addr (by decide) (by omega))) ?_
      refine XO.rd (wg rfl rfl rfl) rfl rfl (Reads.load_at k3 rfl (hA.bnd (j := l[k].toNat) hj 0 _ rfl)) ?_
      refine XO.rd (wg rfl rfl rfl) rfl rfl (Reads.move rfl) ?_
      refine XO.rd (wg rfl rfl rfl) rfl rfl (Reads.cmp rfl rfl rfl) ?_
      refine XO.rd rfl rfl rfl (Reads.pick_false rfl rfl) ?_
      refine XO.nil ?_
      refine XQ.then_normal ?_
      refine XC.cond rfl (fun h3 => ?_) (fun h3 => ?_)
      · skip
        simp [cmpInt] at h3
        refine XC.seq ?_
        refine XC.region ?_
        refine XO.rd rfl rfl rfl (Reads.assign rfl) ?_
        refine XO.rd rfl rfl rfl (Reads.assign rfl) ?_
        refine XO.rd rfl rfl rfl (Reads.assign rfl) ?_
        refine XO.nil ?_
        refine XQ.then_normal ?_
        refine XC.ret ?_
        refine XQ.then_ret ?_
        refine XQ.block_ret ?_
        refine XQ.then_ret ?_
        refine XQ.then_ret ?_
        refine XQ.block_ret ?_
        refine XQ.then_ret ?_
        refine XQ.dropn 1 ?_
        refine XQ.done3 rfl rfl rfl rfl (Im.le_refl _) ?_
        exact ⟨rfl, by simp only [followT]; rw [hk2, hstep, followI_off (by omega) hj (by omega)], rfl⟩
      · skip
        simp [cmpInt] at h3
        have hmm := hm _ (List.getElem_mem hj)
        refine XC.skip ?_
        refine XQ.then_normal ?_
        refine XC.draw m_mixed none (.pure 0 (.pure 1 (.pure 2 (.pure 3 (.pure 4 (.pure 5 (.pure 6 (.pure 7 (.pure 8 (.pure 9 (.pure 10 (.pure 11 (.pure 12 (.pure 13 (.pure 14 (.pure 15 (.done))))))))))))))))) _ (by kernel_rfl) (List.Sublist.refl _) ?_
        refine XR.rd rfl rfl rfl (fa28_1 rfl) ?_
        refine XR.rd rfl rfl rfl (Reads.load_own k26 rfl (by first | exact OwnAt.of 0 rfl rfl | exact OwnAt.of 1 rfl rfl | exact OwnAt.of 2 rfl rfl | exact OwnAt.of 3 rfl rfl | exact OwnAt.of 4 rfl rfl | exact OwnAt.of 5 rfl rfl)) ?_
        refine XR.rd rfl rfl rfl (Reads.move rfl) ?_
        refine XR.rd rfl rfl rfl (Reads.index_slot Try.underlying26 z30 rfl rfl (by omega) (hA.isSome (by decide) (by omega)) rfl) ?_
        refine XR.rd rfl rfl rfl (fs30_1 rfl (hA.addr (by decide) (by omega))) ?_
        refine XR.rd rfl rfl rfl (Reads.load_at k3 rfl (hA.bnd (j := l[k].toNat) hj 1 _ rfl)) ?_
        refine XR.rd rfl rfl rfl (Reads.move rfl) ?_
        refine XR.rd rfl rfl rfl (fa28_1 rfl) ?_
        refine XR.rd rfl rfl rfl (Reads.load_own k26 rfl (by first | exact OwnAt.of 0 rfl rfl | exact OwnAt.of 1 rfl rfl | exact OwnAt.of 2 rfl rfl | exact OwnAt.of 3 rfl rfl | exact OwnAt.of 4 rfl rfl | exact OwnAt.of 5 rfl rfl)) ?_
        refine XR.rd rfl rfl rfl (Reads.move rfl) ?_
        refine XR.rd rfl rfl rfl (Reads.index_slot Try.underlying26 z30 rfl rfl (by omega) (hA.isSome (by decide) (by omega)) rfl) ?_
        refine XR.rd rfl rfl rfl (fs30_2 rfl (hA.addr (by decide) (by omega))) ?_
        refine XR.rd rfl rfl rfl (Reads.load_at k3 rfl (hA.bnd (j := l[k].toNat) hj 2 _ rfl)) ?_
        refine XR.rd rfl rfl rfl (Reads.add rfl rfl (by omega)) ?_
        refine XR.rd rfl rfl rfl (Reads.assign rfl) ?_
        refine XR.rd rfl rfl rfl (Reads.assign rfl) ?_
        refine XR.nil ?_
        refine XQ.block_normal ?_
        refine XQ.then_normal ?_
        refine XC.region ?_
        refine XO.rd rfl rfl rfl (Reads.add rfl rfl (by omega)) ?_
        refine XO.rd rfl rfl rfl (Reads.move rfl) ?_
        refine XO.nil ?_
        refine XQ.back (k + 1, _, _) ⟨by omega, by rw [hk2, hstep, followI_step (by omega) hj (by omega)], ?_, ?_⟩ (by omega) ⟨rfl, rfl, rfl, rfl, rfl, rfl, rfl, trivial⟩ rfl (List.Perm.refl _)
        · show _ ≤ s + b.bs[l[k].toNat].mo; omega
        · show s + b.bs[l[k].toNat].mo ≤ _; omega
  · skip
    simp only [cmpInt, decide_eq_false_iff_not] at h1
    refine XC.exit ?_
    refine XQ.then_exit ?_
    refine XQ.then_exit ?_
    refine XQ.block_exit ?_
    refine XQ.then_normal ?_
    refine XC.seq ?_
    refine XC.region ?_
    refine XO.rd rfl rfl rfl (Reads.move rfl) ?_
    refine XO.rd rfl rfl rfl (Reads.move rfl) ?_
    refine XO.rd rfl rfl rfl (Reads.move rfl) ?_
    refine XO.rd rfl rfl rfl (Reads.len_slice Try.underlying22 rfl) ?_
    refine XO.rd rfl rfl rfl (Reads.cmp rfl rfl rfl) ?_
    refine XO.rd rfl rfl rfl (Reads.assign rfl) ?_
    refine XO.rd rfl rfl rfl (Reads.assign rfl) ?_
    refine XO.rd rfl rfl rfl (Reads.assign rfl) ?_
    refine XO.nil ?_
    refine XQ.then_normal ?_
    refine XC.ret ?_
    refine XQ.dropn 1 ?_
    refine XQ.done3 rfl rfl rfl rfl (Im.le_refl _) ?_
    refine ⟨rfl, ?_, rfl⟩
    simp only [followT]; rw [hk2, List.drop_of_length_le (by omega)]; simp [followI, cmpInt]; omega

theorem allowed1_any (v : Int) (I : Im) : FC Try.prog 53 [.int .i64 v] I (fun u I' => u = .bool (!inB v (-1000000000000) 1000000000000) ∧ I' = I) := by
  refine FSo.intro (n := 6) Try.func53 rfl rfl rfl (fun K Lf => ?_)
  refine XC.seq ?_
  refine XC.region ?_
  refine XO.rd rfl rfl rfl (Reads.assign rfl) ?_
  refine XO.nil ?_
  refine XQ.then_normal ?_
  refine XC.seq ?_
  refine XC.region ?_
  refine XO.rd rfl rfl rfl (Reads.move rfl) ?_
  refine XO.callp rfl rfl en47 (isIn_any _ _ _ _) ⟨rfl, rfl, rfl, trivial⟩ ?_
  refine XO.rd rfl rfl rfl (Reads.not rfl) ?_
  refine XO.rd rfl rfl rfl (Reads.assign rfl) ?_
  refine XO.nil ?_
  refine XQ.then_normal ?_
  refine XC.ret ?_
  refine XQ.done1 rfl rfl (Im.le_refl _) ?_
  simp

theorem allowed2_any (b : Nat) (ax : Option Addr) (x : List Int) (capx : Nat) (y : Bnd) (I : Im) (hX : Arr I ax x) (hl : x.length ≤ 1000000) (hf : 0 ≤ y.fr ∧ y.fr < x.length) (ht : 0 ≤ y.to ∧ y.to < x.length) (hv : ∀ v ∈ x, -1000000000000 ≤ v ∧ v ≤ 1000000000000) : FSo Try.prog 55 [.agg y.cs.toArray, .pointer (some ⟨b, 0, none⟩)] I [some (b, .cells #[.slice ax x.length capx] 22 (0, 0))] (fun u I' L' => u = .bool (decide (x.getD y.to.toNat 0 - x.getD y.fr.toNat 0 > y.mo)) ∧ I' = I ∧ L' = [some (b, .cells #[.slice ax x.length capx] 22 (0, 0))]) := by
  have h1 : y.fr.toNat < x.length := by omega
  have h2 : y.to.toNat < x.length := by omega
  have v1 := hv _ (List.getElem_mem h1)
  have v2 := hv _ (List.getElem_mem h2)
  refine FSo.intro (n := 18) Try.func55 rfl rfl rfl (fun K Lf => ?_)
  refine XC.seq ?_
  refine XC.region ?_
  refine XO.box_agg rfl rfl rfl (fun b2 => ?_)
  refine XO.rd rfl rfl rfl (Reads.assign rfl) ?_
  refine XO.nil ?_
  refine XQ.then_normal ?_
  refine XC.seq ?_
  refine XC.draw m_mixed none (.pure 0 (.pure 1 (.pure 2 (.pure 3 (.pure 4 (.pure 5 (.pure 6 (.pure 7 (.pure 8 (.pure 9 (.pure 10 (.pure 11 (.pure 12 (.pure 13 (.pure 14 (.done)))))))))))))))) (some (b2, .cells y.cs.toArray 30 (0, 0)) :: ([some (b, .cells #[.slice ax x.length capx] 22 (0, 0))] ++ Lf)) (by kernel_rfl) (List.Sublist.refl _) ?_
  refine XR.rd rfl rfl rfl (Reads.load_own k22 rfl (by first | exact OwnAt.of 0 rfl rfl | exact OwnAt.of 1 rfl rfl | exact OwnAt.of 2 rfl rfl | exact OwnAt.of 3 rfl rfl | exact OwnAt.of 4 rfl rfl | exact OwnAt.of 5 rfl rfl)) ?_
  refine XR.rd rfl rfl rfl (fa30_1 rfl) ?_
  refine XR.rd rfl rfl rfl (Reads.load_own k3 rfl (by first | exact OwnAt.of 0 rfl rfl | exact OwnAt.of 1 rfl rfl | exact OwnAt.of 2 rfl rfl | exact OwnAt.of 3 rfl rfl | exact OwnAt.of 4 rfl rfl | exact OwnAt.of 5 rfl rfl)) ?_
  refine XR.rd rfl rfl rfl (Reads.index_slot Try.underlying22 z3 rfl rfl (by omega) (hX.isSome (by decide) (by omega)) rfl) ?_
  refine XR.rd rfl rfl rfl (Reads.load_at k3 rfl (hX.int h2)) ?_
  refine XR.rd rfl rfl rfl (Reads.load_own k22 rfl (by first | exact OwnAt.of 0 rfl rfl | exact OwnAt.of 1 rfl rfl | exact OwnAt.of 2 rfl rfl | exact OwnAt.of 3 rfl rfl | exact OwnAt.of 4 rfl rfl | exact OwnAt.of 5 rfl rfl)) ?_
  refine XR.rd rfl rfl rfl (fa30_0 rfl) ?_
  refine XR.rd rfl rfl rfl (Reads.load_own k3 rfl (by first | exact OwnAt.of 0 rfl rfl | exact OwnAt.of 1 rfl rfl | exact OwnAt.of 2 rfl rfl | exact OwnAt.of 3 rfl rfl | exact OwnAt.of 4 rfl rfl | exact OwnAt.of 5 rfl rfl)) ?_
  refine XR.rd rfl rfl rfl (Reads.index_slot Try.underlying22 z3 rfl rfl (by omega) (hX.isSome (by decide) (by omega)) rfl) ?_
  refine XR.rd rfl rfl rfl (Reads.load_at k3 rfl (hX.int h1)) ?_
  refine XR.rd rfl rfl rfl (Reads.sub rfl rfl (by omega)) ?_
  refine XR.rd rfl rfl rfl (fa30_2 rfl) ?_
  refine XR.rd rfl rfl rfl (Reads.load_own k3 rfl (by first | exact OwnAt.of 0 rfl rfl | exact OwnAt.of 1 rfl rfl | exact OwnAt.of 2 rfl rfl | exact OwnAt.of 3 rfl rfl | exact OwnAt.of 4 rfl rfl | exact OwnAt.of 5 rfl rfl)) ?_
  refine XR.rd rfl rfl rfl (Reads.cmp rfl rfl rfl) ?_
  refine XR.rd rfl rfl rfl (Reads.assign rfl) ?_
  refine XR.nil ?_
  refine XQ.then_normal ?_
  refine XC.ret ?_
  refine XQ.dropn 1 ?_
  refine XQ.done1 rfl rfl (Im.le_refl _) ?_
  exact ⟨by simp [cmpInt, h1, h2], rfl, rfl⟩

theorem allowed_any (b : Btw) (a : Option Addr) (cap : Nat) (ax : Option Addr) (x : List Int) (capx : Nat) (I : Im) (hA : Arr I a b.bs) (hX : Arr I ax x) (hlen : b.bs.length ≤ 1000000) (hl : x.length ≤ 1000000) : FC Try.prog 27 [.agg #[.int .i64 b.n, .slice a b.bs.length cap], .slice ax x.length capx] I (fun u I' => u = .bool (b.allowed x) ∧ I' = I) := by
  refine FSo.intro (n := 26) Try.func27 rfl rfl rfl (fun K Lf => ?_)
  refine XC.seq ?_
  refine XC.region ?_
  refine XO.box_agg rfl rfl rfl (fun b2 => ?_)
  refine XO.box1 rfl rfl rfl rfl (fun b3 => ?_)
  refine XO.rd rfl rfl rfl (Reads.assign rfl) ?_
  refine XO.nil ?_
  refine XQ.then_normal ?_
  refine XC.seq ?_
  refine XC.region ?_
  refine XO.rd rfl rfl rfl (Reads.assign rfl) ?_
  refine XO.nil ?_
  refine XQ.then_normal ?_
  refine XC.seq ?_
  refine XC.seq ?_
  refine XC.region ?_
  refine XO.rd rfl rfl rfl (Reads.load_whole k28 z28 rfl (by first | exact WholeAt.of 0 rfl | exact WholeAt.of 1 rfl | exact WholeAt.of 2 rfl | exact WholeAt.of 3 rfl | exact WholeAt.of 4 rfl | exact WholeAt.of 5 rfl) (by rfl)) ?_
  refine XO.callp rfl rfl en22 (valid_any b a cap _ hA hlen) ⟨rfl, trivial⟩ ?_
  refine XO.rd rfl rfl rfl (Reads.not rfl) ?_
  refine XO.rd rfl rfl rfl (Reads.move rfl) ?_
  refine XO.split (d := 9) rfl (fun h1 => ?_) (fun h1 => ?_)
  · skip
    simp at h1
    refine XO.s (wg rfl rfl rfl) rfl ?_
    refine XO.s (wg rfl rfl rfl) rfl ?_
    refine XO.s (wg rfl rfl rfl) rfl ?_
    refine XO.s (wg rfl rfl rfl) rfl ?_
    refine XO.s (wg rfl rfl rfl) rfl ?_
    refine XO.rd rfl rfl rfl (Reads.pick_true rfl rfl) ?_
    refine XO.rd rfl rfl rfl (Reads.move rfl) ?_
    refine XO.s (wg rfl rfl rfl) rfl ?_
    refine XO.s (wg rfl rfl rfl) rfl ?_
    refine XO.s (wg rfl rfl rfl) rfl ?_
    refine XO.rd rfl rfl rfl (Reads.pick_true rfl rfl) ?_
    refine XO.nil ?_
    refine XQ.then_normal ?_
    refine XC.cond rfl (fun _ => ?_) (fun hx => by cases hx)
    refine XC.seq ?_
    refine XC.region ?_
    refine XO.rd rfl rfl rfl (Reads.assign rfl) ?_
    refine XO.nil ?_
    refine XQ.then_normal ?_
    refine XC.ret ?_
    refine XQ.then_ret ?_
    refine XQ.dropn 2 ?_
    refine XQ.done1 rfl rfl (Im.le_refl _) ?_
    simp [Btw.allowed, *]
  · skip
    simp at h1
    refine XO.rd (wg rfl rfl rfl) rfl rfl (Reads.load_own k22 rfl (by first | exact OwnAt.of 0 rfl rfl | exact OwnAt.of 1 rfl rfl | exact OwnAt.of 2 rfl rfl | exact OwnAt.of 3 rfl rfl | exact OwnAt.of 4 rfl rfl | exact OwnAt.of 5 rfl rfl)) ?_
    refine XO.rd (wg rfl rfl rfl) rfl rfl (Reads.len_slice Try.underlying22 rfl) ?_
    refine XO.rd (wg rfl rfl rfl) rfl rfl (fa28_0 rfl) ?_
    refine XO.rd (wg rfl rfl rfl) rfl rfl (Reads.load_own k3 rfl (by first | exact OwnAt.of 0 rfl rfl | exact OwnAt.of 1 rfl rfl | exact OwnAt.of 2 rfl rfl | exact OwnAt.of 3 rfl rfl | exact OwnAt.of 4 rfl rfl | exact OwnAt.of 5 rfl rfl)) ?_
    refine XO.rd (wg rfl rfl rfl) rfl rfl (Reads.cmp rfl rfl rfl) ?_
    refine XO.rd rfl rfl rfl (Reads.pick_false rfl rfl) ?_
    refine XO.rd rfl rfl rfl (Reads.move rfl) ?_
    refine XO.split (d := 16) rfl (fun h2 => ?_) (fun h2 => ?_)
    · skip
      simp [cmpInt] at h2
      refine XO.s (wg rfl rfl rfl) rfl ?_
      refine XO.s (wg rfl rfl rfl) rfl ?_
      refine XO.s (wg rfl rfl rfl) rfl ?_
      refine XO.rd rfl rfl rfl (Reads.pick_true rfl rfl) ?_
      refine XO.nil ?_
      refine XQ.then_normal ?_
      refine XC.cond rfl (fun _ => ?_) (fun hx => by cases hx)
      refine XC.seq ?_
      refine XC.region ?_
      refine XO.rd rfl rfl rfl (Reads.assign rfl) ?_
      refine XO.nil ?_
      refine XQ.then_normal ?_
      refine XC.ret ?_
      refine XQ.then_ret ?_
      refine XQ.dropn 2 ?_
      refine XQ.done1 rfl rfl (Im.le_refl _) ?_
      simp [Btw.allowed, *]
    · skip
      simp [cmpInt] at h2
      refine XO.rd (wg rfl rfl rfl) rfl rfl (Reads.load_own k22 rfl (by first | exact OwnAt.of 0 rfl rfl | exact OwnAt.of 1 rfl rfl | exact OwnAt.of 2 rfl rfl | exact OwnAt.of 3 rfl rfl | exact OwnAt.of 4 rfl rfl | exact OwnAt.of 5 rfl rfl)) ?_
      refine XO.rd (wg rfl rfl rfl) rfl rfl (Reads.move rfl) ?_
      refine XO.callo (vs := [_, _]) (L1 := []) (wg rfl rfl rfl) rfl rfl en54 ⟨rfl, rfl, trivial⟩ (containsFunc_int ax capx x 53 #[] [] (fun v => !inB v (-1000000000000) 1000000000000) I hX hl en53 (fun k hk => FSo.of_pure (allowed1_any x[k] I) [])) (List.Perm.refl _) ?_
      rintro v I' L' _ ⟨rfl, rfl, rfl⟩
      refine XO.rd rfl rfl rfl (Reads.pick_false rfl rfl) ?_
      refine XO.nil ?_
      refine XQ.then_normal ?_
      refine XC.cond rfl (fun h3 => ?_) (fun h3 => ?_)
      · skip
        skip
        refine XC.seq ?_
        refine XC.region ?_
        refine XO.rd rfl rfl rfl (Reads.assign rfl) ?_
        refine XO.nil ?_
        refine XQ.then_normal ?_
        refine XC.ret ?_
        refine XQ.then_ret ?_
        refine XQ.dropn 2 ?_
        refine XQ.done1 rfl rfl (Im.le_refl _) ?_
        simp_all [Btw.allowed]
        intro hh; obtain ⟨v, hv, he⟩ := h3; rw [hh v hv] at he; cases he
      · skip
        have hn := Btw.ok_n h1
        have hfr : ∀ y ∈ b.bs, 0 ≤ y.fr ∧ y.fr < x.length := fun y hy => by have := bndOk_iff.1 (Btw.ok_bnd h1 hy); omega
        have hto : ∀ y ∈ b.bs, 0 ≤ y.to ∧ y.to < x.length := fun y hy => by have := bndOk_iff.1 (Btw.ok_bnd h1 hy); omega
        have hvv : ∀ v ∈ x, -1000000000000 ≤ v ∧ v ≤ 1000000000000 := fun v hv => by simp [inB] at h3; have := h3 v hv; omega
        refine XC.skip ?_
        refine XQ.then_normal ?_
        refine XC.seq ?_
        refine XC.region ?_
        refine XO.rd rfl rfl rfl (fa28_1 rfl) ?_
        refine XO.rd rfl rfl rfl (Reads.load_own k26 rfl (by first | exact OwnAt.of 0 rfl rfl | exact OwnAt.of 1 rfl rfl | exact OwnAt.of 2 rfl rfl | exact OwnAt.of 3 rfl rfl | exact OwnAt.of 4 rfl rfl | exact OwnAt.of 5 rfl rfl)) ?_
        refine XO.rd rfl rfl rfl (Reads.makeFunc (fi := []) (fv := []) (ca := [.tmp 3]) (cv := [_]) trivial ⟨rfl, trivial⟩) ?_
        refine XO.callo (vs := [_, _]) rfl rfl rfl en48 ⟨rfl, rfl, trivial⟩ (containsFunc_bnd a cap b.bs 55 #[.pointer (some ⟨b3, 0, none⟩)] [some (b3, .cells #[.slice ax x.length capx] 22 (0, 0))] (fun y => decide (x.getD y.to.toNat 0 - x.getD y.fr.toNat 0 > y.mo)) _ hA hlen en55 (fun k hk => allowed2_any b3 ax x capx b.bs[k] _ hX hl (hfr _ (List.getElem_mem hk)) (hto _ (List.getElem_mem hk)) hvv)) (List.Perm.refl _) ?_
        rintro v I' L' _ ⟨rfl, rfl, rfl⟩
        refine XO.rd rfl rfl rfl (Reads.not rfl) ?_
        refine XO.rd rfl rfl rfl (Reads.assign rfl) ?_
        refine XO.nil ?_
        refine XQ.then_normal ?_
        refine XC.ret ?_
        refine XQ.dropn 2 ?_
        refine XQ.done1 rfl rfl (Im.le_refl _) ?_
        simp_all [Btw.allowed]

theorem checkCycle_any (b : Btw) (a : Option Addr) (cap : Nat) (al : Option Addr) (l : List Int) (capl : Nat) (I : Im) (hA : Arr I a b.bs) (hL : Arr I al l) (hlen : b.bs.length ≤ 1000000) (hll : l.length ≤ 1000000) : FC Try.prog 29 [.agg #[.int .i64 b.n, .slice a b.bs.length cap], .slice al l.length capl] I (fun u I' => u = .bool (b.checkCycle l) ∧ I' = I) := by
  refine FSo.intro (n := 54) Try.func29 rfl rfl rfl (fun K Lf => ?_)
  refine XC.seq ?_
  refine XC.region ?_
  refine XO.box_agg rfl rfl rfl (fun b2 => ?_)
  refine XO.rd rfl rfl rfl (Reads.assign rfl) ?_
  refine XO.nil ?_
  refine XQ.then_normal ?_
  refine XC.seq ?_
  refine XC.seq ?_
  refine XC.draw m_mixed none (.pure 0 (.eff 1 (.pure 2 (.pure 3 (.pure 4 (.pure 5 (.pure 6 (.pure 7 (.pure 8 (.pure 9 (.pure 10 (.pure 11 (.pure 12 (.pure 13 (.pure 14 (.pure 15 (.eff 16 (.pure 17 (.pure 18 (.done)))))))))))))))))))) (some (b2, .cells #[.int .i64 b.n, .slice a b.bs.length cap] 28 (0, 0)) :: ([] ++ Lf)) (by kernel_rfl) (List.Sublist.refl _) ?_
  refine XR.rd rfl rfl rfl (Reads.load_whole k28 z28 rfl (by first | exact WholeAt.of 0 rfl | exact WholeAt.of 1 rfl | exact WholeAt.of 2 rfl | exact WholeAt.of 3 rfl | exact WholeAt.of 4 rfl | exact WholeAt.of 5 rfl) (by rfl)) ?_
  refine XR.callp rfl rfl rfl en22 (valid_any b a cap _ hA hlen) ⟨rfl, trivial⟩ (List.Sublist.refl _) ?_
  refine XR.rd rfl rfl rfl (Reads.not rfl) ?_
  refine XR.rd rfl rfl rfl (Reads.move rfl) ?_
  refine XR.split (d := 12) rfl (fun h1 => ?_) (fun h1 => ?_)
  · skip
    simp at h1
    refine XR.s rfl (wg rfl rfl rfl) rfl ?_
    refine XR.s rfl (wg rfl rfl rfl) rfl ?_
    refine XR.s rfl (wg rfl rfl rfl) rfl ?_
    refine XR.rd rfl rfl rfl (Reads.pick_true rfl rfl) ?_
    refine XR.rd rfl rfl rfl (Reads.move rfl) ?_
    refine XR.s rfl (wg rfl rfl rfl) rfl ?_
    refine XR.s rfl (wg rfl rfl rfl) rfl ?_
    refine XR.s rfl (wg rfl rfl rfl) rfl ?_
    refine XR.s rfl (wg rfl rfl rfl) rfl ?_
    refine XR.s rfl (wg rfl rfl rfl) rfl ?_
    refine XR.s rfl (wg rfl rfl rfl) rfl ?_
    refine XR.s rfl (wg rfl rfl rfl) rfl ?_
    refine XR.se rfl (wg rfl rfl rfl) rfl (List.Sublist.refl _) ?_
    refine XR.s rfl (wg rfl rfl rfl) rfl ?_
    refine XR.rd rfl rfl rfl (Reads.pick_true rfl rfl) ?_
    refine XR.nil ?_
    refine XQ.then_normal ?_
    refine XC.cond rfl (fun _ => ?_) (fun hx => by cases hx)
    refine XC.seq ?_
    refine XC.region ?_
    refine XO.rd rfl rfl rfl (Reads.assign rfl) ?_
    refine XO.nil ?_
    refine XQ.then_normal ?_
    refine XC.ret ?_
    refine XQ.then_ret ?_
    refine XQ.dropn 1 ?_
    refine XQ.done1 rfl rfl (Im.le_refl _) ?_
    simp [Btw.checkCycle, *]
  · skip
    simp at h1
    refine XR.rd rfl (wg rfl rfl rfl) rfl (Reads.move rfl) ?_
    refine XR.rd rfl (wg rfl rfl rfl) rfl (Reads.len_slice Try.underlying22 rfl) ?_
    refine XR.rd rfl (wg rfl rfl rfl) rfl (Reads.cmp rfl rfl rfl) ?_
    refine XR.rd rfl rfl rfl (Reads.pick_false rfl rfl) ?_
    refine XR.rd rfl rfl rfl (Reads.move rfl) ?_
    refine XR.split (d := 17) rfl (fun h2 => ?_) (fun h2 => ?_)
    · skip
      simp [cmpInt] at h2
      refine XR.s rfl (wg rfl rfl rfl) rfl ?_
      refine XR.s rfl (wg rfl rfl rfl) rfl ?_
      refine XR.s rfl (wg rfl rfl rfl) rfl ?_
      refine XR.s rfl (wg rfl rfl rfl) rfl ?_
      refine XR.s rfl (wg rfl rfl rfl) rfl ?_
      refine XR.s rfl (wg rfl rfl rfl) rfl ?_
      refine XR.s rfl (wg rfl rfl rfl) rfl ?_
      refine XR.se rfl (wg rfl rfl rfl) rfl (List.Sublist.refl _) ?_
      refine XR.s rfl (wg rfl rfl rfl) rfl ?_
      refine XR.rd rfl rfl rfl (Reads.pick_true rfl rfl) ?_
      refine XR.nil ?_
      refine XQ.then_normal ?_
      refine XC.cond rfl (fun _ => ?_) (fun hx => by cases hx)
      refine XC.seq ?_
      refine XC.region ?_
      refine XO.rd rfl rfl rfl (Reads.assign rfl) ?_
      refine XO.nil ?_
      refine XQ.then_normal ?_
      refine XC.ret ?_
      refine XQ.then_ret ?_
      refine XQ.dropn 1 ?_
      refine XQ.done1 rfl rfl (Im.le_refl _) ?_
      simp_all [Btw.checkCycle]
    · skip
      simp [cmpInt] at h2
      have hl0 : 0 < l.length := List.length_pos_iff.2 h2
      refine XR.rd rfl (wg rfl rfl rfl) rfl (Reads.move rfl) ?_
      refine XR.rd rfl (wg rfl rfl rfl) rfl (Reads.index_slot (i := 0) Try.underlying22 z3 rfl rfl (by omega) (hL.isSome (by decide) (by omega)) rfl) ?_
      refine XR.rd rfl (wg rfl rfl rfl) rfl (Reads.load_at k3 rfl (hL.int (j := 0) (by omega))) ?_
      refine XR.rd rfl (wg rfl rfl rfl) rfl (fa28_1 rfl) ?_
      refine XR.rd rfl (wg rfl rfl rfl) rfl (Reads.load_own k26 rfl (by first | exact OwnAt.of 0 rfl rfl | exact OwnAt.of 1 rfl rfl | exact OwnAt.of 2 rfl rfl | exact OwnAt.of 3 rfl rfl | exact OwnAt.of 4 rfl rfl | exact OwnAt.of 5 rfl rfl)) ?_
      refine XR.rd rfl (wg rfl rfl rfl) rfl (Reads.len_slice Try.underlying26 rfl) ?_
      refine XR.rd rfl (wg rfl rfl rfl) rfl (Reads.sub rfl rfl (by omega)) ?_
      refine XR.callp rfl (wg rfl rfl rfl) rfl en47 (isIn_any _ _ _ _) ⟨rfl, rfl, rfl, trivial⟩ (List.Sublist.refl _) ?_
      refine XR.rd rfl (wg rfl rfl rfl) rfl (Reads.not rfl) ?_
      refine XR.rd rfl rfl rfl (Reads.pick_false rfl rfl) ?_
      refine XR.nil ?_
      refine XQ.then_normal ?_
      refine XC.cond rfl (fun h3 => ?_) (fun h3 => ?_)
      · skip
        simp at h3
        refine XC.seq ?_
        refine XC.region ?_
        refine XO.rd rfl rfl rfl (Reads.assign rfl) ?_
        refine XO.nil ?_
        refine XQ.then_normal ?_
        refine XC.ret ?_
        refine XQ.then_ret ?_
        refine XQ.dropn 1 ?_
        refine XQ.done1 rfl rfl (Im.le_refl _) ?_
        simp_all [Btw.checkCycle]
      · skip
        simp [inB] at h3
        have hj : l[0].toNat < b.bs.length := by omega
        have g0 : l.getD 0 0 = l[0] := by simp [hl0]
        have g1 : b.bs.getD l[0].toNat default = b.bs[l[0].toNat] := by simp [hj]
        refine XC.skip ?_
        refine XQ.then_normal ?_
        refine XC.seq ?_
        refine XC.draw m_mixed none (.pure 0 (.pure 1 (.pure 2 (.pure 3 (.pure 4 (.pure 5 (.pure 6 (.pure 7 (.pure 8 (.done)))))))))) (some (b2, .cells #[.int .i64 b.n, .slice a b.bs.length cap] 28 (0, 0)) :: ([] ++ Lf)) (by kernel_rfl) (List.Sublist.refl _) ?_
        refine XR.rd rfl rfl rfl (fa28_1 rfl) ?_
        refine XR.rd rfl rfl rfl (Reads.load_own k26 rfl (by first | exact OwnAt.of 0 rfl rfl | exact OwnAt.of 1 rfl rfl | exact OwnAt.of 2 rfl rfl | exact OwnAt.of 3 rfl rfl | exact OwnAt.of 4 rfl rfl | exact OwnAt.of 5 rfl rfl)) ?_
        refine XR.rd rfl rfl rfl (Reads.move rfl) ?_
        refine XR.rd rfl rfl rfl (Reads.index_slot (i := 0) Try.underlying22 z3 rfl rfl (by omega) (hL.isSome (by decide) (by omega)) rfl) ?_
        refine XR.rd rfl rfl rfl (Reads.load_at k3 rfl (hL.int (j := 0) (by omega))) ?_
        refine XR.rd rfl rfl rfl (Reads.index_slot Try.underlying26 z30 rfl rfl (by omega) (hA.isSome (by decide) (by omega)) rfl) ?_
        refine XR.rd rfl rfl rfl (fs30_0 rfl (hA.addr (by decide) (by omega))) ?_
        refine XR.rd rfl rfl rfl (Reads.load_at k3 rfl (hA.bnd (j := l[0].toNat) hj 0 _ rfl)) ?_
        refine XR.rd rfl rfl rfl (Reads.assign rfl) ?_
        refine XR.nil ?_
        refine XQ.then_normal ?_
        refine XC.seq ?_
        refine XC.region ?_
        refine XO.rd rfl rfl rfl (Reads.load_whole k28 z28 rfl (by first | exact WholeAt.of 0 rfl | exact WholeAt.of 1 rfl | exact WholeAt.of 2 rfl | exact WholeAt.of 3 rfl | exact WholeAt.of 4 rfl | exact WholeAt.of 5 rfl) (by rfl)) ?_
        refine XO.rd rfl rfl rfl (Reads.move rfl) ?_
        refine XO.rd rfl rfl rfl (Reads.move rfl) ?_
        refine XO.callp rfl rfl en56 (follow_any b a al cap capl _ l _ hA hL hlen hll (Btw.ok_mo h1)) ⟨rfl, rfl, rfl, trivial⟩ ?_
        refine XO.rd rfl rfl rfl (Reads.move rfl) ?_
        refine XO.rd rfl rfl rfl (Reads.extract rfl rfl) ?_
        refine XO.rd rfl rfl rfl (Reads.extract rfl rfl) ?_
        refine XO.rd rfl rfl rfl (Reads.extract rfl rfl) ?_
        refine XO.rd rfl rfl rfl (Reads.assign rfl) ?_
        refine XO.rd rfl rfl rfl (Reads.assign rfl) ?_
        refine XO.rd rfl rfl rfl (Reads.assign rfl) ?_
        refine XO.nil ?_
        refine XQ.then_normal ?_
        refine XC.seq ?_
        refine XC.region ?_
        refine XO.rd rfl rfl rfl (Reads.move rfl) ?_
        refine XO.rd rfl rfl rfl (Reads.move rfl) ?_
        refine XO.split (d := 45) rfl (fun h4 => ?_) (fun h4 => ?_)
        · skip
          skip
          refine XO.rd (wg rfl rfl rfl) rfl rfl (Reads.move rfl) ?_
          refine XO.rd (wg rfl rfl rfl) rfl rfl (Reads.move rfl) ?_
          refine XO.rd (wg rfl rfl rfl) rfl rfl (Reads.cmp rfl rfl rfl) ?_
          refine XO.rd rfl rfl rfl (Reads.pick_true rfl rfl) ?_
          refine XO.rd rfl rfl rfl (Reads.move rfl) ?_
          refine XO.split (d := 50) rfl (fun h5 => ?_) (fun h5 => ?_)
          · skip
            skip
            refine XO.rd (wg rfl rfl rfl) rfl rfl (Reads.move rfl) ?_
            refine XO.rd (wg rfl rfl rfl) rfl rfl (Reads.cmp rfl rfl rfl) ?_
            refine XO.rd rfl rfl rfl (Reads.pick_true rfl rfl) ?_
            refine XO.rd rfl rfl rfl (Reads.assign rfl) ?_
            refine XO.nil ?_
            refine XQ.then_normal ?_
            refine XC.ret ?_
            refine XQ.dropn 1 ?_
            refine XQ.done1 rfl rfl (Im.le_refl _) ?_
            refine ⟨rfl, ?_, rfl⟩
            simp only [Btw.checkCycle, g0, g1, h1, decide_eq_true hl0]
            simp_all [cmpInt, inB]
          · skip
            skip
            refine XO.s (wg rfl rfl rfl) rfl ?_
            refine XO.s (wg rfl rfl rfl) rfl ?_
            refine XO.rd rfl rfl rfl (Reads.pick_false rfl rfl) ?_
            refine XO.rd rfl rfl rfl (Reads.assign rfl) ?_
            refine XO.nil ?_
            refine XQ.then_normal ?_
            refine XC.ret ?_
            refine XQ.dropn 1 ?_
            refine XQ.done1 rfl rfl (Im.le_refl _) ?_
            refine ⟨rfl, ?_, rfl⟩
            simp only [Btw.checkCycle, g0, g1, h1, decide_eq_true hl0]
            simp_all [cmpInt, inB]
        · skip
          skip
          refine XO.s (wg rfl rfl rfl) rfl ?_
          refine XO.s (wg rfl rfl rfl) rfl ?_
          refine XO.s (wg rfl rfl rfl) rfl ?_
          refine XO.rd rfl rfl rfl (Reads.pick_false rfl rfl) ?_
          refine XO.rd rfl rfl rfl (Reads.move rfl) ?_
          refine XO.s (wg rfl rfl rfl) rfl ?_
          refine XO.s (wg rfl rfl rfl) rfl ?_
          refine XO.rd rfl rfl rfl (Reads.pick_false rfl rfl) ?_
          refine XO.rd rfl rfl rfl (Reads.assign rfl) ?_
          refine XO.nil ?_
          refine XQ.then_normal ?_
          refine XC.ret ?_
          refine XQ.dropn 1 ?_
          refine XQ.done1 rfl rfl (Im.le_refl _) ?_
          refine ⟨rfl, ?_, rfl⟩
          simp only [Btw.checkCycle, g0, g1, h1, decide_eq_true hl0]
          simp_all [cmpInt, inB]

theorem checkChain_any (b : Btw) (x : Bnd) (a : Option Addr) (cap : Nat) (al : Option Addr) (l : List Int) (capl : Nat) (I : Im) (hA : Arr I a b.bs) (hL : Arr I al l) (hlen : b.bs.length ≤ 1000000) (hll : l.length ≤ 1000000) : FC Try.prog 31 [.agg #[.int .i64 b.n, .slice a b.bs.length cap], .agg x.cs.toArray, .slice al l.length capl] I (fun u I' => u = .bool (b.checkChain x l) ∧ I' = I) := by
  refine FSo.intro (n := 42) Try.func31 rfl rfl rfl (fun K Lf => ?_)
  refine XC.seq ?_
  refine XC.region ?_
  refine XO.box_agg rfl rfl rfl (fun b3 => ?_)
  refine XO.box_agg rfl rfl rfl (fun b4 => ?_)
  refine XO.rd rfl rfl rfl (Reads.assign rfl) ?_
  refine XO.nil ?_
  refine XQ.then_normal ?_
  refine XC.seq ?_
  refine XC.seq ?_
  refine XC.region ?_
  refine XO.rd rfl rfl rfl (Reads.load_whole k28 z28 rfl (by first | exact WholeAt.of 0 rfl | exact WholeAt.of 1 rfl | exact WholeAt.of 2 rfl | exact WholeAt.of 3 rfl | exact WholeAt.of 4 rfl | exact WholeAt.of 5 rfl) (by rfl)) ?_
  refine XO.callp rfl rfl en22 (valid_any b a cap _ hA hlen) ⟨rfl, trivial⟩ ?_
  refine XO.rd rfl rfl rfl (Reads.not rfl) ?_
  refine XO.rd rfl rfl rfl (Reads.move rfl) ?_
  refine XO.split (d := 13) rfl (fun h1 => ?_) (fun h1 => ?_)
  · skip
    simp at h1
    refine XO.s (wg rfl rfl rfl) rfl ?_
    refine XO.s (wg rfl rfl rfl) rfl ?_
    refine XO.s (wg rfl rfl rfl) rfl ?_
    refine XO.s (wg rfl rfl rfl) rfl ?_
    refine XO.s (wg rfl rfl rfl) rfl ?_
    refine XO.rd rfl rfl rfl (Reads.pick_true rfl rfl) ?_
    refine XO.nil ?_
    refine XQ.then_normal ?_
    refine XC.cond rfl (fun _ => ?_) (fun hx => by cases hx)
    refine XC.seq ?_
    refine XC.region ?_
    refine XO.rd rfl rfl rfl (Reads.assign rfl) ?_
    refine XO.nil ?_
    refine XQ.then_normal ?_
    refine XC.ret ?_
    refine XQ.then_ret ?_
    refine XQ.dropn 2 ?_
    refine XQ.done1 rfl rfl (Im.le_refl _) ?_
    simp_all [Btw.checkChain, cmpInt]
  · skip
    simp at h1
    refine XO.rd (wg rfl rfl rfl) rfl rfl (fa28_0 rfl) ?_
    refine XO.rd (wg rfl rfl rfl) rfl rfl (Reads.load_own k3 rfl (by first | exact OwnAt.of 0 rfl rfl | exact OwnAt.of 1 rfl rfl | exact OwnAt.of 2 rfl rfl | exact OwnAt.of 3 rfl rfl | exact OwnAt.of 4 rfl rfl | exact OwnAt.of 5 rfl rfl)) ?_
    refine XO.rd (wg rfl rfl rfl) rfl rfl (Reads.load_whole k30 z30 rfl (by first | exact WholeAt.of 0 rfl | exact WholeAt.of 1 rfl | exact WholeAt.of 2 rfl | exact WholeAt.of 3 rfl | exact WholeAt.of 4 rfl | exact WholeAt.of 5 rfl) (by rfl)) ?_
    refine XO.callp (wg rfl rfl rfl) rfl en50 (isBound_any _ x _ (Btw.ok_n h1)) ⟨rfl, rfl, trivial⟩ ?_
    refine XO.rd (wg rfl rfl rfl) rfl rfl (Reads.not rfl) ?_
    refine XO.rd rfl rfl rfl (Reads.pick_false rfl rfl) ?_
    refine XO.nil ?_
    refine XQ.then_normal ?_
    refine XC.cond rfl (fun h2 => ?_) (fun h2 => ?_)
    · skip
      simp at h2
      refine XC.seq ?_
      refine XC.region ?_
      refine XO.rd rfl rfl rfl (Reads.assign rfl) ?_
      refine XO.nil ?_
      refine XQ.then_normal ?_
      refine XC.ret ?_
      refine XQ.then_ret ?_
      refine XQ.dropn 2 ?_
      refine XQ.done1 rfl rfl (Im.le_refl _) ?_
      simp_all [Btw.checkChain, cmpInt]
    · skip
      simp at h2
      refine XC.skip ?_
      refine XQ.then_normal ?_
      refine XC.seq ?_
      refine XC.region ?_
      refine XO.rd rfl rfl rfl (Reads.load_whole k28 z28 rfl (by first | exact WholeAt.of 0 rfl | exact WholeAt.of 1 rfl | exact WholeAt.of 2 rfl | exact WholeAt.of 3 rfl | exact WholeAt.of 4 rfl | exact WholeAt.of 5 rfl) (by rfl)) ?_
      refine XO.rd rfl rfl rfl (fa30_0 rfl) ?_
      refine XO.rd rfl rfl rfl (Reads.load_own k3 rfl (by first | exact OwnAt.of 0 rfl rfl | exact OwnAt.of 1 rfl rfl | exact OwnAt.of 2 rfl rfl | exact OwnAt.of 3 rfl rfl | exact OwnAt.of 4 rfl rfl | exact OwnAt.of 5 rfl rfl)) ?_
      refine XO.rd rfl rfl rfl (Reads.move rfl) ?_
      refine XO.callp rfl rfl en56 (follow_any b a al cap capl _ l _ hA hL hlen hll (Btw.ok_mo h1)) ⟨rfl, rfl, rfl, trivial⟩ ?_
      refine XO.rd rfl rfl rfl (Reads.move rfl) ?_
      refine XO.rd rfl rfl rfl (Reads.extract rfl rfl) ?_
      refine XO.rd rfl rfl rfl (Reads.extract rfl rfl) ?_
      refine XO.rd rfl rfl rfl (Reads.extract rfl rfl) ?_
      refine XO.rd rfl rfl rfl (Reads.assign rfl) ?_
      refine XO.rd rfl rfl rfl (Reads.assign rfl) ?_
      refine XO.rd rfl rfl rfl (Reads.assign rfl) ?_
      refine XO.nil ?_
      refine XQ.then_normal ?_
      refine XC.seq ?_
      refine XC.region ?_
      refine XO.rd rfl rfl rfl (Reads.move rfl) ?_
      refine XO.rd rfl rfl rfl (Reads.move rfl) ?_
      refine XO.split (d := 30) rfl (fun h3 => ?_) (fun h3 => ?_)
      · skip
        skip
        refine XO.rd (wg rfl rfl rfl) rfl rfl (Reads.move rfl) ?_
        refine XO.rd (wg rfl rfl rfl) rfl rfl (fa30_1 rfl) ?_
        refine XO.rd (wg rfl rfl rfl) rfl rfl (Reads.load_own k3 rfl (by first | exact OwnAt.of 0 rfl rfl | exact OwnAt.of 1 rfl rfl | exact OwnAt.of 2 rfl rfl | exact OwnAt.of 3 rfl rfl | exact OwnAt.of 4 rfl rfl | exact OwnAt.of 5 rfl rfl)) ?_
        refine XO.rd (wg rfl rfl rfl) rfl rfl (Reads.cmp rfl rfl rfl) ?_
        refine XO.rd rfl rfl rfl (Reads.pick_true rfl rfl) ?_
        refine XO.rd rfl rfl rfl (Reads.move rfl) ?_
        refine XO.split (d := 36) rfl (fun h4 => ?_) (fun h4 => ?_)
        · skip
          skip
          refine XO.rd (wg rfl rfl rfl) rfl rfl (Reads.move rfl) ?_
          refine XO.rd (wg rfl rfl rfl) rfl rfl (fa30_2 rfl) ?_
          refine XO.rd (wg rfl rfl rfl) rfl rfl (Reads.load_own k3 rfl (by first | exact OwnAt.of 0 rfl rfl | exact OwnAt.of 1 rfl rfl | exact OwnAt.of 2 rfl rfl | exact OwnAt.of 3 rfl rfl | exact OwnAt.of 4 rfl rfl | exact OwnAt.of 5 rfl rfl)) ?_
          refine XO.rd (wg rfl rfl rfl) rfl rfl (Reads.cmp rfl rfl rfl) ?_
          refine XO.rd rfl rfl rfl (Reads.pick_true rfl rfl) ?_
          refine XO.rd rfl rfl rfl (Reads.assign rfl) ?_
          refine XO.nil ?_
          refine XQ.then_normal ?_
          refine XC.ret ?_
          refine XQ.dropn 2 ?_
          refine XQ.done1 rfl rfl (Im.le_refl _) ?_
          simp_all [Btw.checkChain, cmpInt]
        · skip
          skip
          refine XO.s (wg rfl rfl rfl) rfl ?_
          refine XO.s (wg rfl rfl rfl) rfl ?_
          refine XO.s (wg rfl rfl rfl) rfl ?_
          refine XO.s (wg rfl rfl rfl) rfl ?_
          refine XO.rd rfl rfl rfl (Reads.pick_false rfl rfl) ?_
          refine XO.rd rfl rfl rfl (Reads.assign rfl) ?_
          refine XO.nil ?_
          refine XQ.then_normal ?_
          refine XC.ret ?_
          refine XQ.dropn 2 ?_
          refine XQ.done1 rfl rfl (Im.le_refl _) ?_
          simp_all [Btw.checkChain, cmpInt]
      · skip
        skip
        refine XO.s (wg rfl rfl rfl) rfl ?_
        refine XO.s (wg rfl rfl rfl) rfl ?_
        refine XO.s (wg rfl rfl rfl) rfl ?_
        refine XO.s (wg rfl rfl rfl) rfl ?_
        refine XO.rd rfl rfl rfl (Reads.pick_false rfl rfl) ?_
        refine XO.rd rfl rfl rfl (Reads.move rfl) ?_
        refine XO.s (wg rfl rfl rfl) rfl ?_
        refine XO.s (wg rfl rfl rfl) rfl ?_
        refine XO.s (wg rfl rfl rfl) rfl ?_
        refine XO.s (wg rfl rfl rfl) rfl ?_
        refine XO.rd rfl rfl rfl (Reads.pick_false rfl rfl) ?_
        refine XO.rd rfl rfl rfl (Reads.assign rfl) ?_
        refine XO.nil ?_
        refine XQ.then_normal ?_
        refine XC.ret ?_
        refine XQ.dropn 2 ?_
        refine XQ.done1 rfl rfl (Im.le_refl _) ?_
        simp_all [Btw.checkChain, cmpInt]

theorem none1_any (i k : Nat) (I : Im) : FC Try.prog 65 [.int .i64 i, .int .i64 k] I (fun u I' => u = .int .i64 (mat0 i k) ∧ I' = I) := by
  refine FSo.intro (n := 8) Try.func65 rfl rfl rfl (fun K Lf => ?_)
  refine XC.seq ?_
  refine XC.region ?_
  refine XO.rd rfl rfl rfl (Reads.assign rfl) ?_
  refine XO.nil ?_
  refine XQ.then_normal ?_
  refine XC.seq ?_
  refine XC.seq ?_
  refine XC.region ?_
  refine XO.rd rfl rfl rfl (Reads.move rfl) ?_
  refine XO.rd rfl rfl rfl (Reads.move rfl) ?_
  refine XO.rd rfl rfl rfl (Reads.cmp rfl rfl rfl) ?_
  refine XO.nil ?_
  refine XQ.then_normal ?_
  refine XC.cond rfl (fun h1 => ?_) (fun h1 => ?_)
  · skip
    simp [cmpInt] at h1
    refine XC.seq ?_
    refine XC.region ?_
    refine XO.rd rfl rfl rfl (Reads.assign rfl) ?_
    refine XO.nil ?_
    refine XQ.then_normal ?_
    refine XC.ret ?_
    refine XQ.then_ret ?_
    refine XQ.done1 rfl rfl (Im.le_refl _) ?_
    simp [mat0, far]; omega
  · skip
    simp [cmpInt] at h1
    refine XC.skip ?_
    refine XQ.then_normal ?_
    refine XC.seq ?_
    refine XC.region ?_
    refine XO.rd rfl rfl rfl (Reads.assign rfl) ?_
    refine XO.nil ?_
    refine XQ.then_normal ?_
    refine XC.ret ?_
    refine XQ.done1 rfl rfl (Im.le_refl _) ?_
    simp [mat0, far]; omega

theorem walks11_any (i k : Nat) (I : Im) : FC Try.prog 61 [.int .i64 i, .int .i64 k] I (fun u I' => u = .int .i64 (matFar i k) ∧ I' = I) := by
  refine FSo.intro (n := 5) Try.func61 rfl rfl rfl (fun K Lf => ?_)
  refine XC.seq ?_
  refine XC.region ?_
  refine XO.rd rfl rfl rfl (Reads.assign rfl) ?_
  refine XO.nil ?_
  refine XQ.then_normal ?_
  refine XC.seq ?_
  refine XC.region ?_
  refine XO.rd rfl rfl rfl (Reads.assign rfl) ?_
  refine XO.nil ?_
  refine XQ.then_normal ?_
  refine XC.ret ?_
  refine XQ.done1 rfl rfl (Im.le_refl _) ?_
  simp [matFar, far]

theorem square_any (n : Nat) (g : FuncId) (D : Mat) (I : Im) (hn : n ≤ 16) (hg : Enters Try.prog g) (hp : ∀ (i k : Nat) (J : Im), FC Try.prog g [.int .i64 i, .int .i64 k] J (fun u J' => u = .int .i64 (D i k) ∧ J' = J)) : FSo Try.prog 60 [.int .i64 n, .func (.func g) #[] #[]] I [] (fun u I' L' => ∃ b T, u = .slice (some ⟨b, 0, none⟩) n n ∧ I' = I ∧ L' = tabL 22 3 b T ∧ TabIs T n D (fun _ => n)) := by
  refine FSo.intro (n := 34) Try.func60 rfl rfl rfl (fun K Lf => ?_)
  refine XC.seq ?_
  refine XC.region ?_
  refine XO.rd rfl rfl rfl (Reads.assign rfl) ?_
  refine XO.nil ?_
  refine XQ.then_normal ?_
  refine XC.seq ?_
  refine XC.region ?_
  refine XO.rd rfl rfl rfl (Reads.move rfl) ?_
  refine XO.makeSlice rfl rfl Try.underlying38 el22 rfl rfl rfl (by omega) (by omega) (fun bt => ?_)
  refine XO.rd rfl rfl rfl (Reads.assign rfl) ?_
  refine XO.nil ?_
  refine XQ.then_normal ?_
  refine XC.seq ?_
  refine XC.seq ?_
  refine XC.region ?_
  refine XO.rd rfl rfl rfl (Reads.move rfl) ?_
  refine XO.rd rfl rfl rfl (Reads.move rfl) ?_
  refine XO.nil ?_
  refine XQ.then_normal ?_
  refine XC.block ?_
  refine XC.same (tabL_start (ei := 3)) ?_
  refine XC.loop (ι := Nat × List Vec) (fun i => [(0, .int .i64 n), (1, .func (.func g) #[] #[]), (5, .slice (some ⟨bt, 0, none⟩) n n), (10, .int .i64 n), (11, .int .i64 i.1)]) (fun _ => I) (fun i => tabL 22 3 bt i.2 ++ ([] ++ Lf)) (fun i => i.1 ≤ n ∧ TabIs i.2 n D (fun j => if j < i.1 then n else 0)) (fun i => n - i.1) (0, List.replicate n Vec.nil) ⟨Nat.zero_le _, by simpa using TabIs.start n D⟩ ⟨rfl, rfl, rfl, rfl, rfl, trivial⟩ rfl (List.Perm.refl _) (fun q hq => ?_)
  obtain ⟨i, T⟩ := q
  obtain ⟨hi, hT⟩ := hq
  simp only at hi hT ⊢
  refine XC.seq ?_
  refine XC.region ?_
  refine XO.rd rfl rfl rfl (Reads.cmp rfl rfl rfl) ?_
  refine XO.nil ?_
  refine XQ.then_normal ?_
  refine XC.seq ?_
  refine XC.cond rfl (fun h1 => ?_) (fun h1 => ?_)
  · skip
    simp only [cmpInt, decide_eq_true_eq] at h1
    have hin : i < n := by omega
    refine XC.skip ?_
    refine XQ.then_normal ?_
    refine XC.seq ?_
    refine XC.block ?_
    refine XC.seq ?_
    refine XC.region ?_
    refine XO.rd rfl rfl rfl (Reads.move rfl) ?_
    refine XO.rd rfl rfl rfl (Reads.assign rfl) ?_
    refine XO.nil ?_
    refine XQ.then_normal ?_
    refine XC.seq ?_
    refine XC.region ?_
    refine XO.rd rfl rfl rfl (Reads.move rfl) ?_
    refine XO.rd rfl rfl rfl (Reads.move rfl) ?_
    refine XO.nil ?_
    refine XQ.then_normal ?_
    refine XC.block ?_
    refine XC.loop (ι := Nat × List Vec) (fun q => [(0, .int .i64 n), (1, .func (.func g) #[] #[]), (5, .slice (some ⟨bt, 0, none⟩) n n), (10, .int .i64 n), (11, .int .i64 i), (6, .int .i64 i), (14, .int .i64 n), (15, .int .i64 q.1)]) (fun _ => I) (fun q => tabL 22 3 bt q.2 ++ ([] ++ Lf)) (fun q => q.1 ≤ n ∧ TabIs q.2 n D (fun j => if j < i then n else if j = i then q.1 else 0)) (fun q => n - q.1) (0, T) ⟨Nat.zero_le _, hT.congr (fun j _ => by simp only; split <;> simp)⟩ ⟨rfl, rfl, rfl, rfl, rfl, rfl, rfl, rfl, trivial⟩ rfl (List.Perm.refl _) (fun q hq => ?_)
    clear hT T
    obtain ⟨k, T⟩ := q
    obtain ⟨hk, hT⟩ := hq
    simp only at hk hT ⊢
    have hiT : i < T.length := by have := hT.len; omega
    refine XC.seq ?_
    refine XC.region ?_
    refine XO.rd rfl rfl rfl (Reads.cmp rfl rfl rfl) ?_
    refine XO.nil ?_
    refine XQ.then_normal ?_
    refine XC.seq ?_
    refine XC.cond rfl (fun h2 => ?_) (fun h2 => ?_)
    · skip
      simp only [cmpInt, decide_eq_true_eq] at h2
      have hkn : k < n := by omega
      refine XC.skip ?_
      refine XQ.then_normal ?_
      refine XC.seq ?_
      refine XC.block ?_
      refine XC.seq ?_
      refine XC.region ?_
      refine XO.rd rfl rfl rfl (Reads.move rfl) ?_
      refine XO.rd rfl rfl rfl (Reads.assign rfl) ?_
      refine XO.nil ?_
      refine XQ.then_normal ?_
      refine XC.draw m_mixed (some 13) (.pure 0 (.pure 1 (.pure 2 (.pure 3 (.pure 4 (.pure 5 (.pure 6 (.pure 7 (.pure 8 (.eff 9 (.eff 10 (.eff 11 (.pure 12 (.eff 13 (.done))))))))))))))) [some (bt, .cells (T.map Vec.val).toArray 22 (0, 0))] (by kernel_rfl) (List.singleton_sublist.2 (by simp [tabL])) ?_
      refine XR.rd rfl rfl rfl (Reads.move rfl) ?_
      refine XR.rd rfl rfl rfl (Reads.move rfl) ?_
      refine XR.rd rfl rfl rfl (Reads.move rfl) ?_
      refine XR.rd rfl rfl rfl (Reads.move rfl) ?_
      refine XR.rd rfl rfl rfl (Reads.index_own (q := i) Try.underlying38 z22 rfl rfl (by omega) (by simp)) ?_
      refine XR.rd rfl rfl rfl (Reads.load_own (v := T[i].val) k22 rfl ⟨(T.map Vec.val).toArray, 22, (0, 0), by simp [tabL], by simp [hiT]⟩) ?_
      refine XR.rd rfl rfl rfl (Reads.move rfl) ?_
      refine XR.rd rfl rfl rfl (Reads.move rfl) ?_
      refine XR.rd rfl rfl rfl (Reads.move rfl) ?_
      refine XR.callo (vs := [_, _]) (L1 := []) rfl rfl rfl rfl hg ⟨rfl, rfl, trivial⟩ (hp i k _) (List.Perm.refl _) ?_
      rintro v I' L' _ ⟨rfl, rfl, rfl⟩
      refine ⟨.inr (List.singleton_sublist.2 (by simp [tabL])), ?_⟩
      refine XR.buildL [.int .i64 (D i k)] [.int .i64 (D i k)] rfl rfl rfl Try.underlying22 el3 rfl (by simp) ⟨rfl, rfl, trivial⟩ rfl rfl (List.singleton_sublist.2 (by simp [tabL])) (fun bu => ?_)
      refine XR.append (V := T[i]) (i + 1 + 1) rfl rfl rfl Try.underlying22 el3 rfl rfl (hT.row i hiT) (tabL_get (eo := 22) (b := bt) hiT) (.slice Try.underlying22 (.inr (.inr ⟨bu, 0, rfl, fun j v hj => ⟨#[.int .i64 (D i k)], 3, (0, 0), by simp, by simpa using hj⟩⟩)) rfl (by simp [Value.oneCell'])) (by have := (hT.row i hiT).len; simp [rowC_len] at this; omega) (by have := (hT.row i hiT).len; simp [rowC_len] at this; omega) ?_
      intro V' hV' _
      refine ⟨.inr (List.singleton_sublist.2 (by simp [tabL])), ?_⟩
      refine XR.rd rfl rfl rfl (Reads.index_own (q := i) Try.underlying38 z22 rfl rfl (by omega) (by simp)) ?_
      refine XR.store 1 rfl rfl z22 rfl rfl rfl rfl (by simp; omega) (.inl rfl) ?_
      refine XR.nil ?_
      refine XQ.block_normal ?_
      refine XQ.then_normal ?_
      refine XC.region ?_
      refine XO.rd rfl rfl rfl (Reads.add rfl rfl (by omega)) ?_
      refine XO.rd rfl rfl rfl (Reads.move rfl) ?_
      refine XO.nil ?_
      refine XQ.dropn 1 ?_
      refine XQ.back (k + 1, T.set i V') ⟨by omega, hT.set (by simpa [rowC_succ] using hV') (fun j hj => by simp [hj]) (fun _ _ => rfl)⟩ (by simp only; omega) ⟨rfl, rfl, rfl, rfl, rfl, rfl, rfl, rfl, trivial⟩ rfl (List.Perm.of_eq (tabL_set hiT))
    · skip
      simp only [cmpInt, decide_eq_false_iff_not] at h2
      have hkn : k = n := by omega
      have hT' : TabIs T n D (fun j => if j < i + 1 then n else 0) := hT.congr (fun j _ => by simp only [hkn]; split <;> split <;> (try split) <;> omega)
      refine XC.exit ?_
      refine XQ.then_exit ?_
      refine XQ.then_exit ?_
      refine XQ.block_exit ?_
      refine XQ.block_normal ?_
      refine XQ.then_normal ?_
      refine XC.region ?_
      refine XO.rd rfl rfl rfl (Reads.add rfl rfl (by omega)) ?_
      refine XO.rd rfl rfl rfl (Reads.move rfl) ?_
      refine XO.nil ?_
      refine XQ.back (i + 1, T) ⟨by omega, hT'⟩ (by simp only; omega) ⟨rfl, rfl, rfl, rfl, rfl, trivial⟩ rfl (List.Perm.refl _)
  · skip
    simp only [cmpInt, decide_eq_false_iff_not] at h1
    have hin : i = n := by omega
    subst hin
    refine XC.exit ?_
    refine XQ.then_exit ?_
    refine XQ.then_exit ?_
    refine XQ.block_exit ?_
    refine XQ.then_normal ?_
    refine XC.seq ?_
    refine XC.region ?_
    refine XO.rd rfl rfl rfl (Reads.move rfl) ?_
    refine XO.rd rfl rfl rfl (Reads.assign rfl) ?_
    refine XO.nil ?_
    refine XQ.then_normal ?_
    refine XC.ret ?_
    refine XQ.done1 rfl rfl (Im.le_refl _) ?_
    exact ⟨bt, T, rfl, rfl, rfl, hT.congr (fun j hj => by simp [hj])⟩

theorem none_any (n : Nat) (I : Im) (hn : n ≤ 16) : FSo Try.prog 58 [.int .i64 n] I [] (fun u I' L' => ∃ b T, u = .slice (some ⟨b, 0, none⟩) n n ∧ I' = I ∧ L' = tabL 22 3 b T ∧ TabIs T n mat0 (fun _ => n)) := by
  refine FSo.intro (n := 5) Try.func58 rfl rfl rfl (fun K Lf => ?_)
  refine XC.seq ?_
  refine XC.region ?_
  refine XO.rd rfl rfl rfl (Reads.assign rfl) ?_
  refine XO.nil ?_
  refine XQ.then_normal ?_
  refine XC.seq ?_
  refine XC.region ?_
  refine XO.rd rfl rfl rfl (Reads.move rfl) ?_
  refine XO.callo (vs := [_, _]) (L1 := []) rfl rfl rfl en60 ⟨rfl, rfl, trivial⟩ (square_any n 65 mat0 I hn en65 (fun i k J => none1_any i k J)) (List.Perm.refl _) ?_
  rintro v I' L' _ ⟨bt, T, rfl, rfl, rfl, hT⟩
  refine XO.rd rfl rfl rfl (Reads.assign rfl) ?_
  refine XO.nil ?_
  refine XQ.then_normal ?_
  refine XC.ret ?_
  refine XQ.done1 (L := tabL 22 3 bt T) rfl rfl (Im.le_refl _) ?_
  exact ⟨bt, T, rfl, rfl, rfl, hT⟩

end Go.Proofs.Ytlgfpieokaegiaa
