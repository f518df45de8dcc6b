/- Walks of layer 6: Close, Solve, walks, chains. -/
import Derived.Test.YtlgfpieokaegiaaB3
import Derived.Test.YtlgfpieokaegiaaXl
namespace Go.Proofs.Ytlgfpieokaegiaa
open Go.Xe

theorem close_any (b : Btw) (a : Option Addr) (cap : Nat) (I : Im) (hA : Arr I a b.bs) (hlen : b.bs.length ≤ 1000000) : FC Try.prog 16 [.agg #[.int .i64 b.n, .slice a b.bs.length cap]] I (fun u I' => ROut I' u b.close) := by
  obtain ⟨bn, bs⟩ := b
  refine FSo.intro (n := 17) Try.func16 rfl rfl rfl (fun K Lf => ?_)
  refine XC.seq ?_
  refine XC.region ?_
  refine XO.box_agg rfl rfl rfl (fun b1 => ?_)
  refine XO.rd rfl rfl rfl (Reads.assign rfl) ?_
  refine XO.rd rfl rfl rfl (Reads.assign rfl) ?_
  refine XO.nil ?_
  refine XQ.then_normal ?_
  refine XC.seq ?_
  refine XC.seq ?_
  refine XC.region ?_
  refine XO.rd rfl rfl rfl (Reads.load_whole k28 z28 rfl (by first | exact WholeAt.of 0 rfl | exact WholeAt.of 1 rfl | exact WholeAt.of 2 rfl | exact WholeAt.of 3 rfl | exact WholeAt.of 4 rfl | exact WholeAt.of 5 rfl) (by rfl)) ?_
  refine XO.callp rfl rfl en22 (valid_any ⟨bn, bs⟩ a cap _ hA hlen) ⟨rfl, trivial⟩ ?_
  refine XO.rd rfl rfl rfl (Reads.not rfl) ?_
  refine XO.nil ?_
  refine XQ.then_normal ?_
  refine XC.cond rfl (fun h1 => ?_) (fun h1 => ?_)
  · skip
    simp at h1
    have hok : Btw.ok ⟨bn, bs⟩ = false := h1
    refine XC.seq ?_
    refine XC.region ?_
    refine XO.rd rfl rfl rfl (Reads.assign rfl) ?_
    refine XO.rd rfl rfl rfl (Reads.assign rfl) ?_
    refine XO.nil ?_
    refine XQ.then_normal ?_
    refine XC.ret ?_
    refine XQ.then_ret ?_
    refine XQ.dropn 1 ?_
    refine XQ.done2 rfl rfl rfl (Im.le_refl _) ?_
    exact ⟨rfl, _, _, rfl, (fun r hr => by simp [Btw.close, hok] at hr), fun _ => ⟨rfl, rfl⟩⟩
  · skip
    simp at h1
    have hok : Btw.ok ⟨bn, bs⟩ = true := h1
    obtain ⟨n, rfl⟩ := Int.eq_ofNat_of_zero_le (Btw.ok_n hok).1
    simp only at hA ⊢
    refine XC.skip ?_
    refine XQ.then_normal ?_
    refine XC.seq ?_
    refine XC.region ?_
    refine XO.rd rfl rfl rfl (Reads.load_whole k28 z28 rfl (by first | exact WholeAt.of 0 rfl | exact WholeAt.of 1 rfl | exact WholeAt.of 2 rfl | exact WholeAt.of 3 rfl | exact WholeAt.of 4 rfl | exact WholeAt.of 5 rfl) (by rfl)) ?_
    refine XO.call rfl rfl en39 (distances_any n bs a cap _ hA hok) ⟨rfl, trivial⟩ ?_
    rintro u I' hle ⟨v, rfl, hy, hno⟩
    refine XO.rd rfl rfl rfl (Reads.move rfl) ?_
    refine XO.rd rfl rfl rfl (Reads.extract rfl rfl) ?_
    refine XO.rd rfl rfl rfl (Reads.extract rfl rfl) ?_
    refine XO.rd rfl rfl rfl (Reads.assign rfl) ?_
    refine XO.rd rfl rfl rfl (Reads.assign rfl) ?_
    refine XO.nil ?_
    refine XQ.then_normal ?_
    refine XC.seq ?_
    refine XC.seq ?_
    refine XC.region ?_
    refine XO.rd rfl rfl rfl (Reads.move rfl) ?_
    refine XO.rd rfl rfl rfl (Reads.not rfl) ?_
    refine XO.nil ?_
    refine XQ.then_normal ?_
    refine XC.cond rfl (fun h2 => ?_) (fun h2 => ?_)
    · skip
      simp at h2
      refine XC.seq ?_
      refine XC.region ?_
      refine XO.rd rfl rfl rfl (Reads.assign rfl) ?_
      refine XO.rd rfl rfl rfl (Reads.assign rfl) ?_
      refine XO.nil ?_
      refine XQ.then_normal ?_
      refine XC.ret ?_
      refine XQ.then_ret ?_
      refine XQ.dropn 1 ?_
      refine XQ.done2 rfl rfl rfl hle ?_
      exact ⟨rfl, _, _, rfl, (fun r hr => by simp [Btw.close, h2] at hr), fun _ => ⟨rfl, rfl⟩⟩
    · skip
      simp at h2
      refine XC.skip ?_
      refine XQ.then_normal ?_
      refine XC.seq ?_
      refine XC.region ?_
      refine XO.rd rfl rfl rfl (Reads.move rfl) ?_
      refine XO.rd rfl rfl rfl (Reads.assign rfl) ?_
      refine XO.rd rfl rfl rfl (Reads.assign rfl) ?_
      refine XO.nil ?_
      refine XQ.then_normal ?_
      refine XC.ret ?_
      refine XQ.dropn 1 ?_
      refine XQ.done2 rfl rfl rfl hle ?_
      exact ⟨rfl, _, _, rfl, (fun r hr => ⟨rfl, by simp [Btw.close, hok, h2] at hr; subst hr; exact hy h2⟩), (fun hr => by simp [Btw.close, hok, h2] at hr)⟩

theorem solve_any (b : Btw) (a : Option Addr) (cap : Nat) (I : Im) (hA : Arr I a b.bs) (hlen : b.bs.length ≤ 1000000) : FC Try.prog 18 [.agg #[.int .i64 b.n, .slice a b.bs.length cap]] I (fun u I' => ROut I' u b.solve) := by
  obtain ⟨bn, bs⟩ := b
  refine FSo.intro (n := 47) Try.func18 rfl rfl rfl (fun K Lf => ?_)
  refine XC.seq ?_
  refine XC.region ?_
  refine XO.box_agg rfl rfl rfl (fun b1 => ?_)
  refine XO.rd rfl rfl rfl (Reads.assign rfl) ?_
  refine XO.rd rfl rfl rfl (Reads.assign rfl) ?_
  refine XO.nil ?_
  refine XQ.then_normal ?_
  refine XC.seq ?_
  refine XC.region ?_
  refine XO.rd rfl rfl rfl (Reads.load_whole k28 z28 rfl (by first | exact WholeAt.of 0 rfl | exact WholeAt.of 1 rfl | exact WholeAt.of 2 rfl | exact WholeAt.of 3 rfl | exact WholeAt.of 4 rfl | exact WholeAt.of 5 rfl) (by rfl)) ?_
  refine XO.call rfl rfl en16 (close_any ⟨bn, bs⟩ a cap _ hA hlen) ⟨rfl, trivial⟩ ?_
  rintro u I' hle ⟨v, e, rfl, hy, hno⟩
  refine XO.rd rfl rfl rfl (Reads.move rfl) ?_
  refine XO.rd rfl rfl rfl (Reads.extract rfl rfl) ?_
  refine XO.rd rfl rfl rfl (Reads.extract rfl rfl) ?_
  refine XO.rd rfl rfl rfl (Reads.assign rfl) ?_
  refine XO.rd rfl rfl rfl (Reads.assign rfl) ?_
  refine XO.nil ?_
  refine XQ.then_normal ?_
  refine XC.seq ?_
  refine XC.seq ?_
  refine XC.region ?_
  refine XO.rd rfl rfl rfl (Reads.move rfl) ?_
  refine XO.rd rfl rfl rfl (Reads.cmp rfl rfl rfl) ?_
  refine XO.nil ?_
  refine XQ.then_normal ?_
  refine XC.cond rfl (fun h1 => ?_) (fun h1 => ?_)
  · skip
    simp [cmpInt] at h1
    have hnone : Btw.solve ⟨bn, bs⟩ = none := by
        cases hc : Btw.close ⟨bn, bs⟩ with
        | none => simp [Btw.close] at hc; simp [Btw.solve]; exact hc
        | some r => exact absurd (hy r hc).1 h1
    have he : e = 60 := by
        cases hc : Btw.close ⟨bn, bs⟩ with
        | none => exact (hno hc).1
        | some r => exact absurd (hy r hc).1 h1
    refine XC.seq ?_
    refine XC.region ?_
    refine XO.rd rfl rfl rfl (Reads.move rfl) ?_
    refine XO.rd rfl rfl rfl (Reads.assign rfl) ?_
    refine XO.rd rfl rfl rfl (Reads.assign rfl) ?_
    refine XO.nil ?_
    refine XQ.then_normal ?_
    refine XC.ret ?_
    refine XQ.then_ret ?_
    refine XQ.dropn 1 ?_
    refine XQ.done2 rfl rfl rfl hle ?_
    exact ⟨rfl, _, _, rfl, (fun r hr => by rw [hnone] at hr; cases hr), fun _ => ⟨he, rfl⟩⟩
  · skip
    simp [cmpInt] at h1
    subst h1
    have hc : ∃ r, Btw.close ⟨bn, bs⟩ = some r := by
        cases hc : Btw.close ⟨bn, bs⟩ with
        | none => have := (hno hc).1; omega
        | some r => exact ⟨r, rfl⟩
    obtain ⟨r, hc⟩ := hc
    have hv := (hy r hc).2
    have hok : Btw.ok ⟨bn, bs⟩ = true := by simp [Btw.close] at hc; exact hc.1.1
    have hfi : (Btw.dist ⟨bn, bs⟩).fine bn.toNat = true := by simp [Btw.close] at hc; exact hc.1.2
    have hrr : r = (Btw.dist ⟨bn, bs⟩).rows bn.toNat := by simp [Btw.close] at hc; exact hc.2.symm
    subst hrr
    have hn16 := Btw.ok_n hok
    obtain ⟨n, rfl⟩ := Int.eq_ofNat_of_zero_le hn16.1
    simp only at hn16
    have hsol : Btw.solve ⟨n, bs⟩ = some ((List.range n).map (solveF (Btw.dist ⟨n, bs⟩) n)) := by simp only [Btw.solve, hok, hfi]; rfl
    simp only [Int.ofNat_eq_natCast, Int.toNat_natCast] at hv hfi
    generalize hD : Btw.dist ⟨n, bs⟩ = D at hv hfi hsol ⊢
    obtain ⟨am, cm, rfl, hcm, hv⟩ := hv.ex
    simp only [rows_len]
    refine XC.skip ?_
    refine XQ.then_normal ?_
    refine XC.seq ?_
    refine XC.region ?_
    refine XO.rd rfl rfl rfl (fa28_0 rfl) ?_
    refine XO.rd rfl rfl rfl (Reads.load_own k3 rfl (by first | exact OwnAt.of 0 rfl rfl | exact OwnAt.of 1 rfl rfl | exact OwnAt.of 2 rfl rfl | exact OwnAt.of 3 rfl rfl | exact OwnAt.of 4 rfl rfl | exact OwnAt.of 5 rfl rfl)) ?_
    refine XO.makeSlice rfl rfl Try.underlying22 el3 rfl rfl rfl (by omega) (by omega) (fun bo => ?_)
    refine XO.rd rfl rfl rfl (Reads.assign rfl) ?_
    refine XO.nil ?_
    refine XQ.then_normal ?_
    refine XC.seq ?_
    refine XC.seq ?_
    refine XC.region ?_
    refine XO.rd rfl rfl rfl (Reads.move rfl) ?_
    refine XO.rd rfl rfl rfl (Reads.len_slice Try.underlying38 rfl) ?_
    refine XO.rd rfl rfl rfl (Reads.move rfl) ?_
    refine XO.nil ?_
    refine XQ.then_normal ?_
    refine XC.block ?_
    rw [replicate_row n 0]
    refine XC.loop (ι := Nat) (fun q => [(6, .slice (some ⟨bo, 0, none⟩) n n), (22, .slice am n cm), (23, .int .i64 n), (24, .int .i64 q)]) (fun q => I') (fun q => some (bo, .cells (rowC n (solveP D q)).toArray 3 (0, 0)) :: some (b1, .cells #[.int .i64 n, .slice a bs.length cap] 28 (0, 0)) :: ([] ++ Lf)) (fun q => q ≤ n) (fun q => n - q) 0 (Nat.zero_le _) ⟨rfl, rfl, rfl, rfl, trivial⟩ rfl (List.Perm.refl _) (fun i hi => ?_)
    refine XC.seq ?_
    refine XC.region ?_
    refine XO.rd rfl rfl rfl (Reads.cmp rfl rfl rfl) ?_
    refine XO.nil ?_
    refine XQ.then_normal ?_
    refine XC.seq ?_
    refine XC.cond rfl (fun h2 => ?_) (fun h2 => ?_)
    · skip
      simp only [cmpInt, decide_eq_true_eq] at h2
      have hin : i < n := by omega
      obtain ⟨ar, cr, hr1, hr2⟩ := tab_row hv hin
      refine XC.skip ?_
      refine XQ.then_normal ?_
      refine XC.seq ?_
      refine XC.block ?_
      refine XC.seq ?_
      refine XC.region ?_
      refine XO.rd rfl rfl rfl (Reads.index_slot Try.underlying38 z22 rfl rfl (by omega) hr1.isSome rfl) ?_
      refine XO.rd rfl rfl rfl (Reads.load_at k22 rfl hr1) ?_
      refine XO.rd rfl rfl rfl (Reads.assign rfl) ?_
      refine XO.nil ?_
      refine XQ.then_normal ?_
      refine XC.seq ?_
      refine XC.region ?_
      refine XO.rd rfl rfl rfl (Reads.move rfl) ?_
      refine XO.rd rfl rfl rfl (Reads.len_slice Try.underlying22 rfl) ?_
      refine XO.rd rfl rfl rfl (Reads.move rfl) ?_
      refine XO.nil ?_
      refine XQ.then_normal ?_
      refine XC.block ?_
      refine XC.loop (ι := Nat) (fun q => [(6, .slice (some ⟨bo, 0, none⟩) n n), (22, .slice am n cm), (23, .int .i64 n), (24, .int .i64 i), (28, .slice ar n cr), (29, .int .i64 n), (30, .int .i64 q)]) (fun q => I') (fun q => some (bo, .cells (rowC n (fun j => if j < q then solveP D (i + 1) j else solveP D i j)).toArray 3 (0, 0)) :: some (b1, .cells #[.int .i64 n, .slice a bs.length cap] 28 (0, 0)) :: ([] ++ Lf)) (fun q => q ≤ n) (fun q => n - q) 0 (Nat.zero_le _) ⟨rfl, rfl, rfl, rfl, rfl, rfl, rfl, trivial⟩ rfl (List.Perm.of_eq (by simp)) (fun k hk => ?_)
      refine XC.seq ?_
      refine XC.region ?_
      refine XO.rd rfl rfl rfl (Reads.cmp rfl rfl rfl) ?_
      refine XO.nil ?_
      refine XQ.then_normal ?_
      refine XC.seq ?_
      refine XC.cond rfl (fun h3 => ?_) (fun h3 => ?_)
      · skip
        simp only [cmpInt, decide_eq_true_eq] at h3
        have hkn : k < n := by omega
        refine XC.skip ?_
        refine XQ.then_normal ?_
        refine XC.seq ?_
        refine XC.block ?_
        refine XC.seq ?_
        refine XC.region ?_
        refine XO.rd rfl rfl rfl (Reads.move rfl) ?_
        refine XO.rd rfl rfl rfl (Reads.index_slot Try.underlying22 z3 rfl rfl (by omega) (row_int hr2 hkn).isSome rfl) ?_
        refine XO.rd rfl rfl rfl (Reads.load_at k3 rfl (row_int hr2 hkn)) ?_
        refine XO.rd rfl rfl rfl (Reads.assign rfl) ?_
        refine XO.rd rfl rfl rfl (Reads.assign rfl) ?_
        refine XO.nil ?_
        refine XQ.then_normal ?_
        refine XC.region ?_
        refine XO.rd rfl rfl rfl (Reads.move rfl) ?_
        refine XO.rd rfl rfl rfl (Reads.move rfl) ?_
        refine XO.rd rfl rfl rfl (Reads.move rfl) ?_
        refine XO.rd rfl rfl rfl (Reads.move rfl) ?_
        refine XO.rd rfl rfl rfl (Reads.index_own (q := k) Try.underlying22 z3 rfl rfl (by omega) (by simp)) ?_
        refine XO.rd rfl rfl rfl (Reads.load_own (v := .int .i64 (solveP D i k)) k3 rfl (OwnAt.of 0 rfl (by simp [rowC, hkn]))) ?_
        refine XO.rd rfl rfl rfl (Reads.move rfl) ?_
        refine XO.rd rfl rfl rfl (Reads.min rfl rfl) ?_
        refine XO.rd rfl rfl rfl (Reads.index_own (q := k) Try.underlying22 z3 rfl rfl (by omega) (by simp)) ?_
        refine XO.store 0 rfl z3 rfl rfl rfl rfl (by simp [rowC_len]; omega) ?_
        refine XO.nil ?_
        refine XQ.block_normal ?_
        refine XQ.then_normal ?_
        refine XC.region ?_
        refine XO.rd rfl rfl rfl (Reads.add rfl rfl (by omega)) ?_
        refine XO.rd rfl rfl rfl (Reads.move rfl) ?_
        refine XO.nil ?_
        refine XQ.back (k + 1) (by omega) (by omega) ⟨rfl, rfl, rfl, rfl, rfl, rfl, rfl, trivial⟩ rfl (List.Perm.of_eq (by rw [rowC_setA hkn, part_step (by simp [solveP_succ])]; rfl))
      · skip
        simp only [cmpInt, decide_eq_false_iff_not] at h3
        have hkn : k = n := by omega
        subst hkn
        refine XC.exit ?_
        refine XQ.then_exit ?_
        refine XQ.then_exit ?_
        refine XQ.block_exit ?_
        refine XQ.block_normal ?_
        refine XQ.then_normal ?_
        refine XC.region ?_
        refine XO.rd rfl rfl rfl (Reads.add rfl rfl (by omega)) ?_
        refine XO.rd rfl rfl rfl (Reads.move rfl) ?_
        refine XO.nil ?_
        refine XQ.back (i + 1) (by omega) (by omega) ⟨rfl, rfl, rfl, rfl, trivial⟩ rfl (List.Perm.of_eq (by rw [rowC_congr (g := solveP D (i + 1)) (fun j hj => by simp [hj])]))
    · skip
      simp only [cmpInt, decide_eq_false_iff_not] at h2
      have hin : i = n := by omega
      subst hin
      refine XC.exit ?_
      refine XQ.then_exit ?_
      refine XQ.then_exit ?_
      refine XQ.block_exit ?_
      refine XQ.then_normal ?_
      refine XC.seq ?_
      refine XC.region ?_
      refine XO.rd rfl rfl rfl (Reads.move rfl) ?_
      refine XO.rd rfl rfl rfl (Reads.assign rfl) ?_
      refine XO.rd rfl rfl rfl (Reads.assign rfl) ?_
      refine XO.nil ?_
      refine XQ.then_normal ?_
      refine XC.ret ?_
      refine XQ.row (fun I2 hle2 hs2 => ?_)
      refine XQ.dropn 1 ?_
      refine XQ.done2 rfl rfl rfl (Im.le_trans hle hle2) ?_
      exact ⟨rfl, _, _, rfl, (fun r hr => ⟨rfl, by rw [hsol] at hr; cases hr; exact hs2⟩), (fun hr => by rw [hsol] at hr; cases hr)⟩

theorem walks_any (n : Int) (v : Value) (I : Im) : FSo Try.prog 42 [.agg #[.int .i64 n, v]] I [] (fun u I' L' => ∃ b, u = .func (.func 59) #[] #[.pointer (some ⟨b, 0, none⟩)] ∧ I' = I ∧ L' = [some (b, .cells #[.int .i64 n, v] 28 (0, 0))]) := by
  refine FSo.intro (n := 4) Try.func42 rfl rfl rfl (fun K Lf => ?_)
  refine XC.seq ?_
  refine XC.region ?_
  refine XO.box_agg rfl rfl rfl (fun b1 => ?_)
  refine XO.rd rfl rfl rfl (Reads.assign rfl) ?_
  refine XO.nil ?_
  refine XQ.then_normal ?_
  refine XC.seq ?_
  refine XC.region ?_
  refine XO.rd rfl rfl rfl (Reads.makeFunc (fi := []) (fv := []) (ca := [.tmp 1]) (cv := [_]) trivial ⟨rfl, trivial⟩) ?_
  refine XO.rd rfl rfl rfl (Reads.assign rfl) ?_
  refine XO.nil ?_
  refine XQ.then_normal ?_
  refine XC.ret ?_
  refine XQ.done1 (L := [some (b1, .cells #[.int .i64 n, v] 28 (0, 0))]) rfl rfl (Im.le_refl _) ?_
  exact ⟨b1, rfl, rfl, rfl⟩

theorem walks1_any (l b1 : Nat) (n : Nat) (bs : List Bnd) (a : Option Addr) (cap : Nat) (I : Im) (L0 : Own) (R : Nat) (J : Nat → Im → Own → Prop) (Jx : Im → Own → Prop) (hA : Arr I a bs) (hok : Btw.ok ⟨n, bs⟩ = true) (hR : 0 < R) (h0 : J 0 I L0) (hJm : ∀ j I I' L, J j I L → I.le I' → J j I' L) (hy : ∀ j I' L v, J j I' L → I.le I' → j < R → Sl I' v ((Btw.walk ⟨n, bs⟩ j).rows n) → YS Try.prog l [v] I' L (fun b I'' L' => (b = true → j + 1 < R ∧ J (j + 1) I'' L') ∧ (b = false → Jx I'' L'))) : FSo Try.prog 59 [.func (.yield l) #[] #[], .pointer (some ⟨b1, 0, none⟩)] I (some (b1, .cells #[.int .i64 n, .slice a bs.length cap] 28 (0, 0)) :: L0) (fun u I' L' => ∃ L1, L' = some (b1, .cells #[.int .i64 n, .slice a bs.length cap] 28 (0, 0)) :: L1 ∧ Jx I' L1) := by
  have hn16 : n ≤ 16 := by have := Btw.ok_n hok; simp only at this; omega
  have hlen : bs.length ≤ 60 := Btw.ok_len hok
  have hbd : ∀ x ∈ bs, (0 ≤ x.fr ∧ x.fr < n) ∧ (0 ≤ x.to ∧ x.to < n) := fun x hx => by have := bndOk_iff.1 (Btw.ok_bnd hok hx); exact ⟨this.1, this.2.1⟩
  refine FSo.intro (n := 59) Try.func59 rfl rfl rfl (fun K Lf => ?_)
  refine XC.seq ?_
  refine XC.region ?_
  refine XO.rd rfl rfl rfl (fa28_0 rfl) ?_
  refine XO.rd rfl rfl rfl (Reads.load_own k3 rfl (by first | exact OwnAt.of 0 rfl rfl | exact OwnAt.of 1 rfl rfl | exact OwnAt.of 2 rfl rfl | exact OwnAt.of 3 rfl rfl | exact OwnAt.of 4 rfl rfl | exact OwnAt.of 5 rfl rfl)) ?_
  refine XO.callo (vs := [_]) (L1 := []) rfl rfl rfl en58 ⟨rfl, trivial⟩ (none_any n I hn16) (List.Perm.refl _) ?_
  rintro v I' L' _ ⟨bt0, T0, rfl, hI, rfl, hT0⟩
  replace hI := hI.symm
  subst hI
  refine XO.table hT0 (fun I1 hle1 hs1 => ?_)
  refine XO.rd rfl rfl rfl (Reads.assign rfl) ?_
  refine XO.nil ?_
  refine XQ.then_normal ?_
  refine XC.block ?_
  refine XC.loop (ι := Nat × Im × Own × Option Addr × Nat) (fun q => [(0, .func (.yield l) #[] #[]), (1, .pointer (some ⟨b1, 0, none⟩)), (3, .slice q.2.2.2.1 n q.2.2.2.2)]) (fun q => q.2.1) (fun q => some (b1, .cells #[.int .i64 n, .slice a bs.length cap] 28 (0, 0)) :: (q.2.2.1 ++ Lf)) (fun q => q.1 < R ∧ I.le q.2.1 ∧ J q.1 q.2.1 q.2.2.1 ∧ Sl q.2.1 (.slice q.2.2.2.1 n q.2.2.2.2) ((Btw.walk ⟨n, bs⟩ q.1).rows n)) (fun q => R - q.1) (0, I1, L0, some ⟨bt0, 0, none⟩, n) ⟨hR, hle1, hJm _ _ _ _ h0 hle1, hs1⟩ ⟨rfl, rfl, rfl, trivial⟩ rfl (List.Perm.refl _) (fun q hq => ?_)
  clear hT0 T0 hs1 hle1 h0 hR
  obtain ⟨j, I1, L1, am, cm⟩ := q
  obtain ⟨hjR, hle, hJ, hs⟩ := hq
  simp only at hjR hle hJ hs ⊢
  refine XC.seq ?_
  refine XC.seq ?_
  refine XC.region ?_
  refine XO.rd rfl rfl rfl (Reads.move rfl) ?_
  refine XO.rd rfl rfl rfl (Reads.move rfl) ?_
  refine XO.yield (vs := [_]) rfl rfl rfl ⟨rfl, trivial⟩ (hy j I1 L1 (.slice am n cm) hJ hle hjR hs) List.perm_middle.symm ?_
  rintro y I2 L2 hle2 ⟨hy1, hy2⟩
  refine XO.perm List.perm_middle ?_
  refine XO.nil ?_
  refine XQ.then_normal ?_
  refine XC.cond rfl (fun h1 => ?_) (fun h1 => ?_)
  · skip
    obtain ⟨hjR2, hJ2⟩ := hy1 h1
    have hA2 : Arr I2 a bs := hA.mono (Im.le_trans hle hle2)
    have hs2 := hs.mono hle2
    have hM := (hs2.arr).1
    refine XC.skip ?_
    refine XQ.then_normal ?_
    refine XC.block ?_
    refine XC.seq ?_
    refine XC.region ?_
    refine XO.rd rfl rfl rfl (fa28_0 rfl) ?_
    refine XO.rd rfl rfl rfl (Reads.load_own k3 rfl (by first | exact OwnAt.of 0 rfl rfl | exact OwnAt.of 1 rfl rfl | exact OwnAt.of 2 rfl rfl | exact OwnAt.of 3 rfl rfl | exact OwnAt.of 4 rfl rfl | exact OwnAt.of 5 rfl rfl)) ?_
    refine XO.callo (vs := [_, _]) (L1 := []) rfl rfl rfl en60 ⟨rfl, rfl, trivial⟩ (square_any n 61 matFar _ hn16 en61 (fun i k J => walks11_any i k J)) (List.Perm.refl _) ?_
    rintro v I' L' _ ⟨bt, T0, rfl, hI, rfl, hT0⟩
    replace hI := hI.symm
    subst hI
    refine XO.perm List.perm_middle ?_
    refine XO.rd rfl rfl rfl (Reads.assign rfl) ?_
    refine XO.nil ?_
    refine XQ.then_normal ?_
    refine XC.seq ?_
    refine XC.seq ?_
    refine XC.region ?_
    refine XO.rd rfl rfl rfl (fa28_1 rfl) ?_
    refine XO.rd rfl rfl rfl (Reads.load_own k26 rfl (by first | exact OwnAt.of 0 rfl rfl | exact OwnAt.of 1 rfl rfl | exact OwnAt.of 2 rfl rfl | exact OwnAt.of 3 rfl rfl | exact OwnAt.of 4 rfl rfl | exact OwnAt.of 5 rfl rfl)) ?_
    refine XO.rd rfl rfl rfl (Reads.len_slice Try.underlying26 rfl) ?_
    refine XO.rd rfl rfl rfl (Reads.move rfl) ?_
    refine XO.nil ?_
    refine XQ.then_normal ?_
    refine XC.block ?_
    refine XC.loop (ι := Nat × List Vec) (fun q => [(0, .func (.yield l) #[] #[]), (1, .pointer (some ⟨b1, 0, none⟩)), (3, .slice am n cm), (4, .slice (some ⟨bt, 0, none⟩) n n), (18, .slice a bs.length cap), (19, .int .i64 bs.length), (20, .int .i64 q.1)]) (fun q => I2) (fun q => some (b1, .cells #[.int .i64 n, .slice a bs.length cap] 28 (0, 0)) :: (tabL 22 3 bt q.2 ++ (L2 ++ Lf))) (fun q => q.1 ≤ bs.length ∧ TabIs q.2 n (walkP n (Btw.walk ⟨n, bs⟩ j) bs q.1) (fun _ => n)) (fun q => bs.length - q.1) (0, T0) ⟨Nat.zero_le _, hT0⟩ ⟨rfl, rfl, rfl, rfl, rfl, rfl, rfl, trivial⟩ rfl (List.Perm.refl _) (fun q hq => ?_)
    clear hT0 T0
    obtain ⟨k, T⟩ := q
    obtain ⟨hk1, hT⟩ := hq
    simp only at hk1 hT ⊢
    refine XC.seq ?_
    refine XC.region ?_
    refine XO.rd rfl rfl rfl (Reads.cmp rfl rfl rfl) ?_
    refine XO.nil ?_
    refine XQ.then_normal ?_
    refine XC.seq ?_
    refine XC.cond rfl (fun h2 => ?_) (fun h2 => ?_)
    · skip
      simp only [cmpInt, decide_eq_true_eq] at h2
      have hk3 : k < bs.length := by omega
      have hb := hbd _ (List.getElem_mem hk3)
      have hto : bs[k].to.toNat < n := by omega
      have hfr : bs[k].fr.toNat < n := by omega
      refine XC.skip ?_
      refine XQ.then_normal ?_
      refine XC.seq ?_
      refine XC.block ?_
      refine XC.seq ?_
      refine XC.region ?_
      refine XO.rd rfl rfl rfl (Reads.index_slot (q := k * 3) Try.underlying26 z30 rfl rfl (by omega) (hA2.isSome (by decide) (by omega)) (by simp)) ?_
      refine XO.rd rfl rfl rfl (Reads.load_agg_at (vs := bs[k].cs) k30 z30 rfl (hA2.addr (by decide) (by omega)) (hA2.bnd hk3)) ?_
      refine XO.alloc (cs := #[.int .i64 0, .int .i64 0, .int .i64 0]) rfl rfl zo30 rfl (fun b6 => ?_)
      refine XO.store_agg (vs := bs[k].cs) 0 rfl z30 rfl rfl (by simp [Bnd.cs, Value.oneCell']) rfl (by simp [Bnd.cs]) ?_
      refine XO.nil ?_
      refine XQ.then_normal ?_
      refine XC.seq ?_
      refine XC.region ?_
      refine XO.rd rfl rfl rfl (fa28_0 rfl) ?_
      refine XO.rd rfl rfl rfl (Reads.load_own k3 rfl (by first | exact OwnAt.of 0 rfl rfl | exact OwnAt.of 1 rfl rfl | exact OwnAt.of 2 rfl rfl | exact OwnAt.of 3 rfl rfl | exact OwnAt.of 4 rfl rfl | exact OwnAt.of 5 rfl rfl)) ?_
      refine XO.rd rfl rfl rfl (Reads.move rfl) ?_
      refine XO.nil ?_
      refine XQ.then_normal ?_
      refine XC.block ?_
      refine XC.loop (ι := Nat × List Vec) (fun q => [(0, .func (.yield l) #[] #[]), (1, .pointer (some ⟨b1, 0, none⟩)), (3, .slice am n cm), (4, .slice (some ⟨bt, 0, none⟩) n n), (6, .pointer (some ⟨b6, 0, none⟩)), (18, .slice a bs.length cap), (19, .int .i64 bs.length), (20, .int .i64 k), (25, .int .i64 n), (26, .int .i64 q.1)]) (fun q => I2) (fun q => some (b6, .cells bs[k].cs.toArray 30 (0, 0)) :: some (b1, .cells #[.int .i64 n, .slice a bs.length cap] 28 (0, 0)) :: (tabL 22 3 bt q.2 ++ (L2 ++ Lf))) (fun q => q.1 ≤ n ∧ TabIs q.2 n (rowP (Btw.walk ⟨n, bs⟩ j) bs[k] (walkP n (Btw.walk ⟨n, bs⟩ j) bs k) q.1) (fun _ => n)) (fun q => n - q.1) (0, T) ⟨Nat.zero_le _, hT⟩ ⟨rfl, rfl, rfl, rfl, rfl, rfl, rfl, rfl, rfl, rfl, trivial⟩ rfl (List.Perm.refl _) (fun q hq => ?_)
      clear hT T
      obtain ⟨i, T⟩ := q
      obtain ⟨hi1, hT⟩ := hq
      simp only at hi1 hT ⊢
      refine XC.seq ?_
      refine XC.region ?_
      refine XO.rd rfl rfl rfl (Reads.cmp rfl rfl rfl) ?_
      refine XO.nil ?_
      refine XQ.then_normal ?_
      refine XC.seq ?_
      refine XC.cond rfl (fun h3 => ?_) (fun h3 => ?_)
      · skip
        simp only [cmpInt, decide_eq_true_eq] at h3
        have hin : i < n := by omega
        have hiT : i < T.length := by have := hT.len; omega
        have hrow := hT.row _ hiT
        have hrl := row_len hrow
        obtain ⟨ar, cr, hr1, hr2⟩ := tab_row hM hin
        refine XC.skip ?_
        refine XQ.then_normal ?_
        refine XC.seq ?_
        refine XC.block ?_
        refine XC.seq ?_
        refine XC.region ?_
        refine XO.rd rfl rfl rfl (Reads.move rfl) ?_
        refine XO.rd rfl rfl rfl (Reads.assign rfl) ?_
        refine XO.nil ?_
        refine XQ.then_normal ?_
        refine XC.draw m_mixed (some 27) (.pure 0 (.pure 1 (.pure 2 (.pure 3 (.pure 4 (.pure 5 (.pure 6 (.pure 7 (.pure 8 (.pure 9 (.pure 10 (.pure 11 (.pure 12 (.pure 13 (.pure 14 (.pure 15 (.pure 16 (.pure 17 (.pure 18 (.pure 19 (.pure 20 (.pure 21 (.pure 22 (.pure 23 (.eff 24 (.pure 25 (.pure 26 (.eff 27 (.done))))))))))))))))))))))))))))) _ (by kernel_rfl) (List.Sublist.refl _) ?_
        refine XR.rd rfl rfl rfl (Reads.move rfl) ?_
        refine XR.rd rfl rfl rfl (Reads.move rfl) ?_
        refine XR.rd rfl rfl rfl (Reads.index_own (q := i) Try.underlying38 z22 rfl rfl (by omega) (by simp)) ?_
        refine XR.rd rfl rfl rfl (Reads.load_own (v := T[i].val) k22 rfl ⟨(T.map Vec.val).toArray, 22, (0, 0), by simp [tabL], by simp [hiT]⟩) ?_
        refine XR.rd rfl rfl rfl (fa30_1 rfl) ?_
        refine XR.rd rfl rfl rfl (Reads.load_own k3 rfl (by first | exact OwnAt.of 0 rfl rfl | exact OwnAt.of 1 rfl rfl | exact OwnAt.of 2 rfl rfl | exact OwnAt.of 3 rfl rfl | exact OwnAt.of 4 rfl rfl | exact OwnAt.of 5 rfl rfl)) ?_
        refine XR.rd rfl rfl rfl (Reads.move rfl) ?_
        refine XR.rd rfl rfl rfl (Reads.move rfl) ?_
        refine XR.rd rfl rfl rfl (Reads.index_own (q := i) Try.underlying38 z22 rfl rfl (by omega) (by simp)) ?_
        refine XR.rd rfl rfl rfl (Reads.load_own (v := T[i].val) k22 rfl ⟨(T.map Vec.val).toArray, 22, (0, 0), by simp [tabL], by simp [hiT]⟩) ?_
        refine XR.rd rfl rfl rfl (fa30_1 rfl) ?_
        refine XR.rd rfl rfl rfl (Reads.load_own k3 rfl (by first | exact OwnAt.of 0 rfl rfl | exact OwnAt.of 1 rfl rfl | exact OwnAt.of 2 rfl rfl | exact OwnAt.of 3 rfl rfl | exact OwnAt.of 4 rfl rfl | exact OwnAt.of 5 rfl rfl)) ?_
        refine XR.rd rfl rfl rfl (Reads.index_slot (q := bs[k].to.toNat) Try.underlying22 z3 rfl rfl (by omega) (row_some hrow (by omega)) (by simp)) ?_
        refine XR.rd rfl rfl rfl (Reads.load_row k3 rfl hrow (List.mem_cons_of_mem _ (List.mem_cons_of_mem _ (tabL_mem (eo := 22) (b := bt) hiT))) hto) ?_
        refine XR.rd rfl rfl rfl (Reads.move rfl) ?_
        refine XR.rd rfl rfl rfl (Reads.move rfl) ?_
        refine XR.rd rfl rfl rfl (Reads.index_slot Try.underlying38 z22 rfl rfl (by omega) hr1.isSome rfl) ?_
        refine XR.rd rfl rfl rfl (Reads.load_at k22 rfl hr1) ?_
        refine XR.rd rfl rfl rfl (fa30_0 rfl) ?_
        refine XR.rd rfl rfl rfl (Reads.load_own k3 rfl (by first | exact OwnAt.of 0 rfl rfl | exact OwnAt.of 1 rfl rfl | exact OwnAt.of 2 rfl rfl | exact OwnAt.of 3 rfl rfl | exact OwnAt.of 4 rfl rfl | exact OwnAt.of 5 rfl rfl)) ?_
        refine XR.rd rfl rfl rfl (Reads.index_slot Try.underlying22 z3 rfl rfl (by omega) (row_int hr2 hfr).isSome rfl) ?_
        refine XR.rd rfl rfl rfl (Reads.load_at k3 rfl (row_int hr2 hfr)) ?_
        refine XR.rd rfl rfl rfl (fa30_2 rfl) ?_
        refine XR.rd rfl rfl rfl (Reads.load_own k3 rfl (by first | exact OwnAt.of 0 rfl rfl | exact OwnAt.of 1 rfl rfl | exact OwnAt.of 2 rfl rfl | exact OwnAt.of 3 rfl rfl | exact OwnAt.of 4 rfl rfl | exact OwnAt.of 5 rfl rfl)) ?_
        refine XR.callp rfl rfl rfl en43 (plus_any _ _ _) ⟨rfl, rfl, trivial⟩ (List.Sublist.refl _) ?_
        refine XR.rd rfl rfl rfl (Reads.min rfl rfl) ?_
        refine XR.rd rfl rfl rfl (Reads.index_slot (q := bs[k].to.toNat) Try.underlying22 z3 rfl rfl (by omega) (row_some hrow (by omega)) (by simp)) ?_
        refine XR.store_vec (V := T[i]) (e := 3) (i + 1 + 1 + 1) rfl rfl z3 rfl rfl rfl hrow (tabL_get (eo := 22) (b := bt) hiT) (by rw [rowC_len]; exact hto) rfl ?_
        intro V' hV' hval
        refine XR.nil ?_
        refine XQ.block_normal ?_
        refine XQ.then_normal ?_
        refine XC.weaken (E' := [(0, _), (1, _), (3, _), (4, _), (6, _), (18, _), (19, _), (20, _), (25, _), (26, _)]) ⟨rfl, rfl, rfl, rfl, rfl, rfl, rfl, rfl, rfl, rfl, trivial⟩ ?_
        refine XC.region ?_
        refine XO.rd rfl rfl rfl (Reads.add rfl rfl (by omega)) ?_
        refine XO.rd rfl rfl rfl (Reads.move rfl) ?_
        refine XO.nil ?_
        refine XQ.back (i + 1, T.set i V') ⟨by omega, by rw [rowP_succ]; exact hT.upd hto hV'⟩ (by simp only; omega) ⟨rfl, rfl, rfl, rfl, rfl, rfl, rfl, rfl, rfl, rfl, trivial⟩ rfl (List.Perm.of_eq (congrArg (List.cons _) (congrArg (List.cons _) (tabL_same hiT hval))))
      · skip
        simp only [cmpInt, decide_eq_false_iff_not] at h3
        have hT2 : TabIs T n (walkP n (Btw.walk ⟨n, bs⟩ j) bs (k + 1)) (fun _ => n) := by rw [walkP_succ n _ bs hk3, ← rowP_all, show n = i by omega]; rw [show n = i by omega] at hT; exact hT
        refine XC.exit ?_
        refine XQ.then_exit ?_
        refine XQ.then_exit ?_
        refine XQ.block_exit ?_
        refine XQ.block_normal ?_
        refine XQ.then_normal ?_
        refine XC.region ?_
        refine XO.rd rfl rfl rfl (Reads.add rfl rfl (by omega)) ?_
        refine XO.rd rfl rfl rfl (Reads.move rfl) ?_
        refine XO.nil ?_
        refine XQ.dropn 1 ?_
        refine XQ.back (k + 1, T) ⟨by omega, hT2⟩ (by simp only; omega) ⟨rfl, rfl, rfl, rfl, rfl, rfl, rfl, trivial⟩ rfl (List.Perm.refl _)
    · skip
      simp only [cmpInt, decide_eq_false_iff_not] at h2
      have hT2 : TabIs T n (Btw.walk ⟨n, bs⟩ (j + 1)) (fun _ => n) := by rw [walkP_all n _ bs (by omega)] at hT; exact hT
      refine XC.exit ?_
      refine XQ.then_exit ?_
      refine XQ.then_exit ?_
      refine XQ.block_exit ?_
      refine XQ.then_normal ?_
      refine XC.region ?_
      refine XO.rd rfl rfl rfl (Reads.move rfl) ?_
      refine XO.rd rfl rfl rfl (Reads.assign rfl) ?_
      refine XO.nil ?_
      refine XQ.block_normal ?_
      refine XQ.perm (List.perm_middle.symm) ?_
      refine XQ.table hT2 (fun I3 hle3 hs3 => ?_)
      refine XQ.back (j + 1, I3, L2, some ⟨bt, 0, none⟩, n) ⟨hjR2, Im.le_trans (Im.le_trans hle hle2) hle3, hJm _ _ _ _ hJ2 hle3, hs3⟩ (by simp only; omega) ⟨rfl, rfl, rfl, trivial⟩ rfl (List.Perm.refl _)
  · skip
    have hJx := hy2 h1
    refine XC.exit ?_
    refine XQ.then_exit ?_
    refine XQ.then_exit ?_
    refine XQ.block_exit ?_
    refine XQ.done_normal ?_
    refine XQ.done0 (L := some (b1, .cells #[.int .i64 n, .slice a bs.length cap] 28 (0, 0)) :: L2) rfl (Im.le_trans hle hle2) ?_
    exact ⟨L2, rfl, hJx⟩

theorem chain1_any (b8 b7 b10 b9 b11 : Nat) (aw : Option Addr) (cw : Nat) (W : Nat → Mat) (n N m : Nat) (to f most : Int) (x : Bnd) (I : Im) (hW : Arr I aw (tabs W n N)) (hm : m < N) (hx : 0 ≤ x.to ∧ x.to < n) (hto : 0 ≤ to ∧ to < n) (hm16 : m ≤ 1000) : FSo Try.prog 63 [.agg x.cs.toArray, .pointer (some ⟨b8, 0, none⟩), .pointer (some ⟨b7, 0, none⟩), .pointer (some ⟨b10, 0, none⟩), .pointer (some ⟨b9, 0, none⟩), .pointer (some ⟨b11, 0, none⟩)] I [some (b8, .cells #[.int .i64 f] 3 (0, 0)), some (b7, .cells #[.slice aw N cw] 65 (0, 0)), some (b10, .cells #[.int .i64 ((m + 1 : Nat) : Int)] 3 (0, 0)), some (b9, .cells #[.int .i64 to] 3 (0, 0)), some (b11, .cells #[.int .i64 most] 3 (0, 0))] (fun u I' L' => u = .bool (stepB W to m f most x) ∧ I' = I ∧ L' = [some (b8, .cells #[.int .i64 f] 3 (0, 0)), some (b7, .cells #[.slice aw N cw] 65 (0, 0)), some (b10, .cells #[.int .i64 ((m + 1 : Nat) : Int)] 3 (0, 0)), some (b9, .cells #[.int .i64 to] 3 (0, 0)), some (b11, .cells #[.int .i64 most] 3 (0, 0))]) := by
  obtain ⟨at1, ct, hw1, hw2⟩ := tabs_get hW hm
  have hxt : x.to.toNat < n := by omega
  have hto2 : to.toNat < n := by omega
  obtain ⟨ar, cr, hr1, hr2⟩ := tab_row hw2 hxt
  refine FSo.intro (n := 31) Try.func63 rfl rfl rfl (fun K Lf => ?_)
  refine XC.seq ?_
  refine XC.region ?_
  refine XO.box_agg rfl rfl rfl (fun b6 => ?_)
  refine XO.rd rfl rfl rfl (Reads.assign rfl) ?_
  refine XO.nil ?_
  refine XQ.then_normal ?_
  refine XC.seq ?_
  refine XC.draw m_mixed none (.pure 0 (.pure 1 (.pure 2 (.pure 3 (.pure 4 (.pure 5 (.pure 6 (.pure 7 (.pure 8 (.pure 9 (.pure 10 (.pure 11 (.pure 12 (.pure 13 (.pure 14 (.pure 15 (.pure 16 (.pure 17 (.pure 18 (.pure 20 (.eff 19 (.pure 21 (.pure 22 (.pure 23 (.done))))))))))))))))))))))))) (some (b6, .cells x.cs.toArray 30 (0, 0)) :: ([some (b8, .cells #[.int .i64 f] 3 (0, 0)), some (b7, .cells #[.slice aw N cw] 65 (0, 0)), some (b10, .cells #[.int .i64 ((m + 1 : Nat) : Int)] 3 (0, 0)), some (b9, .cells #[.int .i64 to] 3 (0, 0)), some (b11, .cells #[.int .i64 most] 3 (0, 0))] ++ Lf)) (by kernel_rfl) (List.Sublist.refl _) ?_
  refine XR.rd rfl rfl rfl (fa30_0 rfl) ?_
  refine XR.rd rfl rfl rfl (Reads.load_own k3 rfl (by first | exact OwnAt.of 0 rfl rfl | exact OwnAt.of 1 rfl rfl | exact OwnAt.of 2 rfl rfl | exact OwnAt.of 3 rfl rfl | exact OwnAt.of 4 rfl rfl | exact OwnAt.of 5 rfl rfl | exact OwnAt.of 6 rfl rfl | exact OwnAt.of 7 rfl rfl)) ?_
  refine XR.rd rfl rfl rfl (Reads.load_own k3 rfl (by first | exact OwnAt.of 0 rfl rfl | exact OwnAt.of 1 rfl rfl | exact OwnAt.of 2 rfl rfl | exact OwnAt.of 3 rfl rfl | exact OwnAt.of 4 rfl rfl | exact OwnAt.of 5 rfl rfl | exact OwnAt.of 6 rfl rfl | exact OwnAt.of 7 rfl rfl)) ?_
  refine XR.rd rfl rfl rfl (Reads.cmp rfl rfl rfl) ?_
  refine XR.rd rfl rfl rfl (Reads.move rfl) ?_
  refine XR.split (d := 12) rfl (fun h1 => ?_) (fun h1 => ?_)
  · skip
    simp [cmpInt] at h1
    refine XR.rd rfl (wg rfl rfl rfl) rfl (fa30_2 rfl) ?_
    refine XR.rd rfl (wg rfl rfl rfl) rfl (Reads.load_own k3 rfl (by first | exact OwnAt.of 0 rfl rfl | exact OwnAt.of 1 rfl rfl | exact OwnAt.of 2 rfl rfl | exact OwnAt.of 3 rfl rfl | exact OwnAt.of 4 rfl rfl | exact OwnAt.of 5 rfl rfl | exact OwnAt.of 6 rfl rfl | exact OwnAt.of 7 rfl rfl)) ?_
    refine XR.rd rfl (wg rfl rfl rfl) rfl (Reads.load_own k65 rfl (by first | exact OwnAt.of 0 rfl rfl | exact OwnAt.of 1 rfl rfl | exact OwnAt.of 2 rfl rfl | exact OwnAt.of 3 rfl rfl | exact OwnAt.of 4 rfl rfl | exact OwnAt.of 5 rfl rfl | exact OwnAt.of 6 rfl rfl | exact OwnAt.of 7 rfl rfl)) ?_
    refine XR.rd rfl (wg rfl rfl rfl) rfl (Reads.load_own k3 rfl (by first | exact OwnAt.of 0 rfl rfl | exact OwnAt.of 1 rfl rfl | exact OwnAt.of 2 rfl rfl | exact OwnAt.of 3 rfl rfl | exact OwnAt.of 4 rfl rfl | exact OwnAt.of 5 rfl rfl | exact OwnAt.of 6 rfl rfl | exact OwnAt.of 7 rfl rfl)) ?_
    refine XR.rd rfl (wg rfl rfl rfl) rfl (Reads.sub rfl rfl (by omega)) ?_
    refine XR.rd rfl (wg rfl rfl rfl) rfl (Reads.index_slot (q := m * 1) Try.underlying65 z38 rfl rfl (by omega) hw1.isSome (by simp)) ?_
    refine XR.rd rfl (wg rfl rfl rfl) rfl (Reads.load_at k38 rfl hw1) ?_
    refine XR.rd rfl (wg rfl rfl rfl) rfl (fa30_1 rfl) ?_
    refine XR.rd rfl (wg rfl rfl rfl) rfl (Reads.load_own k3 rfl (by first | exact OwnAt.of 0 rfl rfl | exact OwnAt.of 1 rfl rfl | exact OwnAt.of 2 rfl rfl | exact OwnAt.of 3 rfl rfl | exact OwnAt.of 4 rfl rfl | exact OwnAt.of 5 rfl rfl | exact OwnAt.of 6 rfl rfl | exact OwnAt.of 7 rfl rfl)) ?_
    refine XR.rd rfl (wg rfl rfl rfl) rfl (Reads.index_slot Try.underlying38 z22 rfl rfl (by omega) hr1.isSome rfl) ?_
    refine XR.rd rfl (wg rfl rfl rfl) rfl (Reads.load_at k22 rfl hr1) ?_
    refine XR.rd rfl (wg rfl rfl rfl) rfl (Reads.load_own k3 rfl (by first | exact OwnAt.of 0 rfl rfl | exact OwnAt.of 1 rfl rfl | exact OwnAt.of 2 rfl rfl | exact OwnAt.of 3 rfl rfl | exact OwnAt.of 4 rfl rfl | exact OwnAt.of 5 rfl rfl | exact OwnAt.of 6 rfl rfl | exact OwnAt.of 7 rfl rfl)) ?_
    refine XR.rd rfl (wg rfl rfl rfl) rfl (Reads.index_slot Try.underlying22 z3 rfl rfl (by omega) (row_int hr2 hto2).isSome rfl) ?_
    refine XR.rd rfl (wg rfl rfl rfl) rfl (Reads.load_at k3 rfl (row_int hr2 hto2)) ?_
    refine XR.rd rfl (wg rfl rfl rfl) rfl (Reads.load_own k3 rfl (by first | exact OwnAt.of 0 rfl rfl | exact OwnAt.of 1 rfl rfl | exact OwnAt.of 2 rfl rfl | exact OwnAt.of 3 rfl rfl | exact OwnAt.of 4 rfl rfl | exact OwnAt.of 5 rfl rfl | exact OwnAt.of 6 rfl rfl | exact OwnAt.of 7 rfl rfl)) ?_
    refine XR.callp rfl (wg rfl rfl rfl) rfl en43 (plus_any _ _ _) ⟨rfl, rfl, trivial⟩ (List.Sublist.refl _) ?_
    refine XR.rd rfl (wg rfl rfl rfl) rfl (Reads.cmp rfl rfl rfl) ?_
    refine XR.rd rfl rfl rfl (Reads.pick_true rfl rfl) ?_
    refine XR.rd rfl rfl rfl (Reads.assign rfl) ?_
    refine XR.nil ?_
    refine XQ.then_normal ?_
    refine XC.ret ?_
    refine XQ.dropn 1 ?_
    refine XQ.done1 rfl rfl (Im.le_refl _) ?_
    exact ⟨by simp [stepB, cmpInt, *], rfl, rfl⟩
  · skip
    simp [cmpInt] at h1
    refine XR.s rfl (wg rfl rfl rfl) rfl ?_
    refine XR.s rfl (wg rfl rfl rfl) rfl ?_
    refine XR.s rfl (wg rfl rfl rfl) rfl ?_
    refine XR.s rfl (wg rfl rfl rfl) rfl ?_
    refine XR.s rfl (wg rfl rfl rfl) rfl ?_
    refine XR.s rfl (wg rfl rfl rfl) rfl ?_
    refine XR.s rfl (wg rfl rfl rfl) rfl ?_
    refine XR.s rfl (wg rfl rfl rfl) rfl ?_
    refine XR.s rfl (wg rfl rfl rfl) rfl ?_
    refine XR.s rfl (wg rfl rfl rfl) rfl ?_
    refine XR.s rfl (wg rfl rfl rfl) rfl ?_
    refine XR.s rfl (wg rfl rfl rfl) rfl ?_
    refine XR.s rfl (wg rfl rfl rfl) rfl ?_
    refine XR.s rfl (wg rfl rfl rfl) rfl ?_
    refine XR.s rfl (wg rfl rfl rfl) rfl ?_
    refine XR.se rfl (wg rfl rfl rfl) rfl (List.Sublist.refl _) ?_
    refine XR.s rfl (wg rfl rfl rfl) rfl ?_
    refine XR.rd rfl rfl rfl (Reads.pick_false rfl rfl) ?_
    refine XR.rd rfl rfl rfl (Reads.assign rfl) ?_
    refine XR.nil ?_
    refine XQ.then_normal ?_
    refine XC.ret ?_
    refine XQ.dropn 1 ?_
    refine XQ.done1 rfl rfl (Im.le_refl _) ?_
    exact ⟨by simp [stepB, cmpInt, *], rfl, rfl⟩

theorem chain_any (n : Nat) (bs : List Bnd) (a : Option Addr) (cap : Nat) (aw : Option Addr) (cw : Nat) (W : Nat → Mat) (N M : Nat) (f0 to most0 : Int) (l0 : List Int) (I : Im) (hA : Arr I a bs) (hok : Btw.ok ⟨n, bs⟩ = true) (hW : Arr I aw (tabs W n N)) (hMN : M ≤ N) (hM : M ≤ 1000) (hto : 0 ≤ to ∧ to < n) (hmo : -1000000000000 ≤ most0 ∧ most0 ≤ 1000000000000) (hl : chainI bs W to M f0 most0 = some l0) : FC Try.prog 44 [.agg #[.int .i64 n, .slice a bs.length cap], .slice aw N cw, .int .i64 f0, .int .i64 to, .int .i64 M, .int .i64 most0] I (fun u I' => Sl I' u l0) := by
  have hlen : bs.length ≤ 60 := Btw.ok_len hok
  have hbd : ∀ x ∈ bs, (0 ≤ x.to ∧ x.to < n) ∧ -1000000000 ≤ x.mo ∧ x.mo ≤ 1000000000 := fun x hx => by have := bndOk_iff.1 (Btw.ok_bnd hok hx); exact this.2
  refine FSo.intro (n := 42) Try.func44 rfl rfl rfl (fun K Lf => ?_)
  refine XC.seq ?_
  refine XC.region ?_
  refine XO.box_agg rfl rfl rfl (fun b6 => ?_)
  refine XO.box1 rfl rfl rfl rfl (fun b7 => ?_)
  refine XO.box1 rfl rfl rfl rfl (fun b8 => ?_)
  refine XO.box1 rfl rfl rfl rfl (fun b9 => ?_)
  refine XO.box1 rfl rfl rfl rfl (fun b10 => ?_)
  refine XO.box1 rfl rfl rfl rfl (fun b11 => ?_)
  refine XO.rd rfl rfl rfl (Reads.assign rfl) ?_
  refine XO.nil ?_
  refine XQ.then_normal ?_
  refine XC.seq ?_
  refine XC.region ?_
  refine XO.rd rfl rfl rfl (Reads.assign rfl) ?_
  refine XO.nil ?_
  refine XQ.then_normal ?_
  refine XC.seq ?_
  refine XC.block ?_
  refine XC.vec0 3 ?_
  refine XC.loop (ι := Nat × Int × Int × List Int × Vec) (fun q => [(6, .pointer (some ⟨b6, 0, none⟩)), (7, .pointer (some ⟨b7, 0, none⟩)), (8, .pointer (some ⟨b8, 0, none⟩)), (9, .pointer (some ⟨b9, 0, none⟩)), (10, .pointer (some ⟨b10, 0, none⟩)), (11, .pointer (some ⟨b11, 0, none⟩)), (13, q.2.2.2.2.val)]) (fun q => I) (fun q => some (b8, .cells #[.int .i64 q.2.1] 3 (0, 0)) :: some (b7, .cells #[.slice aw N cw] 65 (0, 0)) :: some (b10, .cells #[.int .i64 ((q.1 : Nat) : Int)] 3 (0, 0)) :: some (b9, .cells #[.int .i64 to] 3 (0, 0)) :: some (b11, .cells #[.int .i64 q.2.2.1] 3 (0, 0)) :: q.2.2.2.2.ent 3 :: some (b6, .cells #[.int .i64 n, .slice a bs.length cap] 28 (0, 0)) :: ([] ++ Lf)) (fun q => q.1 ≤ M ∧ q.2.2.2.2.Is 1 (q.2.2.2.1.map fun x => Value.int .i64 x) ∧ (chainI bs W to q.1 q.2.1 q.2.2.1).map (q.2.2.2.1 ++ ·) = some l0 ∧ q.2.2.2.1.length = M - q.1 ∧ -1000000000000 - 1000000000 * ((M : Int) - q.1) ≤ q.2.2.1 ∧ q.2.2.1 ≤ 1000000000000 + 1000000000 * ((M : Int) - q.1)) (fun q => q.1) (M, f0, most0, [], Vec.nil) ⟨Nat.le_refl _, Vec.nil_is 1, by simp [hl], by simp, by simp only; omega, by simp only; omega⟩ ⟨rfl, rfl, rfl, rfl, rfl, rfl, rfl, trivial⟩ rfl (perm_take [4, 4, 2, 2, 1]) (fun q hq => ?_)
  obtain ⟨m0, f, most, out, V⟩ := q
  obtain ⟨hm1, hV, hc, hol, hmo1, hmo2⟩ := hq
  simp only at hm1 hV hc hol hmo1 hmo2 ⊢
  have hVl : V.len = out.length := by have := hV.len; simp at this; omega
  refine XC.seq ?_
  refine XC.seq ?_
  refine XC.region ?_
  refine XO.rd rfl rfl rfl (Reads.load_own k3 rfl (by first | exact OwnAt.of 0 rfl rfl | exact OwnAt.of 1 rfl rfl | exact OwnAt.of 2 rfl rfl | exact OwnAt.of 3 rfl rfl | exact OwnAt.of 4 rfl rfl | exact OwnAt.of 5 rfl rfl | exact OwnAt.of 6 rfl rfl | exact OwnAt.of 7 rfl rfl | exact OwnAt.of 8 rfl rfl)) ?_
  refine XO.rd rfl rfl rfl (Reads.cmp rfl rfl rfl) ?_
  refine XO.nil ?_
  refine XQ.then_normal ?_
  refine XC.cond rfl (fun h1 => ?_) (fun h1 => ?_)
  · skip
    simp [cmpInt] at h1
    obtain ⟨m, rfl⟩ : ∃ m', m0 = m' + 1 := ⟨m0 - 1, by omega⟩
    obtain ⟨k, hk, hidx, hc'⟩ := chainI_step hc
    have hkb := hbd _ (List.getElem_mem hk)
    refine XC.skip ?_
    refine XQ.then_normal ?_
    refine XC.seq ?_
    refine XC.block ?_
    refine XC.seq ?_
    refine XC.region ?_
    refine XO.rd rfl rfl rfl (fa28_1 rfl) ?_
    refine XO.rd rfl rfl rfl (Reads.load_own k26 rfl (by first | exact OwnAt.of 0 rfl rfl | exact OwnAt.of 1 rfl rfl | exact OwnAt.of 2 rfl rfl | exact OwnAt.of 3 rfl rfl | exact OwnAt.of 4 rfl rfl | exact OwnAt.of 5 rfl rfl | exact OwnAt.of 6 rfl rfl | exact OwnAt.of 7 rfl rfl | exact OwnAt.of 8 rfl rfl)) ?_
    refine XO.rd rfl rfl rfl (Reads.makeFunc (fi := []) (fv := []) (ca := [.tmp 8, .tmp 7, .tmp 10, .tmp 9, .tmp 11]) (cv := [_, _, _, _, _]) trivial ⟨rfl, rfl, rfl, rfl, rfl, trivial⟩) ?_
    refine XO.callo (vs := [_, _]) (L1 := [some (b8, .cells #[.int .i64 f] 3 (0, 0)), some (b7, .cells #[.slice aw N cw] 65 (0, 0)), some (b10, .cells #[.int .i64 ((m + 1 : Nat) : Int)] 3 (0, 0)), some (b9, .cells #[.int .i64 to] 3 (0, 0)), some (b11, .cells #[.int .i64 most] 3 (0, 0))]) rfl rfl rfl en62 ⟨rfl, rfl, trivial⟩ (indexFunc_bnd a cap bs 63 #[.pointer (some ⟨b8, 0, none⟩), .pointer (some ⟨b7, 0, none⟩), .pointer (some ⟨b10, 0, none⟩), .pointer (some ⟨b9, 0, none⟩), .pointer (some ⟨b11, 0, none⟩)] [some (b8, .cells #[.int .i64 f] 3 (0, 0)), some (b7, .cells #[.slice aw N cw] 65 (0, 0)), some (b10, .cells #[.int .i64 ((m + 1 : Nat) : Int)] 3 (0, 0)), some (b9, .cells #[.int .i64 to] 3 (0, 0)), some (b11, .cells #[.int .i64 most] 3 (0, 0))] (stepB W to m f most) I hA (by omega) en63 (fun k hk => chain1_any b8 b7 b10 b9 b11 aw cw W n N m to f most bs[k] I hW (by omega) (hbd _ (List.getElem_mem hk)).1 hto (by omega))) (List.Perm.refl _) ?_
    rintro v I' L' _ ⟨rfl, hI, rfl⟩
    replace hI := hI.symm
    subst hI
    rw [hidx]
    refine XO.rd rfl rfl rfl (Reads.assign rfl) ?_
    refine XO.nil ?_
    refine XQ.then_normal ?_
    refine XC.seq ?_
    refine XC.draw m_mixed (some 15) (.pure 0 (.pure 1 (.pure 2 (.pure 3 (.pure 4 (.pure 5 (.pure 6 (.pure 7 (.pure 8 (.pure 9 (.pure 10 (.pure 11 (.pure 12 (.pure 13 (.eff 14 (.eff 15 (.done))))))))))))))))) _ (by kernel_rfl) (List.sublist_cons_self _ _) ?_
    refine XR.rd rfl rfl rfl (fa28_1 rfl) ?_
    refine XR.rd rfl rfl rfl (Reads.load_own k26 rfl (by first | exact OwnAt.of 0 rfl rfl | exact OwnAt.of 1 rfl rfl | exact OwnAt.of 2 rfl rfl | exact OwnAt.of 3 rfl rfl | exact OwnAt.of 4 rfl rfl | exact OwnAt.of 5 rfl rfl | exact OwnAt.of 6 rfl rfl | exact OwnAt.of 7 rfl rfl | exact OwnAt.of 8 rfl rfl)) ?_
    refine XR.rd rfl rfl rfl (Reads.move rfl) ?_
    refine XR.rd rfl rfl rfl (Reads.index_slot (q := k * 3) Try.underlying26 z30 rfl rfl (by omega) (hA.isSome (by decide) (by omega)) (by simp)) ?_
    refine XR.rd rfl rfl rfl (fs30_1 rfl (hA.addr (by decide) (by omega))) ?_
    refine XR.rd rfl rfl rfl (Reads.load_at k3 rfl (hA.bnd hk 1 _ rfl)) ?_
    refine XR.rd rfl rfl rfl (Reads.load_own k3 rfl (by first | exact OwnAt.of 0 rfl rfl | exact OwnAt.of 1 rfl rfl | exact OwnAt.of 2 rfl rfl | exact OwnAt.of 3 rfl rfl | exact OwnAt.of 4 rfl rfl | exact OwnAt.of 5 rfl rfl | exact OwnAt.of 6 rfl rfl | exact OwnAt.of 7 rfl rfl | exact OwnAt.of 8 rfl rfl)) ?_
    refine XR.rd rfl rfl rfl (fa28_1 rfl) ?_
    refine XR.rd rfl rfl rfl (Reads.load_own k26 rfl (by first | exact OwnAt.of 0 rfl rfl | exact OwnAt.of 1 rfl rfl | exact OwnAt.of 2 rfl rfl | exact OwnAt.of 3 rfl rfl | exact OwnAt.of 4 rfl rfl | exact OwnAt.of 5 rfl rfl | exact OwnAt.of 6 rfl rfl | exact OwnAt.of 7 rfl rfl | exact OwnAt.of 8 rfl rfl)) ?_
    refine XR.rd rfl rfl rfl (Reads.move rfl) ?_
    refine XR.rd rfl rfl rfl (Reads.index_slot (q := k * 3) Try.underlying26 z30 rfl rfl (by omega) (hA.isSome (by decide) (by omega)) (by simp)) ?_
    refine XR.rd rfl rfl rfl (fs30_2 rfl (hA.addr (by decide) (by omega))) ?_
    refine XR.rd rfl rfl rfl (Reads.load_at k3 rfl (hA.bnd hk 2 _ rfl)) ?_
    refine XR.rd rfl rfl rfl (Reads.sub rfl rfl (by omega)) ?_
    refine XR.store 0 rfl rfl z3 rfl rfl rfl rfl (by simp) (.inr (List.sublist_cons_self _ _)) ?_
    refine XR.store 4 rfl rfl z3 rfl rfl rfl rfl (by simp) (.inl rfl) ?_
    refine XR.nil ?_
    refine XQ.then_normal ?_
    refine XC.region ?_
    refine XO.rd rfl rfl rfl (Reads.move rfl) ?_
    refine XO.rd rfl rfl rfl (Reads.move rfl) ?_
    refine XO.buildL [.int .i64 k] [.int .i64 k] rfl rfl Try.underlying22 el3 rfl (by simp) ⟨rfl, rfl, trivial⟩ rfl rfl (fun bu => ?_)
    refine XO.append (V := V) 6 rfl rfl Try.underlying22 el3 rfl rfl hV rfl (.slice Try.underlying22 (.inr (.inr ⟨bu, 0, rfl, fun j v hj => ⟨#[.int .i64 k], 3, (0, 0), by simp, by simpa using hj⟩⟩)) rfl (by simp [Value.oneCell'])) (by have := hV.len; simp at this; omega) (by have := hV.len; simp at this; omega) ?_
    intro V' hV' _
    refine XO.rd rfl rfl rfl (Reads.assign rfl) ?_
    refine XO.nil ?_
    refine XQ.block_normal ?_
    refine XQ.then_normal ?_
    refine XC.region ?_
    refine XO.rd rfl rfl rfl (Reads.load_own k3 rfl (by first | exact OwnAt.of 0 rfl rfl | exact OwnAt.of 1 rfl rfl | exact OwnAt.of 2 rfl rfl | exact OwnAt.of 3 rfl rfl | exact OwnAt.of 4 rfl rfl | exact OwnAt.of 5 rfl rfl | exact OwnAt.of 6 rfl rfl | exact OwnAt.of 7 rfl rfl | exact OwnAt.of 8 rfl rfl)) ?_
    refine XO.rd rfl rfl rfl (Reads.sub rfl rfl (by omega)) ?_
    refine XO.store 3 rfl z3 rfl rfl rfl rfl (by simp) ?_
    refine XO.nil ?_
    rw [show ((m + 1 : Nat) : Int) - 1 = (m : Int) by omega]
    refine XQ.dropn 1 ?_
    refine XQ.back (m, bs[k].to, most - bs[k].mo, out ++ [(k : Int)], V') ⟨by simp only; omega, by simpa using hV', hc', by simp only [List.length_append, List.length_singleton]; omega, by simp only; omega, by simp only; omega⟩ (by simp only; omega) ⟨rfl, rfl, rfl, rfl, rfl, rfl, rfl, trivial⟩ rfl (List.Perm.refl _)
  · skip
    simp [cmpInt] at h1
    subst h1
    have := chainI_end hc
    subst this
    refine XC.exit ?_
    refine XQ.then_exit ?_
    refine XQ.then_exit ?_
    refine XQ.block_exit ?_
    refine XQ.then_normal ?_
    refine XC.seq ?_
    refine XC.region ?_
    refine XO.rd rfl rfl rfl (Reads.move rfl) ?_
    refine XO.rd rfl rfl rfl (Reads.assign rfl) ?_
    refine XO.nil ?_
    refine XQ.then_normal ?_
    refine XC.ret ?_
    refine XQ.perm (perm_take [5]) ?_
    refine XQ.give_vec (fun hb => ?_)
    refine XQ.dropn 6 ?_
    refine XQ.done1 (L := []) rfl rfl (Vec.le_give hb) ?_
    exact ⟨rfl, (Vec.sl (α := Int) (by decide) hV (flat_ints I out) hb).2⟩

end Go.Proofs.Ytlgfpieokaegiaa
