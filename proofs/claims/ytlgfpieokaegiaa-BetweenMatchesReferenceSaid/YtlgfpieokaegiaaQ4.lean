/- Walks: the reference's Cycle and Implied. -/
import Derived.Test.YtlgfpieokaegiaaQ3
import Derived.Test.YtlgfpieokaegiaaP14
namespace Go.Proofs.Ytlgfpieokaegiaa
open Go.Xe

set_option maxHeartbeats 1000000 in
theorem rcycle_any (b : Btw) (a : Option Addr) (cap : Nat) (I : Im) (hA : Arr I a b.bs) (hlen : b.bs.length ≤ 1000000) : FC Try.prog 21 [.agg #[.int .i64 b.n, .slice a b.bs.length cap]] I (fun u I' => BOut I' u b.cycle) := by
  obtain ⟨bn, bs⟩ := b
  have hI := Im.le_refl I
  refine FSo.intro (n := 50) Try.func21 rfl rfl rfl (fun K Lf => ?_)
  refine XC.seq ?_
  refine XC.region ?_
  refine XO.box_agg rfl rfl rfl (fun b1 => ?_)
  refine XO.rd rfl rfl rfl (Reads.assign rfl) ?_
  refine XO.rd rfl rfl rfl (Reads.assign rfl) ?_
  refine XO.nil ?_
  refine XQ.then_normal ?_
  refine XC.seq ?_
  refine XC.seq ?_
  refine XC.region ?_
  refine XO.rd rfl rfl rfl (Reads.load_whole k28 z28 rfl (by first | exact WholeAt.of 0 rfl | exact WholeAt.of 1 rfl | exact WholeAt.of 2 rfl | exact WholeAt.of 3 rfl) (by rfl)) ?_
  refine XO.callp rfl rfl en23 (rvalid_any ⟨bn, bs⟩ a cap _ hA hlen) ⟨rfl, trivial⟩ ?_
  refine XO.rd rfl rfl rfl (Reads.not rfl) ?_
  refine XO.nil ?_
  refine XQ.then_normal ?_
  refine XC.cond rfl (fun h1 => ?_) (fun h1 => ?_)
  · skip
    simp only [Bool.not_eq_true'] at h1
    have hok : Btw.ok ⟨bn, bs⟩ = false := h1
    refine XC.seq ?_
    refine XC.region ?_
    refine XO.rd rfl rfl rfl (Reads.assign rfl) ?_
    refine XO.rd rfl rfl rfl (Reads.assign rfl) ?_
    refine XO.nil ?_
    refine XQ.then_normal ?_
    refine XC.ret ?_
    refine XQ.then_ret ?_
    refine XQ.dropn 1 ?_
    refine XQ.done2 (L := []) rfl rfl rfl hI ?_
    exact ⟨rfl, _, by rw [cycle_bad hok]; rfl, (fun r hr => by rw [cycle_bad hok] at hr; cases hr), fun _ => rfl⟩
  · skip
    simp only [Bool.not_eq_false'] at h1
    have hok : Btw.ok ⟨bn, bs⟩ = true := h1
    obtain ⟨n, rfl⟩ := Int.eq_ofNat_of_zero_le (Btw.ok_n hok).1
    simp only at hA ⊢
    have hn16 := Btw.ok_n hok
    have hb60 := Btw.ok_len hok
    simp only at hn16 hb60
    have hbd : ∀ x ∈ bs, (0 ≤ x.fr ∧ x.fr < n) ∧ (0 ≤ x.to ∧ x.to < n) ∧ -1000000000 ≤ x.mo ∧ x.mo ≤ 1000000000 := fun x hx => bndOk_iff.1 (Btw.ok_bnd hok hx)
    obtain ⟨n2, hSm⟩ := Small.of_ok hok
    have hn2 : n2 = n := by have := hSm.num; simp only at this; omega
    rw [hn2] at hSm
    clear hn2
    refine XC.skip ?_
    refine XQ.then_normal ?_
    refine XC.seq ?_
    refine XC.region ?_
    refine XO.rd rfl rfl rfl (Reads.load_whole k28 z28 rfl (by first | exact WholeAt.of 0 rfl | exact WholeAt.of 1 rfl | exact WholeAt.of 2 rfl | exact WholeAt.of 3 rfl) (by rfl)) ?_
    refine XO.call rfl rfl en41 (sums_any n bs a cap _ hA hok) ⟨rfl, trivial⟩ ?_
    rintro u J1 hle1 hs
    replace hI := Im.le_trans hI hle1
    replace hA := hA.mono hle1
    obtain ⟨at0, c0, rfl, hct, hTb⟩ := hs.ex
    simp only [tabs_len] at hct ⊢
    refine XO.rd rfl rfl rfl (Reads.assign rfl) ?_
    refine XO.nil ?_
    refine XQ.then_normal ?_
    refine XC.seq ?_
    refine XC.seq ?_
    refine XC.region ?_
    refine XO.rd rfl rfl rfl (Reads.assign rfl) ?_
    refine XO.nil ?_
    refine XQ.then_normal ?_
    refine XC.block ?_
    refine XC.loop (ι := Nat × Im) (fun q => [(1, .pointer (some ⟨b1, 0, none⟩)), (4, .slice at0 (n + 1) c0), (5, .int .i64 q.1)]) (fun q => q.2) (fun q => some (b1, .cells #[.int .i64 n, .slice a bs.length cap] 28 (0, 0)) :: ([] ++ Lf)) (fun q => J1.le q.2 ∧ 1 ≤ q.1 ∧ q.1 ≤ n + 1 ∧ ∀ j, 1 ≤ j → j < q.1 → (bestF ⟨n, bs⟩ j n) = none) (fun q => n + 1 - q.1) (1, J1) ⟨Im.le_refl _, Nat.le_refl _, by simp only; omega, fun _ h1 h2 => by simp only at h2; omega⟩ ⟨rfl, rfl, rfl, trivial⟩ rfl (List.Perm.refl _) (fun q hq => ?_)
    obtain ⟨M, J2⟩ := q
    obtain ⟨hJ2, hm0, hm1, hm2⟩ := hq
    simp only at hJ2 hm0 hm1 hm2 ⊢
    replace hI := Im.le_trans hI hJ2
    replace hA := hA.mono hJ2
    replace hTb := hTb.mono hJ2
    refine XC.seq ?_
    refine XC.seq ?_
    refine XC.region ?_
    refine XO.rd rfl rfl rfl (Reads.move rfl) ?_
    refine XO.rd rfl rfl rfl (fa28_0 rfl) ?_
    refine XO.rd rfl rfl rfl (Reads.load_own k3 rfl (by first | exact OwnAt.of 0 rfl rfl | exact OwnAt.of 1 rfl rfl | exact OwnAt.of 2 rfl rfl | exact OwnAt.of 3 rfl rfl)) ?_
    refine XO.rd rfl rfl rfl (Reads.cmp rfl rfl rfl) ?_
    refine XO.nil ?_
    refine XQ.then_normal ?_
    refine XC.cond rfl (fun h2 => ?_) (fun h2 => ?_)
    · skip
      simp only [cmpInt, decide_eq_true_eq] at h2
      refine XC.skip ?_
      refine XQ.then_normal ?_
      refine XC.seq ?_
      refine XC.block ?_
      refine XC.seq ?_
      refine XC.region ?_
      refine XO.rd rfl rfl rfl (Reads.assign rfl) ?_
      refine XO.nil ?_
      refine XQ.then_normal ?_
      refine XC.seq ?_
      refine XC.seq ?_
      refine XC.region ?_
      refine XO.rd rfl rfl rfl (Reads.assign rfl) ?_
      refine XO.nil ?_
      refine XQ.then_normal ?_
      refine XC.block ?_
      refine XC.loop (ι := Nat × Option Addr × Nat × Im) (fun q => [(1, .pointer (some ⟨b1, 0, none⟩)), (4, .slice at0 (n + 1) c0), (5, .int .i64 M), (6, .slice q.2.1 ((bestF ⟨n, bs⟩ M q.1).getD []).length q.2.2.1), (7, .int .i64 q.1)]) (fun q => q.2.2.2) (fun q => some (b1, .cells #[.int .i64 n, .slice a bs.length cap] 28 (0, 0)) :: ([] ++ Lf)) (fun q => J2.le q.2.2.2 ∧ q.1 ≤ n ∧ Held q.2.2.2 q.2.1 q.2.2.1 (bestF ⟨n, bs⟩ M q.1)) (fun q => n - q.1) (0, none, 0, J2) ⟨Im.le_refl _, Nat.zero_le _, Held.empty⟩ ⟨rfl, rfl, rfl, rfl, rfl, trivial⟩ rfl (List.Perm.refl _) (fun q hq => ?_)
      obtain ⟨i, ab, cb, J3⟩ := q
      obtain ⟨hJ3, hi1, hH⟩ := hq
      simp only at hJ3 hi1 hH ⊢
      replace hI := Im.le_trans hI hJ3
      replace hA := hA.mono hJ3
      replace hTb := hTb.mono hJ3
      refine XC.seq ?_
      refine XC.seq ?_
      refine XC.region ?_
      refine XO.rd rfl rfl rfl (Reads.move rfl) ?_
      refine XO.rd rfl rfl rfl (fa28_0 rfl) ?_
      refine XO.rd rfl rfl rfl (Reads.load_own k3 rfl (by first | exact OwnAt.of 0 rfl rfl | exact OwnAt.of 1 rfl rfl | exact OwnAt.of 2 rfl rfl | exact OwnAt.of 3 rfl rfl)) ?_
      refine XO.rd rfl rfl rfl (Reads.cmp rfl rfl rfl) ?_
      refine XO.nil ?_
      refine XQ.then_normal ?_
      refine XC.cond rfl (fun h3 => ?_) (fun h3 => ?_)
      · skip
        simp only [cmpInt, decide_eq_true_eq] at h3
        have hi3 : i < n := by omega
        refine XC.skip ?_
        refine XQ.then_normal ?_
        refine XC.seq ?_
        refine XC.block ?_
        refine XC.seq ?_
        refine XC.region ?_
        refine XO.rd rfl rfl rfl (Reads.load_whole k28 z28 rfl (by first | exact WholeAt.of 0 rfl | exact WholeAt.of 1 rfl | exact WholeAt.of 2 rfl | exact WholeAt.of 3 rfl) (by rfl)) ?_
        refine XO.rd rfl rfl rfl (Reads.move rfl) ?_
        refine XO.rd rfl rfl rfl (Reads.move rfl) ?_
        refine XO.rd rfl rfl rfl (Reads.move rfl) ?_
        refine XO.rd rfl rfl rfl (Reads.move rfl) ?_
        refine XO.call rfl rfl en45 (rfirst_any n bs a cap at0 c0 (n + 1) i i M (-1) _ hA hok hTb (by omega) (by omega) (by omega) (by omega) (by omega)) ⟨rfl, rfl, rfl, rfl, rfl, rfl, trivial⟩ ?_
        rintro u I4 hle4 hb
        replace hI := Im.le_trans hI hle4
        replace hA := hA.mono hle4
        replace hTb := hTb.mono hle4
        obtain ⟨a1, c1, rfl, hH1⟩ := hb.held (firstF_ne hSm (i := i) (M := M) (by omega) (by omega) (by omega))
        replace hH := hH.mono hle4
        refine XO.rd rfl rfl rfl (Reads.move rfl) ?_
        refine XO.rd rfl rfl rfl (Reads.extract rfl rfl) ?_
        refine XO.rd rfl rfl rfl (Reads.extract rfl rfl) ?_
        refine XO.rd rfl rfl rfl (Reads.assign rfl) ?_
        refine XO.rd rfl rfl rfl (Reads.assign rfl) ?_
        refine XO.nil ?_
        refine XQ.then_normal ?_
        refine XC.seq ?_
        refine XC.region ?_
        refine XO.rd rfl rfl rfl (Reads.move rfl) ?_
        refine XO.rd rfl rfl rfl (Reads.move rfl) ?_
        refine XO.split (d := 37) rfl (fun h4 => ?_) (fun h4 => ?_)
        · skip
          obtain ⟨l1, hfs⟩ := Option.isSome_iff_exists.1 h4
          refine XO.rd (wg rfl rfl rfl) rfl rfl (Reads.move rfl) ?_
          refine XO.rd (wg rfl rfl rfl) rfl rfl (Reads.slice_eqn Try.underlying22 rfl rfl) ?_
          refine XO.rd (wg rfl rfl rfl) rfl rfl (Reads.move rfl) ?_
          refine XO.split (d := 40) rfl (fun h5 => ?_) (fun h5 => ?_)
          · skip
            have hbn : bestF ⟨n, bs⟩ M i = none := by rw [hH.nil] at h5; simpa using h5
            refine XO.s (wg rfl rfl rfl) rfl ?_
            refine XO.s (wg rfl rfl rfl) rfl ?_
            refine XO.s (wg rfl rfl rfl) rfl ?_
            refine XO.rd (wg rfl rfl rfl) rfl rfl (Reads.pick_true rfl rfl) ?_
            refine XO.rd rfl rfl rfl (Reads.pick_true rfl rfl) ?_
            refine XO.nil ?_
            refine XQ.then_normal ?_
            refine XC.cond rfl (fun _ => ?_) (fun hx => by cases hx)
            refine XC.region ?_
            refine XO.rd rfl rfl rfl (Reads.move rfl) ?_
            refine XO.rd rfl rfl rfl (Reads.assign rfl) ?_
            refine XO.nil ?_
            refine XQ.block_normal ?_
            refine XQ.then_normal ?_
            refine XC.region ?_
            refine XO.rd rfl rfl rfl (Reads.move rfl) ?_
            refine XO.rd rfl rfl rfl (Reads.add rfl rfl (by omega)) ?_
            refine XO.rd rfl rfl rfl (Reads.assign rfl) ?_
            refine XO.nil ?_
            have hnew : bestF ⟨n, bs⟩ M (i + 1) = (firstF ⟨n, bs⟩ i i M (-1)) := (bestF_new hfs hbn).trans hfs.symm
            refine XQ.back (i + 1, a1, c1, _) ⟨Im.le_trans hJ3 hle4, by simp only; omega, by simp only; rw [hnew]; exact hH1⟩ (by simp only; omega) ⟨rfl, rfl, rfl, by simp only [hnew]; rfl, rfl, trivial⟩ rfl (List.Perm.refl _)
          · skip
            obtain ⟨r1, hbs⟩ : ∃ r1, bestF ⟨n, bs⟩ M i = some r1 := by rw [hH.nil] at h5; exact Option.isSome_iff_exists.1 (by simpa using h5)
            refine XO.rd (wg rfl rfl rfl) rfl rfl (Reads.move rfl) ?_
            refine XO.rd (wg rfl rfl rfl) rfl rfl (Reads.move rfl) ?_
            refine XO.callp (wg rfl rfl rfl) rfl en46 (before_any a1 ab c1 cb _ _ _ hH1.arr hH.arr (by have := firstF_len hSm (i := i) (M := M) (by omega) (by omega) (by omega); omega)) ⟨rfl, rfl, trivial⟩ ?_
            refine XO.rd (wg rfl rfl rfl) rfl rfl (Reads.pick_false rfl rfl) ?_
            refine XO.rd rfl rfl rfl (Reads.pick_true rfl rfl) ?_
            refine XO.nil ?_
            refine XQ.then_normal ?_
            refine XC.cond rfl (fun h6 => ?_) (fun h6 => ?_)
            · skip
              have hbef : beforeF l1 r1 = true := by rw [hfs, hbs] at h6; exact h6
              refine XC.region ?_
              refine XO.rd rfl rfl rfl (Reads.move rfl) ?_
              refine XO.rd rfl rfl rfl (Reads.assign rfl) ?_
              refine XO.nil ?_
              refine XQ.block_normal ?_
              refine XQ.then_normal ?_
              refine XC.region ?_
              refine XO.rd rfl rfl rfl (Reads.move rfl) ?_
              refine XO.rd rfl rfl rfl (Reads.add rfl rfl (by omega)) ?_
              refine XO.rd rfl rfl rfl (Reads.assign rfl) ?_
              refine XO.nil ?_
              have hnew : bestF ⟨n, bs⟩ M (i + 1) = (firstF ⟨n, bs⟩ i i M (-1)) := ((bestF_better hfs hbs).trans (if_pos hbef)).trans hfs.symm
              refine XQ.back (i + 1, a1, c1, _) ⟨Im.le_trans hJ3 hle4, by simp only; omega, by simp only; rw [hnew]; exact hH1⟩ (by simp only; omega) ⟨rfl, rfl, rfl, by simp only [hnew]; rfl, rfl, trivial⟩ rfl (List.Perm.refl _)
            · skip
              have hbef : ¬ beforeF l1 r1 = true := by rw [hfs, hbs] at h6; simpa using h6
              refine XC.skip ?_
              refine XQ.block_normal ?_
              refine XQ.then_normal ?_
              refine XC.region ?_
              refine XO.rd rfl rfl rfl (Reads.move rfl) ?_
              refine XO.rd rfl rfl rfl (Reads.add rfl rfl (by omega)) ?_
              refine XO.rd rfl rfl rfl (Reads.assign rfl) ?_
              refine XO.nil ?_
              have hnew : bestF ⟨n, bs⟩ M (i + 1) = (bestF ⟨n, bs⟩ M i) := (bestF_better hfs hbs).trans ((if_neg hbef).trans hbs.symm)
              refine XQ.back (i + 1, ab, cb, _) ⟨Im.le_trans hJ3 hle4, by simp only; omega, by simp only; rw [hnew]; exact hH⟩ (by simp only; omega) ⟨rfl, rfl, rfl, by simp only [hnew]; rfl, rfl, trivial⟩ rfl (List.Perm.refl _)
        · skip
          have hfn : firstF ⟨n, bs⟩ i i M (-1) = none := by simpa using h4
          refine XO.s (wg rfl rfl rfl) rfl ?_
          refine XO.s (wg rfl rfl rfl) rfl ?_
          refine XO.s (wg rfl rfl rfl) rfl ?_
          refine XO.s (wgu rfl rfl) rfl ?_
          refine XO.s (wgu rfl rfl) rfl ?_
          refine XO.s (wgu rfl rfl) rfl ?_
          refine XO.s (wg rfl rfl rfl) rfl ?_
          refine XO.rd rfl rfl rfl (Reads.pick_false rfl rfl) ?_
          refine XO.nil ?_
          refine XQ.then_normal ?_
          refine XC.cond rfl (fun hx => by cases hx) (fun _ => ?_)
          refine XC.skip ?_
          refine XQ.block_normal ?_
          refine XQ.then_normal ?_
          refine XC.region ?_
          refine XO.rd rfl rfl rfl (Reads.move rfl) ?_
          refine XO.rd rfl rfl rfl (Reads.add rfl rfl (by omega)) ?_
          refine XO.rd rfl rfl rfl (Reads.assign rfl) ?_
          refine XO.nil ?_
          have hnew : bestF ⟨n, bs⟩ M (i + 1) = (bestF ⟨n, bs⟩ M i) := bestF_none hfn
          refine XQ.back (i + 1, ab, cb, _) ⟨Im.le_trans hJ3 hle4, by simp only; omega, by simp only; rw [hnew]; exact hH⟩ (by simp only; omega) ⟨rfl, rfl, rfl, by simp only [hnew]; rfl, rfl, trivial⟩ rfl (List.Perm.refl _)
      · skip
        simp only [cmpInt, decide_eq_false_iff_not] at h3
        have hie : i = n := by omega
        rw [hie] at hH
        refine XC.exit ?_
        refine XQ.then_exit ?_
        refine XQ.then_exit ?_
        refine XQ.block_exit ?_
        refine XQ.then_normal ?_
        refine XC.seq ?_
        refine XC.region ?_
        refine XO.rd rfl rfl rfl (Reads.move rfl) ?_
        refine XO.rd rfl rfl rfl (Reads.slice_nen Try.underlying22 rfl rfl) ?_
        refine XO.nil ?_
        refine XQ.then_normal ?_
        refine XC.cond rfl (fun h7 => ?_) (fun h7 => ?_)
        · skip
          obtain ⟨r1, hbs⟩ : ∃ r1, bestF ⟨n, bs⟩ M n = some r1 := by rw [hH.nil] at h7; exact Option.isSome_iff_exists.1 (by simpa using h7)
          refine XC.seq ?_
          refine XC.region ?_
          refine XO.rd rfl rfl rfl (Reads.move rfl) ?_
          refine XO.rd rfl rfl rfl (Reads.assign rfl) ?_
          refine XO.rd rfl rfl rfl (Reads.assign rfl) ?_
          refine XO.nil ?_
          refine XQ.then_normal ?_
          refine XC.ret ?_
          refine XQ.block_ret ?_
          refine XQ.then_ret ?_
          refine XQ.then_ret ?_
          refine XQ.block_ret ?_
          refine XQ.then_ret ?_
          refine XQ.dropn 1 ?_
          refine XQ.done2 (L := []) rfl rfl rfl hI ?_
          have hcy := cycle_at hSm hok hm0 (by omega) hm2 hbs
          exact ⟨rfl, _, by rw [hcy]; rfl, (fun r hr => by rw [hcy] at hr; cases hr; have h9 := hH.sl; rw [hbs] at h9; rw [hie, hbs]; exact h9), fun hr => by rw [hcy] at hr; cases hr⟩
        · skip
          have hbn : bestF ⟨n, bs⟩ M n = none := by rw [hH.nil] at h7; simpa using h7
          refine XC.skip ?_
          refine XQ.block_normal ?_
          refine XQ.then_normal ?_
          refine XC.region ?_
          refine XO.rd rfl rfl rfl (Reads.move rfl) ?_
          refine XO.rd rfl rfl rfl (Reads.add rfl rfl (by omega)) ?_
          refine XO.rd rfl rfl rfl (Reads.assign rfl) ?_
          refine XO.nil ?_
          refine XQ.back (M + 1, J3) ⟨Im.le_trans hJ2 hJ3, by simp only; omega, by simp only; omega, fun j g1 g2 => by rcases Nat.lt_succ_iff_lt_or_eq.1 g2 with h9 | rfl; exact hm2 j g1 h9; exact hbn⟩ (by simp only; omega) ⟨rfl, rfl, rfl, trivial⟩ rfl (List.Perm.refl _)
    · skip
      simp only [cmpInt, decide_eq_false_iff_not] at h2
      refine XC.exit ?_
      refine XQ.then_exit ?_
      refine XQ.then_exit ?_
      refine XQ.block_exit ?_
      refine XQ.then_normal ?_
      refine XC.seq ?_
      refine XC.region ?_
      refine XO.rd rfl rfl rfl (Reads.assign rfl) ?_
      refine XO.rd rfl rfl rfl (Reads.assign rfl) ?_
      refine XO.nil ?_
      refine XQ.then_normal ?_
      refine XC.ret ?_
      refine XQ.dropn 1 ?_
      refine XQ.done2 (L := []) rfl rfl rfl hI ?_
      have hcy := cycle_no hSm hok (fun j g1 g2 => hm2 j g1 (by omega))
      exact ⟨rfl, _, by rw [hcy]; rfl, (fun r hr => by rw [hcy] at hr; cases hr), fun _ => rfl⟩

set_option maxHeartbeats 1000000 in
theorem rimplied_any (b : Btw) (x : Bnd) (a : Option Addr) (cap : Nat) (I : Im) (hA : Arr I a b.bs) (hlen : b.bs.length ≤ 1000000) : FC Try.prog 34 [.agg #[.int .i64 b.n, .slice a b.bs.length cap], .agg x.cs.toArray] I (fun u I' => BOut I' u (b.implied x)) := by
  obtain ⟨bn, bs⟩ := b
  have hI := Im.le_refl I
  refine FSo.intro (n := 45) Try.func34 rfl rfl rfl (fun K Lf => ?_)
  refine XC.seq ?_
  refine XC.region ?_
  refine XO.box_agg rfl rfl rfl (fun b2 => ?_)
  refine XO.box_agg rfl rfl rfl (fun b3 => ?_)
  refine XO.rd rfl rfl rfl (Reads.assign rfl) ?_
  refine XO.rd rfl rfl rfl (Reads.assign rfl) ?_
  refine XO.nil ?_
  refine XQ.then_normal ?_
  refine XC.seq ?_
  refine XC.seq ?_
  refine XC.region ?_
  refine XO.rd rfl rfl rfl (Reads.load_whole k28 z28 rfl (by first | exact WholeAt.of 0 rfl | exact WholeAt.of 1 rfl | exact WholeAt.of 2 rfl | exact WholeAt.of 3 rfl) (by rfl)) ?_
  refine XO.callp rfl rfl en23 (rvalid_any ⟨bn, bs⟩ a cap _ hA hlen) ⟨rfl, trivial⟩ ?_
  refine XO.rd rfl rfl rfl (Reads.not rfl) ?_
  refine XO.rd rfl rfl rfl (Reads.move rfl) ?_
  refine XO.split (d := 13) rfl (fun h1 => ?_) (fun h1 => ?_)
  · skip
    simp only [Bool.not_eq_true'] at h1
    have hkf : Btw.keeps ⟨bn, bs⟩ x = false := by simp [Btw.keeps, h1]
    refine XO.s (wg rfl rfl rfl) rfl ?_
    refine XO.s (wg rfl rfl rfl) rfl ?_
    refine XO.s (wg rfl rfl rfl) rfl ?_
    refine XO.s (wg rfl rfl rfl) rfl ?_
    refine XO.s (wg rfl rfl rfl) rfl ?_
    refine XO.rd rfl rfl rfl (Reads.pick_true rfl rfl) ?_
    refine XO.nil ?_
    refine XQ.then_normal ?_
    refine XC.cond rfl (fun _ => ?_) (fun hx => by cases hx)
    refine XC.seq ?_
    refine XC.region ?_
    refine XO.rd rfl rfl rfl (Reads.assign rfl) ?_
    refine XO.rd rfl rfl rfl (Reads.assign rfl) ?_
    refine XO.nil ?_
    refine XQ.then_normal ?_
    refine XC.ret ?_
    refine XQ.then_ret ?_
    refine XQ.dropn 2 ?_
    refine XQ.done2 (L := []) rfl rfl rfl hI ?_
    exact ⟨rfl, _, by rw [implied_off hkf]; rfl, (fun r hr => by rw [implied_off hkf] at hr; cases hr), fun _ => rfl⟩
  · skip
    simp only [Bool.not_eq_false'] at h1
    have hok0 : Btw.ok ⟨bn, bs⟩ = true := h1
    refine XO.rd (wg rfl rfl rfl) rfl rfl (fa28_0 rfl) ?_
    refine XO.rd (wg rfl rfl rfl) rfl rfl (Reads.load_own k3 rfl (by first | exact OwnAt.of 0 rfl rfl | exact OwnAt.of 1 rfl rfl | exact OwnAt.of 2 rfl rfl | exact OwnAt.of 3 rfl rfl)) ?_
    refine XO.rd (wg rfl rfl rfl) rfl rfl (Reads.load_whole k30 z30 rfl (by first | exact WholeAt.of 0 rfl | exact WholeAt.of 1 rfl | exact WholeAt.of 2 rfl | exact WholeAt.of 3 rfl) (by rfl)) ?_
    refine XO.callp (wg rfl rfl rfl) rfl en52 (rbound_any _ x _ (Btw.ok_n hok0)) ⟨rfl, rfl, trivial⟩ ?_
    refine XO.rd (wg rfl rfl rfl) rfl rfl (Reads.not rfl) ?_
    refine XO.rd rfl rfl rfl (Reads.pick_false rfl rfl) ?_
    refine XO.nil ?_
    refine XQ.then_normal ?_
    refine XC.cond rfl (fun h2 => ?_) (fun h2 => ?_)
    · skip
      simp only [Bool.not_eq_true'] at h2
      have hkf : Btw.keeps ⟨bn, bs⟩ x = false := by simp [Btw.keeps, h2]
      refine XC.seq ?_
      refine XC.region ?_
      refine XO.rd rfl rfl rfl (Reads.assign rfl) ?_
      refine XO.rd rfl rfl rfl (Reads.assign rfl) ?_
      refine XO.nil ?_
      refine XQ.then_normal ?_
      refine XC.ret ?_
      refine XQ.then_ret ?_
      refine XQ.dropn 2 ?_
      refine XQ.done2 (L := []) rfl rfl rfl hI ?_
      exact ⟨rfl, _, by rw [implied_off hkf]; rfl, (fun r hr => by rw [implied_off hkf] at hr; cases hr), fun _ => rfl⟩
    · skip
      simp only [Bool.not_eq_false'] at h2
      have hbx : bndOk bn x = true := h2
      have hok : Btw.ok ⟨bn, bs⟩ = true := hok0
      obtain ⟨n, rfl⟩ := Int.eq_ofNat_of_zero_le (Btw.ok_n hok).1
      simp only at hA hbx ⊢
      have hn16 := Btw.ok_n hok
      have hb60 := Btw.ok_len hok
      simp only at hn16 hb60
      have hbd : ∀ x ∈ bs, (0 ≤ x.fr ∧ x.fr < n) ∧ (0 ≤ x.to ∧ x.to < n) ∧ -1000000000 ≤ x.mo ∧ x.mo ≤ 1000000000 := fun x hx => bndOk_iff.1 (Btw.ok_bnd hok hx)
      obtain ⟨n2, hSm⟩ := Small.of_ok hok
      have hn2 : n2 = n := by have := hSm.num; simp only at this; omega
      rw [hn2] at hSm
      clear hn2
      have hxb := bndOk_iff.1 hbx
      refine XC.skip ?_
      refine XQ.then_normal ?_
      refine XC.seq ?_
      refine XC.seq ?_
      refine XC.region ?_
      refine XO.rd rfl rfl rfl (Reads.load_whole k28 z28 rfl (by first | exact WholeAt.of 0 rfl | exact WholeAt.of 1 rfl | exact WholeAt.of 2 rfl | exact WholeAt.of 3 rfl) (by rfl)) ?_
      refine XO.callp rfl rfl en40 (FC.pure (rcontra_any n bs a cap _ hA hok)) ⟨rfl, trivial⟩ ?_
      refine XO.nil ?_
      refine XQ.then_normal ?_
      refine XC.cond rfl (fun h3 => ?_) (fun h3 => ?_)
      · skip
        simp only [Bool.not_eq_true'] at h3
        have hkf : Btw.keeps ⟨n, bs⟩ x = false := by simp [Btw.keeps, h3]
        refine XC.seq ?_
        refine XC.region ?_
        refine XO.rd rfl rfl rfl (Reads.assign rfl) ?_
        refine XO.rd rfl rfl rfl (Reads.assign rfl) ?_
        refine XO.nil ?_
        refine XQ.then_normal ?_
        refine XC.ret ?_
        refine XQ.then_ret ?_
        refine XQ.dropn 2 ?_
        refine XQ.done2 (L := []) rfl rfl rfl hI ?_
        exact ⟨rfl, _, by rw [implied_off hkf]; rfl, (fun r hr => by rw [implied_off hkf] at hr; cases hr), fun _ => rfl⟩
      · skip
        simp only [Bool.not_eq_false'] at h3
        have hfi : (Btw.dist ⟨n, bs⟩).fine n = true := h3
        refine XC.skip ?_
        refine XQ.then_normal ?_
        refine XC.seq ?_
        refine XC.region ?_
        refine XO.rd rfl rfl rfl (Reads.load_whole k28 z28 rfl (by first | exact WholeAt.of 0 rfl | exact WholeAt.of 1 rfl | exact WholeAt.of 2 rfl | exact WholeAt.of 3 rfl) (by rfl)) ?_
        refine XO.call rfl rfl en41 (sums_any n bs a cap _ hA hok) ⟨rfl, trivial⟩ ?_
        rintro u J1 hle1 hs
        replace hI := Im.le_trans hI hle1
        replace hA := hA.mono hle1
        obtain ⟨at0, c0, rfl, hct, hTb⟩ := hs.ex
        simp only [tabs_len] at hct ⊢
        refine XO.rd rfl rfl rfl (Reads.assign rfl) ?_
        refine XO.nil ?_
        refine XQ.then_normal ?_
        refine XC.seq ?_
        refine XC.seq ?_
        refine XC.region ?_
        refine XO.rd rfl rfl rfl (Reads.assign rfl) ?_
        refine XO.nil ?_
        refine XQ.then_normal ?_
        refine XC.block ?_
        refine XC.loop (ι := Nat × Im) (fun q => [(2, .pointer (some ⟨b2, 0, none⟩)), (3, .pointer (some ⟨b3, 0, none⟩)), (6, .slice at0 (n + 1) c0), (7, .int .i64 q.1)]) (fun q => q.2) (fun q => some (b3, .cells x.cs.toArray 30 (0, 0)) :: some (b2, .cells #[.int .i64 n, .slice a bs.length cap] 28 (0, 0)) :: ([] ++ Lf)) (fun q => J1.le q.2 ∧ q.1 ≤ n + 1 ∧ ∀ j, j < q.1 → firstF ⟨n, bs⟩ x.fr x.to j x.mo = none) (fun q => n + 1 - q.1) (0, J1) ⟨Im.le_refl _, Nat.zero_le _, fun _ h => absurd h (Nat.not_lt_zero _)⟩ ⟨rfl, rfl, rfl, rfl, trivial⟩ rfl (List.Perm.refl _) (fun q hq => ?_)
        obtain ⟨m, J2⟩ := q
        obtain ⟨hJ2, hm1, hm2⟩ := hq
        simp only at hJ2 hm1 hm2 ⊢
        replace hI := Im.le_trans hI hJ2
        replace hA := hA.mono hJ2
        replace hTb := hTb.mono hJ2
        refine XC.seq ?_
        refine XC.seq ?_
        refine XC.region ?_
        refine XO.rd rfl rfl rfl (Reads.move rfl) ?_
        refine XO.rd rfl rfl rfl (fa28_0 rfl) ?_
        refine XO.rd rfl rfl rfl (Reads.load_own k3 rfl (by first | exact OwnAt.of 0 rfl rfl | exact OwnAt.of 1 rfl rfl | exact OwnAt.of 2 rfl rfl | exact OwnAt.of 3 rfl rfl)) ?_
        refine XO.rd rfl rfl rfl (Reads.cmp rfl rfl rfl) ?_
        refine XO.nil ?_
        refine XQ.then_normal ?_
        refine XC.cond rfl (fun h4 => ?_) (fun h4 => ?_)
        · skip
          simp only [cmpInt, decide_eq_true_eq] at h4
          refine XC.skip ?_
          refine XQ.then_normal ?_
          refine XC.seq ?_
          refine XC.block ?_
          refine XC.seq ?_
          refine XC.region ?_
          refine XO.rd rfl rfl rfl (Reads.load_whole k28 z28 rfl (by first | exact WholeAt.of 0 rfl | exact WholeAt.of 1 rfl | exact WholeAt.of 2 rfl | exact WholeAt.of 3 rfl) (by rfl)) ?_
          refine XO.rd rfl rfl rfl (Reads.move rfl) ?_
          refine XO.rd rfl rfl rfl (fa30_0 rfl) ?_
          refine XO.rd rfl rfl rfl (Reads.load_own k3 rfl (by first | exact OwnAt.of 0 rfl rfl | exact OwnAt.of 1 rfl rfl | exact OwnAt.of 2 rfl rfl | exact OwnAt.of 3 rfl rfl)) ?_
          refine XO.rd rfl rfl rfl (fa30_1 rfl) ?_
          refine XO.rd rfl rfl rfl (Reads.load_own k3 rfl (by first | exact OwnAt.of 0 rfl rfl | exact OwnAt.of 1 rfl rfl | exact OwnAt.of 2 rfl rfl | exact OwnAt.of 3 rfl rfl)) ?_
          refine XO.rd rfl rfl rfl (Reads.move rfl) ?_
          refine XO.rd rfl rfl rfl (fa30_2 rfl) ?_
          refine XO.rd rfl rfl rfl (Reads.load_own k3 rfl (by first | exact OwnAt.of 0 rfl rfl | exact OwnAt.of 1 rfl rfl | exact OwnAt.of 2 rfl rfl | exact OwnAt.of 3 rfl rfl)) ?_
          refine XO.call rfl rfl en45 (rfirst_any n bs a cap at0 c0 (n + 1) x.fr x.to m x.mo _ hA hok hTb (by omega) (by omega) (by omega) (by omega) (by omega)) ⟨rfl, rfl, rfl, rfl, rfl, rfl, trivial⟩ ?_
          rintro u I4 hle4 hb
          replace hI := Im.le_trans hI hle4
          replace hA := hA.mono hle4
          replace hTb := hTb.mono hle4
          have hbi := hb
          obtain ⟨v1, rfl, hv1, hv2⟩ := hb
          refine XO.rd rfl rfl rfl (Reads.move rfl) ?_
          refine XO.rd rfl rfl rfl (Reads.extract rfl rfl) ?_
          refine XO.rd rfl rfl rfl (Reads.extract rfl rfl) ?_
          refine XO.rd rfl rfl rfl (Reads.assign rfl) ?_
          refine XO.rd rfl rfl rfl (Reads.assign rfl) ?_
          refine XO.nil ?_
          refine XQ.then_normal ?_
          refine XC.seq ?_
          refine XC.region ?_
          refine XO.rd rfl rfl rfl (Reads.move rfl) ?_
          refine XO.nil ?_
          refine XQ.then_normal ?_
          refine XC.cond rfl (fun h5 => ?_) (fun h5 => ?_)
          · skip
            obtain ⟨l1, hfs⟩ := Option.isSome_iff_exists.1 h5
            refine XC.seq ?_
            refine XC.region ?_
            refine XO.rd rfl rfl rfl (Reads.move rfl) ?_
            refine XO.rd rfl rfl rfl (Reads.assign rfl) ?_
            refine XO.rd rfl rfl rfl (Reads.assign rfl) ?_
            refine XO.nil ?_
            refine XQ.then_normal ?_
            refine XC.ret ?_
            refine XQ.block_ret ?_
            refine XQ.then_ret ?_
            refine XQ.then_ret ?_
            refine XQ.block_ret ?_
            refine XQ.then_ret ?_
            refine XQ.dropn 2 ?_
            refine XQ.done2 (L := []) rfl rfl rfl hI ?_
            have hcy := implied_at hSm hok hbx hfi (show m ≤ n by omega) hm2 hfs
            exact ⟨rfl, _, by rw [hcy]; rfl, (fun r hr => by rw [hcy] at hr; cases hr; exact hv1 _ hfs), fun hr => by rw [hcy] at hr; cases hr⟩
          · skip
            have hfn : firstF ⟨n, bs⟩ x.fr x.to m x.mo = none := by simpa using h5
            refine XC.skip ?_
            refine XQ.block_normal ?_
            refine XQ.then_normal ?_
            refine XC.region ?_
            refine XO.rd rfl rfl rfl (Reads.move rfl) ?_
            refine XO.rd rfl rfl rfl (Reads.add rfl rfl (by omega)) ?_
            refine XO.rd rfl rfl rfl (Reads.assign rfl) ?_
            refine XO.nil ?_
            refine XQ.back (m + 1, _) ⟨Im.le_trans hJ2 hle4, by simp only; omega, fun j g => by rcases Nat.lt_succ_iff_lt_or_eq.1 g with h9 | rfl; exact hm2 j h9; exact hfn⟩ (by simp only; omega) ⟨rfl, rfl, rfl, rfl, trivial⟩ rfl (List.Perm.refl _)
        · skip
          simp only [cmpInt, decide_eq_false_iff_not] at h4
          refine XC.exit ?_
          refine XQ.then_exit ?_
          refine XQ.then_exit ?_
          refine XQ.block_exit ?_
          refine XQ.then_normal ?_
          refine XC.seq ?_
          refine XC.region ?_
          refine XO.rd rfl rfl rfl (Reads.assign rfl) ?_
          refine XO.rd rfl rfl rfl (Reads.assign rfl) ?_
          refine XO.nil ?_
          refine XQ.then_normal ?_
          refine XC.ret ?_
          refine XQ.dropn 2 ?_
          refine XQ.done2 (L := []) rfl rfl rfl hI ?_
          have hcy := implied_no hSm hbx (fun j g => hm2 j (by omega))
          exact ⟨rfl, _, by rw [hcy]; rfl, (fun r hr => by rw [hcy] at hr; cases hr), fun _ => rfl⟩

end Go.Proofs.Ytlgfpieokaegiaa
