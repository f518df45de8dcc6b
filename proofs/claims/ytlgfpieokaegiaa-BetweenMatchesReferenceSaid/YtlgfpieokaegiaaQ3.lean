/- Walks: the reference's Close, Solve, and first chain. -/
import Derived.Test.YtlgfpieokaegiaaQ2
namespace Go.Proofs.Ytlgfpieokaegiaa
open Go.Xe

set_option maxHeartbeats 1000000 in
theorem rclose_any (b : Btw) (a : Option Addr) (cap : Nat) (I : Im) (hA : Arr I a b.bs) (hlen : b.bs.length ≤ 1000000) : FC Try.prog 17 [.agg #[.int .i64 b.n, .slice a b.bs.length cap]] I (fun u I' => ROut I' u b.close) := by
  obtain ⟨bn, bs⟩ := b
  have hI := Im.le_refl I
  refine FSo.intro (n := 64) Try.func17 rfl rfl rfl (fun K Lf => ?_)
  refine XC.seq ?_
  refine XC.region ?_
  refine XO.box_agg rfl rfl rfl (fun b1 => ?_)
  refine XO.rd rfl rfl rfl (Reads.assign rfl) ?_
  refine XO.rd rfl rfl rfl (Reads.assign rfl) ?_
  refine XO.nil ?_
  refine XQ.then_normal ?_
  refine XC.seq ?_
  refine XC.seq ?_
  refine XC.region ?_
  refine XO.rd rfl rfl rfl (Reads.load_whole k28 z28 rfl (by first | exact WholeAt.of 0 rfl | exact WholeAt.of 1 rfl | exact WholeAt.of 2 rfl | exact WholeAt.of 3 rfl | exact WholeAt.of 4 rfl | exact WholeAt.of 5 rfl) (by rfl)) ?_
  refine XO.callp rfl rfl en23 (rvalid_any ⟨bn, bs⟩ a cap _ hA hlen) ⟨rfl, trivial⟩ ?_
  refine XO.rd rfl rfl rfl (Reads.not rfl) ?_
  refine XO.nil ?_
  refine XQ.then_normal ?_
  refine XC.cond rfl (fun h1 => ?_) (fun h1 => ?_)
  · skip
    simp only [Bool.not_eq_true'] at h1
    have hok : Btw.ok ⟨bn, bs⟩ = false := h1
    refine XC.seq ?_
    refine XC.region ?_
    refine XO.rd rfl rfl rfl (Reads.assign rfl) ?_
    refine XO.rd rfl rfl rfl (Reads.assign rfl) ?_
    refine XO.nil ?_
    refine XQ.then_normal ?_
    refine XC.ret ?_
    refine XQ.then_ret ?_
    refine XQ.dropn 1 ?_
    refine XQ.done2 (L := []) rfl rfl rfl hI ?_
    exact ⟨rfl, _, _, rfl, (fun r hr => by simp [Btw.close, hok] at hr), fun _ => ⟨rfl, rfl⟩⟩
  · skip
    simp only [Bool.not_eq_false'] at h1
    have hok : Btw.ok ⟨bn, bs⟩ = true := h1
    obtain ⟨n, rfl⟩ := Int.eq_ofNat_of_zero_le (Btw.ok_n hok).1
    simp only at hA ⊢
    have hn16 := Btw.ok_n hok
    have hb60 := Btw.ok_len hok
    simp only at hn16 hb60
    have hbd : ∀ x ∈ bs, (0 ≤ x.fr ∧ x.fr < n) ∧ (0 ≤ x.to ∧ x.to < n) ∧ -1000000000 ≤ x.mo ∧ x.mo ≤ 1000000000 := fun x hx => bndOk_iff.1 (Btw.ok_bnd hok hx)
    obtain ⟨n2, hSm⟩ := Small.of_ok hok
    have hn2 : n2 = n := by have := hSm.num; simp only at this; omega
    rw [hn2] at hSm
    clear hn2
    refine XC.skip ?_
    refine XQ.then_normal ?_
    refine XC.seq ?_
    refine XC.seq ?_
    refine XC.region ?_
    refine XO.rd rfl rfl rfl (Reads.load_whole k28 z28 rfl (by first | exact WholeAt.of 0 rfl | exact WholeAt.of 1 rfl | exact WholeAt.of 2 rfl | exact WholeAt.of 3 rfl | exact WholeAt.of 4 rfl | exact WholeAt.of 5 rfl) (by rfl)) ?_
    refine XO.callp rfl rfl en40 (FC.pure (rcontra_any n bs a cap _ hA hok)) ⟨rfl, trivial⟩ ?_
    refine XO.nil ?_
    refine XQ.then_normal ?_
    refine XC.cond rfl (fun h2 => ?_) (fun h2 => ?_)
    · skip
      simp only [Bool.not_eq_true'] at h2
      have hfi : (Btw.dist ⟨n, bs⟩).fine n = false := h2
      refine XC.seq ?_
      refine XC.region ?_
      refine XO.rd rfl rfl rfl (Reads.assign rfl) ?_
      refine XO.rd rfl rfl rfl (Reads.assign rfl) ?_
      refine XO.nil ?_
      refine XQ.then_normal ?_
      refine XC.ret ?_
      refine XQ.then_ret ?_
      refine XQ.dropn 1 ?_
      refine XQ.done2 (L := []) rfl rfl rfl hI ?_
      exact ⟨rfl, _, _, rfl, (fun r hr => by simp [Btw.close, hfi] at hr), fun _ => ⟨rfl, rfl⟩⟩
    · skip
      simp only [Bool.not_eq_false'] at h2
      have hfi : (Btw.dist ⟨n, bs⟩).fine n = true := h2
      refine XC.skip ?_
      refine XQ.then_normal ?_
      refine XC.seq ?_
      refine XC.region ?_
      refine XO.rd rfl rfl rfl (Reads.load_whole k28 z28 rfl (by first | exact WholeAt.of 0 rfl | exact WholeAt.of 1 rfl | exact WholeAt.of 2 rfl | exact WholeAt.of 3 rfl | exact WholeAt.of 4 rfl | exact WholeAt.of 5 rfl) (by rfl)) ?_
      refine XO.call rfl rfl en41 (sums_any n bs a cap _ hA hok) ⟨rfl, trivial⟩ ?_
      rintro u J1 hle1 hs
      replace hI := Im.le_trans hI hle1
      replace hA := hA.mono hle1
      obtain ⟨at0, c0, rfl, hct, hTb⟩ := hs.ex
      simp only [tabs_len] at hct ⊢
      refine XO.rd rfl rfl rfl (Reads.assign rfl) ?_
      refine XO.nil ?_
      refine XQ.then_normal ?_
      refine XC.seq ?_
      refine XC.region ?_
      refine XO.rd rfl rfl rfl (Reads.assign rfl) ?_
      refine XO.nil ?_
      refine XQ.then_normal ?_
      refine XC.seq ?_
      refine XC.seq ?_
      refine XC.region ?_
      refine XO.rd rfl rfl rfl (Reads.assign rfl) ?_
      refine XO.nil ?_
      refine XQ.then_normal ?_
      refine XC.block ?_
      refine XC.vec0 22 ?_
      refine XC.loop (ι := Nat × Vec × List Value × Im) (fun q => [(1, .pointer (some ⟨b1, 0, none⟩)), (4, .slice at0 (n + 1) c0), (5, q.2.1.val), (6, .int .i64 q.1)]) (fun q => q.2.2.2) (fun q => q.2.1.ent 22 :: some (b1, .cells #[.int .i64 n, .slice a bs.length cap] 28 (0, 0)) :: ([] ++ Lf)) (fun q => J1.le q.2.2.2 ∧ q.1 ≤ n ∧ q.2.1.Is 1 q.2.2.1 ∧ Flat q.2.2.2 q.2.2.1 (rowsP (Btw.dist ⟨n, bs⟩) n q.1)) (fun q => n - q.1) (0, Vec.nil, [], J1) ⟨Im.le_refl _, Nat.zero_le _, Vec.nil_is 1, .nil⟩ ⟨rfl, rfl, rfl, rfl, trivial⟩ rfl (List.Perm.refl _) (fun q hq => ?_)
      obtain ⟨i, O, ds, J2⟩ := q
      obtain ⟨hJ2, hi1, hO, hD⟩ := hq
      simp only at hJ2 hi1 hO hD ⊢
      replace hI := Im.le_trans hI hJ2
      replace hA := hA.mono hJ2
      replace hTb := hTb.mono hJ2
      have hOl := hO.len
      rw [flat_len1 hD, rowsP_len, Nat.mul_one] at hOl
      refine XC.seq ?_
      refine XC.seq ?_
      refine XC.region ?_
      refine XO.rd rfl rfl rfl (Reads.move rfl) ?_
      refine XO.rd rfl rfl rfl (fa28_0 rfl) ?_
      refine XO.rd rfl rfl rfl (Reads.load_own k3 rfl (by first | exact OwnAt.of 0 rfl rfl | exact OwnAt.of 1 rfl rfl | exact OwnAt.of 2 rfl rfl | exact OwnAt.of 3 rfl rfl | exact OwnAt.of 4 rfl rfl | exact OwnAt.of 5 rfl rfl)) ?_
      refine XO.rd rfl rfl rfl (Reads.cmp rfl rfl rfl) ?_
      refine XO.nil ?_
      refine XQ.then_normal ?_
      refine XC.cond rfl (fun h3 => ?_) (fun h3 => ?_)
      · skip
        simp only [cmpInt, decide_eq_true_eq] at h3
        have hi3 : i < n := by omega
        refine XC.skip ?_
        refine XQ.then_normal ?_
        refine XC.seq ?_
        refine XC.block ?_
        refine XC.seq ?_
        refine XC.region ?_
        refine XO.rd rfl rfl rfl (fa28_0 rfl) ?_
        refine XO.rd rfl rfl rfl (Reads.load_own k3 rfl (by first | exact OwnAt.of 0 rfl rfl | exact OwnAt.of 1 rfl rfl | exact OwnAt.of 2 rfl rfl | exact OwnAt.of 3 rfl rfl | exact OwnAt.of 4 rfl rfl | exact OwnAt.of 5 rfl rfl)) ?_
        refine XO.makeSlice rfl rfl Try.underlying22 el3 rfl rfl rfl (by omega) (by omega) (fun br => ?_)
        rw [replicate_row]
        refine XO.rd rfl rfl rfl (Reads.assign rfl) ?_
        refine XO.nil ?_
        refine XQ.then_normal ?_
        refine XC.seq ?_
        refine XC.seq ?_
        refine XC.region ?_
        refine XO.rd rfl rfl rfl (Reads.assign rfl) ?_
        refine XO.nil ?_
        refine XQ.then_normal ?_
        refine XC.block ?_
        refine XC.loop (ι := Nat) (fun q => [(1, .pointer (some ⟨b1, 0, none⟩)), (4, .slice at0 (n + 1) c0), (5, O.val), (6, .int .i64 i), (7, .slice (some ⟨br, 0, none⟩) n n), (8, .int .i64 q)]) (fun q => J2) (fun q => some (br, .cells (rowC n (fun j => if j < q then (Btw.dist ⟨n, bs⟩) i j else 0)).toArray 3 (0, 0)) :: O.ent 22 :: some (b1, .cells #[.int .i64 n, .slice a bs.length cap] 28 (0, 0)) :: ([] ++ Lf)) (fun q => q ≤ n) (fun q => n - q) 0 (Nat.zero_le _) ⟨rfl, rfl, rfl, rfl, rfl, rfl, trivial⟩ rfl (List.Perm.of_eq (congrArg (fun c => some (br, Obj.cells (List.toArray c) 3 (0, 0)) :: _) (rowC_congr (fun j hj => by simp)))) (fun k hk => ?_)
        refine XC.seq ?_
        refine XC.seq ?_
        refine XC.region ?_
        refine XO.rd rfl rfl rfl (Reads.move rfl) ?_
        refine XO.rd rfl rfl rfl (fa28_0 rfl) ?_
        refine XO.rd rfl rfl rfl (Reads.load_own k3 rfl (by first | exact OwnAt.of 0 rfl rfl | exact OwnAt.of 1 rfl rfl | exact OwnAt.of 2 rfl rfl | exact OwnAt.of 3 rfl rfl | exact OwnAt.of 4 rfl rfl | exact OwnAt.of 5 rfl rfl)) ?_
        refine XO.rd rfl rfl rfl (Reads.cmp rfl rfl rfl) ?_
        refine XO.nil ?_
        refine XQ.then_normal ?_
        refine XC.cond rfl (fun h4 => ?_) (fun h4 => ?_)
        · skip
          simp only [cmpInt, decide_eq_true_eq] at h4
          have hkn : k < n := by omega
          refine XC.skip ?_
          refine XQ.then_normal ?_
          refine XC.seq ?_
          refine XC.block ?_
          refine XC.seq ?_
          refine XC.region ?_
          refine XO.rd rfl rfl rfl (Reads.move rfl) ?_
          refine XO.rd rfl rfl rfl (Reads.move rfl) ?_
          refine XO.rd rfl rfl rfl (Reads.index_own (q := k) Try.underlying22 z3 rfl rfl (by omega) (by omega)) ?_
          refine XO.store 0 rfl z3 rfl rfl rfl rfl (by rw [List.size_toArray, rowC_len]; omega) ?_
          rw [rowC_setA hkn]
          refine XO.nil ?_
          refine XQ.then_normal ?_
          refine XC.seq ?_
          refine XC.region ?_
          refine XO.rd rfl rfl rfl (Reads.assign rfl) ?_
          refine XO.nil ?_
          refine XQ.then_normal ?_
          refine XC.block ?_
          refine XC.loop (ι := Nat) (fun q => [(1, .pointer (some ⟨b1, 0, none⟩)), (4, .slice at0 (n + 1) c0), (5, O.val), (6, .int .i64 i), (7, .slice (some ⟨br, 0, none⟩) n n), (8, .int .i64 k), (9, .int .i64 q)]) (fun q => J2) (fun q => some (br, .cells (rowC n (fun j => if j < k then (Btw.dist ⟨n, bs⟩) i j else if j = k then minW ⟨n, bs⟩ i k q else 0)).toArray 3 (0, 0)) :: O.ent 22 :: some (b1, .cells #[.int .i64 n, .slice a bs.length cap] 28 (0, 0)) :: ([] ++ Lf)) (fun q => q ≤ n + 1) (fun q => n + 1 - q) 0 (Nat.zero_le _) ⟨rfl, rfl, rfl, rfl, rfl, rfl, rfl, trivial⟩ rfl (List.Perm.of_eq (congrArg (fun c => some (br, Obj.cells (List.toArray c) 3 (0, 0)) :: _) (rowC_congr (fun j hj => cl0)))) (fun m hm => ?_)
          refine XC.seq ?_
          refine XC.seq ?_
          refine XC.region ?_
          refine XO.rd rfl rfl rfl (Reads.move rfl) ?_
          refine XO.rd rfl rfl rfl (fa28_0 rfl) ?_
          refine XO.rd rfl rfl rfl (Reads.load_own k3 rfl (by first | exact OwnAt.of 0 rfl rfl | exact OwnAt.of 1 rfl rfl | exact OwnAt.of 2 rfl rfl | exact OwnAt.of 3 rfl rfl | exact OwnAt.of 4 rfl rfl | exact OwnAt.of 5 rfl rfl)) ?_
          refine XO.rd rfl rfl rfl (Reads.cmp rfl rfl rfl) ?_
          refine XO.nil ?_
          refine XQ.then_normal ?_
          refine XC.cond rfl (fun h5 => ?_) (fun h5 => ?_)
          · skip
            simp only [cmpInt, decide_eq_true_eq] at h5
            have hm1 : m < n + 1 := by omega
            obtain ⟨a1, c1, ht1, ht2⟩ := tabs_get hTb hm1
            obtain ⟨ar, cr, hr1, hr2⟩ := tab_row ht2 hi3
            have hcn := hkn
            refine XC.skip ?_
            refine XQ.then_normal ?_
            refine XC.seq ?_
            refine XC.block ?_
            refine XC.draw m_mixed (some 18) (.pure 0 (.pure 1 (.pure 2 (.pure 3 (.pure 4 (.pure 5 (.pure 6 (.pure 7 (.pure 8 (.pure 9 (.pure 10 (.pure 11 (.pure 12 (.pure 13 (.pure 14 (.pure 15 (.pure 16 (.pure 17 (.eff 18 (.done)))))))))))))))))))) _ (by kernel_rfl) (List.Sublist.refl _) ?_
            refine XR.rd rfl rfl rfl (Reads.move rfl) ?_
            refine XR.rd rfl rfl rfl (Reads.move rfl) ?_
            refine XR.rd rfl rfl rfl (Reads.move rfl) ?_
            refine XR.rd rfl rfl rfl (Reads.move rfl) ?_
            refine XR.rd rfl rfl rfl (Reads.index_own (q := k) Try.underlying22 z3 rfl rfl (by omega) (by omega)) ?_
            refine XR.rd rfl rfl rfl (Reads.load_own (v := .int .i64 (minW ⟨n, bs⟩ i k m)) k3 rfl (OwnAt.of 0 rfl (by simp [rowC, hkn]))) ?_
            refine XR.rd rfl rfl rfl (Reads.move rfl) ?_
            refine XR.rd rfl rfl rfl (Reads.move rfl) ?_
            refine XR.rd rfl rfl rfl (Reads.index_slot Try.underlying65 z38 rfl rfl (by omega) ht1.isSome rfl) ?_
            refine XR.rd rfl rfl rfl (Reads.load_at k38 rfl ht1) ?_
            refine XR.rd rfl rfl rfl (Reads.move rfl) ?_
            refine XR.rd rfl rfl rfl (Reads.index_slot Try.underlying38 z22 rfl rfl (by omega) hr1.isSome rfl) ?_
            refine XR.rd rfl rfl rfl (Reads.load_at k22 rfl hr1) ?_
            refine XR.rd rfl rfl rfl (Reads.move rfl) ?_
            refine XR.rd rfl rfl rfl (Reads.index_slot Try.underlying22 z3 rfl rfl (by omega) (row_int hr2 hcn).isSome rfl) ?_
            refine XR.rd rfl rfl rfl (Reads.load_at k3 rfl (row_int hr2 hcn)) ?_
            refine XR.rd rfl rfl rfl (Reads.min rfl rfl) ?_
            refine XR.rd rfl rfl rfl (Reads.index_own (q := k) Try.underlying22 z3 rfl rfl (by omega) (by omega)) ?_
            refine XR.store 0 rfl rfl z3 rfl rfl rfl rfl (by rw [List.size_toArray, rowC_len]; omega) (.inl rfl) ?_
            rw [rowC_setA hkn]
            refine XR.nil ?_
            refine XQ.block_normal ?_
            refine XQ.then_normal ?_
            refine XC.weaken (E' := [(1, _), (4, _), (5, _), (6, _), (7, _), (8, _), (9, _)]) ⟨rfl, rfl, rfl, rfl, rfl, rfl, rfl, trivial⟩ ?_
            refine XC.region ?_
            refine XO.rd rfl rfl rfl (Reads.move rfl) ?_
            refine XO.rd rfl rfl rfl (Reads.add rfl rfl (by omega)) ?_
            refine XO.rd rfl rfl rfl (Reads.assign rfl) ?_
            refine XO.nil ?_
            refine XQ.back (m + 1) (by omega) (by omega) ⟨rfl, rfl, rfl, rfl, rfl, rfl, rfl, trivial⟩ rfl (List.Perm.of_eq (congrArg (fun c => some (br, Obj.cells (List.toArray c) 3 (0, 0)) :: _) (rowC_congr (fun j hj => cl1))))
          · skip
            simp only [cmpInt, decide_eq_false_iff_not] at h5
            have hmin := dist_min hSm hfi hi3 hkn
            have hme : m = n + 1 := by omega
            rw [← hme] at hmin
            refine XC.exit ?_
            refine XQ.then_exit ?_
            refine XQ.then_exit ?_
            refine XQ.block_exit ?_
            refine XQ.block_normal ?_
            refine XQ.then_normal ?_
            refine XC.region ?_
            refine XO.rd rfl rfl rfl (Reads.move rfl) ?_
            refine XO.rd rfl rfl rfl (Reads.add rfl rfl (by omega)) ?_
            refine XO.rd rfl rfl rfl (Reads.assign rfl) ?_
            refine XO.nil ?_
            refine XQ.back (k + 1) (by omega) (by omega) ⟨rfl, rfl, rfl, rfl, rfl, rfl, trivial⟩ rfl (List.Perm.of_eq (congrArg (fun c => some (br, Obj.cells (List.toArray c) 3 (0, 0)) :: _) (rowC_congr (fun j hj => cl2 hmin))))
        · skip
          simp only [cmpInt, decide_eq_false_iff_not] at h4
          refine XC.exit ?_
          refine XQ.then_exit ?_
          refine XQ.then_exit ?_
          refine XQ.block_exit ?_
          refine XQ.then_normal ?_
          refine XC.region ?_
          refine XO.own_eq (congrArg (fun c => some (br, Obj.cells (List.toArray c) 3 (0, 0)) :: _) (rowC_congr (g := fun j => (Btw.dist ⟨n, bs⟩) i j) (fun j hj => if_pos (by omega)))) ?_
          refine XO.row (fun J3 hle5 hsr => ?_)
          replace hI := Im.le_trans hI hle5
          replace hA := hA.mono hle5
          replace hTb := hTb.mono hle5
          replace hD := hD.mono hle5
          have hD2 := rowsP_flat hD hsr
          refine XO.rd rfl rfl rfl (Reads.move rfl) ?_
          refine XO.rd rfl rfl rfl (Reads.move rfl) ?_
          refine XO.buildL [.slice (some ⟨br, 0, none⟩) n n] [.slice (some ⟨br, 0, none⟩) n n] rfl rfl Try.underlying38 el22 rfl (by simp) ⟨rfl, rfl, trivial⟩ rfl rfl (fun bu => ?_)
          refine XO.append (V := O) (news := [.slice (some ⟨br, 0, none⟩) n n]) 1 rfl rfl Try.underlying38 el22 rfl rfl hO rfl (.slice Try.underlying38 (readable_row 0 rfl rfl) rfl (by simp [Value.oneCell'])) (by omega) (by omega) ?_
          intro O' hO' _
          refine XO.dropn 1 ?_
          refine XO.rd rfl rfl rfl (Reads.assign rfl) ?_
          refine XO.nil ?_
          refine XQ.block_normal ?_
          refine XQ.then_normal ?_
          refine XC.region ?_
          refine XO.rd rfl rfl rfl (Reads.move rfl) ?_
          refine XO.rd rfl rfl rfl (Reads.add rfl rfl (by omega)) ?_
          refine XO.rd rfl rfl rfl (Reads.assign rfl) ?_
          refine XO.nil ?_
          refine XQ.back (i + 1, O', ds ++ [.slice (some ⟨br, 0, none⟩) n n], _) ⟨Im.le_trans hJ2 hle5, by simp only; omega, hO', hD2⟩ (by simp only; omega) ⟨rfl, rfl, rfl, rfl, trivial⟩ rfl (List.Perm.refl _)
      · skip
        simp only [cmpInt, decide_eq_false_iff_not] at h3
        have hie : i = n := by omega
        rw [hie] at hD
        refine XC.exit ?_
        refine XQ.then_exit ?_
        refine XQ.then_exit ?_
        refine XQ.block_exit ?_
        refine XQ.then_normal ?_
        refine XC.seq ?_
        refine XC.region ?_
        refine XO.rd rfl rfl rfl (Reads.move rfl) ?_
        refine XO.rd rfl rfl rfl (Reads.assign rfl) ?_
        refine XO.rd rfl rfl rfl (Reads.assign rfl) ?_
        refine XO.nil ?_
        refine XQ.then_normal ?_
        refine XC.ret ?_
        refine XQ.give_vec (fun hb => ?_)
        refine XQ.dropn 1 ?_
        refine XQ.done2 (L := []) rfl rfl rfl (Im.le_trans hI (Vec.le_give hb)) ?_
        exact ⟨rfl, _, _, rfl, (fun r hr => ⟨rfl, by simp [Btw.close, hok, hfi] at hr; subst hr; exact (Vec.sl (α := List Int) (e := 22) (by decide) hO hD hb).2⟩), (fun hr => by simp [Btw.close, hok, hfi] at hr)⟩

theorem rsolve_any (b : Btw) (a : Option Addr) (cap : Nat) (I : Im) (hA : Arr I a b.bs) (hlen : b.bs.length ≤ 1000000) : FC Try.prog 19 [.agg #[.int .i64 b.n, .slice a b.bs.length cap]] I (fun u I' => ROut I' u b.solve) := by
  obtain ⟨bn, bs⟩ := b
  refine FSo.intro (n := 48) Try.func19 rfl rfl rfl (fun K Lf => ?_)
  refine XC.seq ?_
  refine XC.region ?_
  refine XO.box_agg rfl rfl rfl (fun b1 => ?_)
  refine XO.rd rfl rfl rfl (Reads.assign rfl) ?_
  refine XO.rd rfl rfl rfl (Reads.assign rfl) ?_
  refine XO.nil ?_
  refine XQ.then_normal ?_
  refine XC.seq ?_
  refine XC.region ?_
  refine XO.rd rfl rfl rfl (Reads.load_whole k28 z28 rfl (by first | exact WholeAt.of 0 rfl | exact WholeAt.of 1 rfl | exact WholeAt.of 2 rfl | exact WholeAt.of 3 rfl) (by rfl)) ?_
  refine XO.call rfl rfl en17 (rclose_any ⟨bn, bs⟩ a cap _ hA hlen) ⟨rfl, trivial⟩ ?_
  rintro u I' hle ⟨v, e, rfl, hy, hno⟩
  refine XO.rd rfl rfl rfl (Reads.move rfl) ?_
  refine XO.rd rfl rfl rfl (Reads.extract rfl rfl) ?_
  refine XO.rd rfl rfl rfl (Reads.extract rfl rfl) ?_
  refine XO.rd rfl rfl rfl (Reads.assign rfl) ?_
  refine XO.rd rfl rfl rfl (Reads.assign rfl) ?_
  refine XO.nil ?_
  refine XQ.then_normal ?_
  refine XC.seq ?_
  refine XC.seq ?_
  refine XC.region ?_
  refine XO.rd rfl rfl rfl (Reads.move rfl) ?_
  refine XO.rd rfl rfl rfl (Reads.cmp rfl rfl rfl) ?_
  refine XO.nil ?_
  refine XQ.then_normal ?_
  refine XC.cond rfl (fun h1 => ?_) (fun h1 => ?_)
  · skip
    simp [cmpInt] at h1
    have hnone : Btw.solve ⟨bn, bs⟩ = none := by
        cases hc : Btw.close ⟨bn, bs⟩ with
        | none => simp [Btw.close] at hc; simp [Btw.solve]; exact hc
        | some r => exact absurd (hy r hc).1 h1
    have he : e = 60 := by
        cases hc : Btw.close ⟨bn, bs⟩ with
        | none => exact (hno hc).1
        | some r => exact absurd (hy r hc).1 h1
    refine XC.seq ?_
    refine XC.region ?_
    refine XO.rd rfl rfl rfl (Reads.move rfl) ?_
    refine XO.rd rfl rfl rfl (Reads.assign rfl) ?_
    refine XO.rd rfl rfl rfl (Reads.assign rfl) ?_
    refine XO.nil ?_
    refine XQ.then_normal ?_
    refine XC.ret ?_
    refine XQ.then_ret ?_
    refine XQ.dropn 1 ?_
    refine XQ.done2 rfl rfl rfl hle ?_
    exact ⟨rfl, _, _, rfl, (fun r hr => by rw [hnone] at hr; cases hr), fun _ => ⟨he, rfl⟩⟩
  · skip
    simp [cmpInt] at h1
    subst h1
    have hc : ∃ r, Btw.close ⟨bn, bs⟩ = some r := by
        cases hc : Btw.close ⟨bn, bs⟩ with
        | none => have := (hno hc).1; omega
        | some r => exact ⟨r, rfl⟩
    obtain ⟨r, hc⟩ := hc
    have hv := (hy r hc).2
    have hok : Btw.ok ⟨bn, bs⟩ = true := by simp [Btw.close] at hc; exact hc.1.1
    have hfi : (Btw.dist ⟨bn, bs⟩).fine bn.toNat = true := by simp [Btw.close] at hc; exact hc.1.2
    have hrr : r = (Btw.dist ⟨bn, bs⟩).rows bn.toNat := by simp [Btw.close] at hc; exact hc.2.symm
    subst hrr
    have hn16 := Btw.ok_n hok
    obtain ⟨n, rfl⟩ := Int.eq_ofNat_of_zero_le hn16.1
    simp only at hn16
    have hsol : Btw.solve ⟨n, bs⟩ = some ((List.range n).map (solveF (Btw.dist ⟨n, bs⟩) n)) := by simp only [Btw.solve, hok, hfi]; rfl
    simp only [Int.ofNat_eq_natCast, Int.toNat_natCast] at hv hfi
    generalize hD : Btw.dist ⟨n, bs⟩ = D at hv hfi hsol ⊢
    obtain ⟨am, cm, rfl, hcm, hv⟩ := hv.ex
    simp only [rows_len]
    refine XC.skip ?_
    refine XQ.then_normal ?_
    refine XC.seq ?_
    refine XC.region ?_
    refine XO.rd rfl rfl rfl (fa28_0 rfl) ?_
    refine XO.rd rfl rfl rfl (Reads.load_own k3 rfl (by first | exact OwnAt.of 0 rfl rfl | exact OwnAt.of 1 rfl rfl | exact OwnAt.of 2 rfl rfl | exact OwnAt.of 3 rfl rfl)) ?_
    refine XO.makeSlice rfl rfl Try.underlying22 el3 rfl rfl rfl (by omega) (by omega) (fun bo => ?_)
    refine XO.rd rfl rfl rfl (Reads.assign rfl) ?_
    refine XO.nil ?_
    refine XQ.then_normal ?_
    refine XC.seq ?_
    refine XC.seq ?_
    refine XC.region ?_
    refine XO.rd rfl rfl rfl (Reads.assign rfl) ?_
    refine XO.nil ?_
    refine XQ.then_normal ?_
    refine XC.block ?_
    rw [replicate_row n 0]
    refine XC.loop (ι := Nat) (fun q => [(1, .pointer (some ⟨b1, 0, none⟩)), (4, .slice am n cm), (6, .slice (some ⟨bo, 0, none⟩) n n), (7, .int .i64 q)]) (fun q => I') (fun q => some (bo, .cells (rowC n (solveP D q)).toArray 3 (0, 0)) :: some (b1, .cells #[.int .i64 n, .slice a bs.length cap] 28 (0, 0)) :: ([] ++ Lf)) (fun q => q ≤ n) (fun q => n - q) 0 (Nat.zero_le _) ⟨rfl, rfl, rfl, rfl, trivial⟩ rfl (List.Perm.refl _) (fun i hi => ?_)
    refine XC.seq ?_
    refine XC.seq ?_
    refine XC.region ?_
    refine XO.rd rfl rfl rfl (Reads.move rfl) ?_
    refine XO.rd rfl rfl rfl (fa28_0 rfl) ?_
    refine XO.rd rfl rfl rfl (Reads.load_own k3 rfl (by first | exact OwnAt.of 0 rfl rfl | exact OwnAt.of 1 rfl rfl | exact OwnAt.of 2 rfl rfl | exact OwnAt.of 3 rfl rfl)) ?_
    refine XO.rd rfl rfl rfl (Reads.cmp rfl rfl rfl) ?_
    refine XO.nil ?_
    refine XQ.then_normal ?_
    refine XC.cond rfl (fun h2 => ?_) (fun h2 => ?_)
    · skip
      simp only [cmpInt, decide_eq_true_eq] at h2
      have hin : i < n := by omega
      obtain ⟨ar, cr, hr1, hr2⟩ := tab_row hv hin
      refine XC.skip ?_
      refine XQ.then_normal ?_
      refine XC.seq ?_
      refine XC.block ?_
      refine XC.seq ?_
      refine XC.region ?_
      refine XO.rd rfl rfl rfl (Reads.assign rfl) ?_
      refine XO.nil ?_
      refine XQ.then_normal ?_
      refine XC.block ?_
      refine XC.loop (ι := Nat) (fun q => [(1, .pointer (some ⟨b1, 0, none⟩)), (4, .slice am n cm), (6, .slice (some ⟨bo, 0, none⟩) n n), (7, .int .i64 i), (8, .int .i64 q)]) (fun q => I') (fun q => some (bo, .cells (rowC n (fun j => if j < q then solveP D (i + 1) j else solveP D i j)).toArray 3 (0, 0)) :: some (b1, .cells #[.int .i64 n, .slice a bs.length cap] 28 (0, 0)) :: ([] ++ Lf)) (fun q => q ≤ n) (fun q => n - q) 0 (Nat.zero_le _) ⟨rfl, rfl, rfl, rfl, rfl, trivial⟩ rfl (List.Perm.of_eq (by simp)) (fun k hk => ?_)
      refine XC.seq ?_
      refine XC.seq ?_
      refine XC.region ?_
      refine XO.rd rfl rfl rfl (Reads.move rfl) ?_
      refine XO.rd rfl rfl rfl (fa28_0 rfl) ?_
      refine XO.rd rfl rfl rfl (Reads.load_own k3 rfl (by first | exact OwnAt.of 0 rfl rfl | exact OwnAt.of 1 rfl rfl | exact OwnAt.of 2 rfl rfl | exact OwnAt.of 3 rfl rfl)) ?_
      refine XO.rd rfl rfl rfl (Reads.cmp rfl rfl rfl) ?_
      refine XO.nil ?_
      refine XQ.then_normal ?_
      refine XC.cond rfl (fun h3 => ?_) (fun h3 => ?_)
      · skip
        simp only [cmpInt, decide_eq_true_eq] at h3
        have hkn : k < n := by omega
        refine XC.skip ?_
        refine XQ.then_normal ?_
        refine XC.seq ?_
        refine XC.block ?_
        refine XC.draw m_mixed (some 15) (.pure 0 (.pure 1 (.pure 2 (.pure 3 (.pure 4 (.pure 5 (.pure 6 (.pure 7 (.pure 8 (.pure 9 (.pure 10 (.pure 11 (.pure 12 (.pure 13 (.pure 14 (.eff 15 (.done))))))))))))))))) _ (by kernel_rfl) (List.Sublist.refl _) ?_
        refine XR.rd rfl rfl rfl (Reads.move rfl) ?_
        refine XR.rd rfl rfl rfl (Reads.move rfl) ?_
        refine XR.rd rfl rfl rfl (Reads.move rfl) ?_
        refine XR.rd rfl rfl rfl (Reads.move rfl) ?_
        refine XR.rd rfl rfl rfl (Reads.index_own (q := k) Try.underlying22 z3 rfl rfl (by omega) (by omega)) ?_
        refine XR.rd rfl rfl rfl (Reads.load_own (v := .int .i64 (solveP D i k)) k3 rfl (OwnAt.of 0 rfl (by simp [rowC, hkn]))) ?_
        refine XR.rd rfl rfl rfl (Reads.move rfl) ?_
        refine XR.rd rfl rfl rfl (Reads.move rfl) ?_
        refine XR.rd rfl rfl rfl (Reads.index_slot Try.underlying38 z22 rfl rfl (by omega) hr1.isSome rfl) ?_
        refine XR.rd rfl rfl rfl (Reads.load_at k22 rfl hr1) ?_
        refine XR.rd rfl rfl rfl (Reads.move rfl) ?_
        refine XR.rd rfl rfl rfl (Reads.index_slot Try.underlying22 z3 rfl rfl (by omega) (row_int hr2 hkn).isSome rfl) ?_
        refine XR.rd rfl rfl rfl (Reads.load_at k3 rfl (row_int hr2 hkn)) ?_
        refine XR.rd rfl rfl rfl (Reads.min rfl rfl) ?_
        refine XR.rd rfl rfl rfl (Reads.index_own (q := k) Try.underlying22 z3 rfl rfl (by omega) (by omega)) ?_
        refine XR.store 0 rfl rfl z3 rfl rfl rfl rfl (by simp [rowC_len]; omega) (.inl rfl) ?_
        refine XR.nil ?_
        refine XQ.block_normal ?_
        refine XQ.then_normal ?_
        refine XC.region ?_
        refine XO.rd rfl rfl rfl (Reads.move rfl) ?_
        refine XO.rd rfl rfl rfl (Reads.add rfl rfl (by omega)) ?_
        refine XO.rd rfl rfl rfl (Reads.assign rfl) ?_
        refine XO.nil ?_
        refine XQ.back (k + 1) (by omega) (by omega) ⟨rfl, rfl, rfl, rfl, rfl, trivial⟩ rfl (List.Perm.of_eq (by rw [rowC_setA hkn, part_step (by simp [solveP_succ])]; rfl))
      · skip
        simp only [cmpInt, decide_eq_false_iff_not] at h3
        have hkn : k = n := by omega
        subst hkn
        refine XC.exit ?_
        refine XQ.then_exit ?_
        refine XQ.then_exit ?_
        refine XQ.block_exit ?_
        refine XQ.block_normal ?_
        refine XQ.then_normal ?_
        refine XC.region ?_
        refine XO.rd rfl rfl rfl (Reads.move rfl) ?_
        refine XO.rd rfl rfl rfl (Reads.add rfl rfl (by omega)) ?_
        refine XO.rd rfl rfl rfl (Reads.assign rfl) ?_
        refine XO.nil ?_
        refine XQ.back (i + 1) (by omega) (by omega) ⟨rfl, rfl, rfl, rfl, trivial⟩ rfl (List.Perm.of_eq (by rw [rowC_congr (g := solveP D (i + 1)) (fun j hj => by simp [hj])]))
    · skip
      simp only [cmpInt, decide_eq_false_iff_not] at h2
      have hin : i = n := by omega
      subst hin
      refine XC.exit ?_
      refine XQ.then_exit ?_
      refine XQ.then_exit ?_
      refine XQ.block_exit ?_
      refine XQ.then_normal ?_
      refine XC.seq ?_
      refine XC.region ?_
      refine XO.rd rfl rfl rfl (Reads.move rfl) ?_
      refine XO.rd rfl rfl rfl (Reads.assign rfl) ?_
      refine XO.rd rfl rfl rfl (Reads.assign rfl) ?_
      refine XO.nil ?_
      refine XQ.then_normal ?_
      refine XC.ret ?_
      refine XQ.row (fun I2 hle2 hs2 => ?_)
      refine XQ.dropn 1 ?_
      refine XQ.done2 rfl rfl rfl (Im.le_trans hle hle2) ?_
      exact ⟨rfl, _, _, rfl, (fun r hr => ⟨rfl, by rw [hsol] at hr; cases hr; exact hs2⟩), (fun hr => by rw [hsol] at hr; cases hr)⟩

set_option maxHeartbeats 1000000 in
theorem rfirst_any (n : Nat) (bs : List Bnd) (a : Option Addr) (cap : Nat) (aw : Option Addr) (cw N : Nat) (f0 to : Int) (M : Nat) (most0 : Int) (I : Im) (hA : Arr I a bs) (hok : Btw.ok ⟨n, bs⟩ = true) (hW : Arr I aw (tabs (Btw.walk ⟨n, bs⟩) n N)) (hMN : M < N) (hN : N ≤ 17) (hf0 : 0 ≤ f0 ∧ f0 < n) (hto : 0 ≤ to ∧ to < n) (hmo : -1000000000000 ≤ most0 ∧ most0 ≤ 1000000000000) : FC Try.prog 45 [.agg #[.int .i64 n, .slice a bs.length cap], .slice aw N cw, .int .i64 f0, .int .i64 to, .int .i64 (M : Int), .int .i64 most0] I (fun u I' => BOut I' u (firstF ⟨n, bs⟩ f0 to M most0)) := by
  have hI := Im.le_refl I
  have hn16 := Btw.ok_n hok
  have hb60 := Btw.ok_len hok
  simp only at hn16 hb60
  have hbd : ∀ x ∈ bs, (0 ≤ x.fr ∧ x.fr < n) ∧ (0 ≤ x.to ∧ x.to < n) ∧ -1000000000 ≤ x.mo ∧ x.mo ≤ 1000000000 := fun x hx => bndOk_iff.1 (Btw.ok_bnd hok hx)
  obtain ⟨n2, hSm⟩ := Small.of_ok hok
  have hn2 : n2 = n := by have := hSm.num; simp only at this; omega
  rw [hn2] at hSm
  clear hn2
  obtain ⟨a1, c1, ht1, ht2⟩ := tabs_get hW hMN
  obtain ⟨ar, cr, hr1, hr2⟩ := tab_row ht2 (show f0.toNat < n by omega)
  have hcn : to.toNat < n := by omega
  refine FSo.intro (n := 94) Try.func45 rfl rfl rfl (fun K Lf => ?_)
  refine XC.seq ?_
  refine XC.region ?_
  refine XO.box_agg rfl rfl rfl (fun b6 => ?_)
  refine XO.rd rfl rfl rfl (Reads.assign rfl) ?_
  refine XO.rd rfl rfl rfl (Reads.assign rfl) ?_
  refine XO.nil ?_
  refine XQ.then_normal ?_
  refine XC.seq ?_
  refine XC.seq ?_
  refine XC.region ?_
  refine XO.rd rfl rfl rfl (Reads.move rfl) ?_
  refine XO.rd rfl rfl rfl (Reads.move rfl) ?_
  refine XO.rd rfl rfl rfl (Reads.index_slot Try.underlying65 z38 rfl rfl (by omega) ht1.isSome rfl) ?_
  refine XO.rd rfl rfl rfl (Reads.load_at k38 rfl ht1) ?_
  refine XO.rd rfl rfl rfl (Reads.move rfl) ?_
  refine XO.rd rfl rfl rfl (Reads.index_slot Try.underlying38 z22 rfl rfl (by omega) hr1.isSome rfl) ?_
  refine XO.rd rfl rfl rfl (Reads.load_at k22 rfl hr1) ?_
  refine XO.rd rfl rfl rfl (Reads.move rfl) ?_
  refine XO.rd rfl rfl rfl (Reads.index_slot Try.underlying22 z3 rfl rfl (by omega) (row_int hr2 hcn).isSome rfl) ?_
  refine XO.rd rfl rfl rfl (Reads.load_at k3 rfl (row_int hr2 hcn)) ?_
  refine XO.rd rfl rfl rfl (Reads.move rfl) ?_
  refine XO.rd rfl rfl rfl (Reads.cmp rfl rfl rfl) ?_
  refine XO.nil ?_
  refine XQ.then_normal ?_
  refine XC.cond rfl (fun h1 => ?_) (fun h1 => ?_)
  · skip
    simp only [cmpInt, decide_eq_true_eq] at h1
    have hfs : firstF ⟨n, bs⟩ f0 to M most0 = none := if_neg (by omega)
    refine XC.seq ?_
    refine XC.region ?_
    refine XO.rd rfl rfl rfl (Reads.assign rfl) ?_
    refine XO.rd rfl rfl rfl (Reads.assign rfl) ?_
    refine XO.nil ?_
    refine XQ.then_normal ?_
    refine XC.ret ?_
    refine XQ.then_ret ?_
    refine XQ.dropn 1 ?_
    refine XQ.done2 (L := []) rfl rfl rfl hI ?_
    exact ⟨rfl, _, by rw [hfs]; rfl, (fun r hr => by rw [hfs] at hr; cases hr), fun _ => rfl⟩
  · skip
    simp only [cmpInt, decide_eq_false_iff_not] at h1
    have hw : Btw.walk ⟨n, bs⟩ M f0.toNat to.toNat ≤ most0 := by omega
    obtain ⟨l0, hl0⟩ := firstF_some hSm hf0 hto (m := M) (by omega) (by omega) hw
    have hfs : firstF ⟨n, bs⟩ f0 to M most0 = some l0 := by unfold firstF; rw [if_pos hw]; exact hl0
    simp only at hl0
    refine XC.skip ?_
    refine XQ.then_normal ?_
    refine XC.seq ?_
    refine XC.region ?_
    refine XO.rd rfl rfl rfl (Reads.assign rfl) ?_
    refine XO.nil ?_
    refine XQ.then_normal ?_
    refine XC.seq ?_
    refine XC.block ?_
    refine XC.vec0 3 ?_
    refine XC.loop (ι := Nat × Int × Int × List Int × Vec) (fun q => [(1, .slice aw N cw), (2, .int .i64 q.2.1), (3, .int .i64 to), (4, .int .i64 ((q.1 : Nat) : Int)), (5, .int .i64 q.2.2.1), (6, .pointer (some ⟨b6, 0, none⟩)), (14, q.2.2.2.2.val)]) (fun q => I) (fun q => q.2.2.2.2.ent 3 :: some (b6, .cells #[.int .i64 n, .slice a bs.length cap] 28 (0, 0)) :: ([] ++ Lf)) (fun q => q.1 ≤ M ∧ q.2.2.2.2.Is 1 (q.2.2.2.1.map fun x => Value.int .i64 x) ∧ (chainI bs (Btw.walk ⟨n, bs⟩) to q.1 q.2.1 q.2.2.1).map (q.2.2.2.1 ++ ·) = some l0 ∧ q.2.2.2.1.length = M - q.1 ∧ -1000000000000 - 1000000000 * ((M : Int) - q.1) ≤ q.2.2.1 ∧ q.2.2.1 ≤ 1000000000000 + 1000000000 * ((M : Int) - q.1)) (fun q => q.1) (M, f0, most0, [], Vec.nil) ⟨Nat.le_refl _, Vec.nil_is 1, by simp [hl0], by simp, by simp only; omega, by simp only; omega⟩ ⟨rfl, rfl, rfl, rfl, rfl, rfl, rfl, trivial⟩ rfl (List.Perm.refl _) (fun q hq => ?_)
    obtain ⟨m0, f, most, out, V⟩ := q
    obtain ⟨hm1, hV, hc, hol, hmo1, hmo2⟩ := hq
    simp only at hm1 hV hc hol hmo1 hmo2 ⊢
    have hVl : V.len = out.length := by have := hV.len; simp at this; omega
    refine XC.seq ?_
    refine XC.seq ?_
    refine XC.region ?_
    refine XO.rd rfl rfl rfl (Reads.move rfl) ?_
    refine XO.rd rfl rfl rfl (Reads.cmp rfl rfl rfl) ?_
    refine XO.nil ?_
    refine XQ.then_normal ?_
    refine XC.cond rfl (fun h2 => ?_) (fun h2 => ?_)
    · skip
      simp only [cmpInt, decide_eq_true_eq] at h2
      obtain ⟨m, rfl⟩ : ∃ m', m0 = m' + 1 := ⟨m0 - 1, by omega⟩
      obtain ⟨k, hk, hidx, hc'⟩ := chainI_step hc
      obtain ⟨_, hkst, hkbef⟩ := idx_spec hidx
      have hkb := hbd _ (List.getElem_mem hk)
      have hks := (step_iff hSm (List.getElem_mem hk) (m := m) (by omega) hto (by unfold far; omega)).1 hkst
      obtain ⟨a2, c2, hq1, hq2⟩ := tabs_get hW (show m < N by omega)
      refine XC.skip ?_
      refine XQ.then_normal ?_
      refine XC.block ?_
      refine XC.seq ?_
      refine XC.seq ?_
      refine XC.region ?_
      refine XO.rd rfl rfl rfl (Reads.assign rfl) ?_
      refine XO.nil ?_
      refine XQ.then_normal ?_
      refine XC.block ?_
      refine XC.loop (ι := Nat) (fun q => [(1, .slice aw N cw), (2, .int .i64 f), (3, .int .i64 to), (4, .int .i64 ((m + 1 : Nat) : Int)), (5, .int .i64 most), (6, .pointer (some ⟨b6, 0, none⟩)), (14, V.val), (15, .int .i64 q)]) (fun q => I) (fun q => V.ent 3 :: some (b6, .cells #[.int .i64 n, .slice a bs.length cap] 28 (0, 0)) :: ([] ++ Lf)) (fun q => q ≤ k) (fun q => bs.length - q) 0 (Nat.zero_le _) ⟨rfl, rfl, rfl, rfl, rfl, rfl, rfl, rfl, trivial⟩ rfl (List.Perm.refl _) (fun q' hq' => ?_)
      refine XC.seq ?_
      refine XC.seq ?_
      refine XC.region ?_
      refine XO.rd rfl rfl rfl (Reads.move rfl) ?_
      refine XO.rd rfl rfl rfl (fa28_1 rfl) ?_
      refine XO.rd rfl rfl rfl (Reads.load_own k26 rfl (by first | exact OwnAt.of 0 rfl rfl | exact OwnAt.of 1 rfl rfl | exact OwnAt.of 2 rfl rfl | exact OwnAt.of 3 rfl rfl | exact OwnAt.of 4 rfl rfl | exact OwnAt.of 5 rfl rfl)) ?_
      refine XO.rd rfl rfl rfl (Reads.len_slice Try.underlying26 rfl) ?_
      refine XO.rd rfl rfl rfl (Reads.cmp rfl rfl rfl) ?_
      refine XO.nil ?_
      refine XQ.then_normal ?_
      refine XC.cond rfl (fun h3 => ?_) (fun h3 => ?_)
      · skip
        simp only [cmpInt, decide_eq_true_eq] at h3
        have hq3 : q' < bs.length := by omega
        have hqx := List.getElem_mem hq3
        have hqb := hbd _ hqx
        obtain ⟨as2, cs2, hs1, hs2⟩ := tab_row hq2 (show bs[q'].to.toNat < n by omega)
        have hqw := walk_bd hSm (m := m) (i := bs[q'].to.toNat) (k := to.toNat) (by omega) (by omega) hcn
        unfold far at hqw
        have hsi := step_iff hSm hqx (m := m) (f := f) (most := most) (by omega) hto (by unfold far; omega)
        refine XC.skip ?_
        refine XQ.then_normal ?_
        refine XC.seq ?_
        refine XC.block ?_
        refine XC.seq ?_
        refine XC.region ?_
        refine XO.rd rfl rfl rfl (fa28_1 rfl) ?_
        refine XO.rd rfl rfl rfl (Reads.load_own k26 rfl (by first | exact OwnAt.of 0 rfl rfl | exact OwnAt.of 1 rfl rfl | exact OwnAt.of 2 rfl rfl | exact OwnAt.of 3 rfl rfl | exact OwnAt.of 4 rfl rfl | exact OwnAt.of 5 rfl rfl)) ?_
        refine XO.rd rfl rfl rfl (Reads.move rfl) ?_
        refine XO.rd rfl rfl rfl (Reads.index_slot (q := q' * 3) Try.underlying26 z30 rfl rfl (by omega) (hA.isSome (by decide) (by omega)) rfl) ?_
        refine XO.rd rfl rfl rfl (Reads.load_agg_at (vs := bs[q'].cs) k30 z30 rfl (hA.addr (by decide) (by omega)) (hA.bnd hq3)) ?_
        refine XO.alloc (cs := #[.int .i64 0, .int .i64 0, .int .i64 0]) rfl rfl zo30 rfl (fun b16 => ?_)
        refine XO.store_agg (vs := bs[q'].cs) 0 rfl z30 rfl rfl (by simp [Bnd.cs, Value.oneCell']) rfl (by simp [Bnd.cs]) ?_
        refine XO.own_eq (congrArg (fun c => some (b16, Obj.cells c 30 (0, 0)) :: _) (show _ = bs[q'].cs.toArray from rfl)) ?_
        refine XO.nil ?_
        refine XQ.then_normal ?_
        refine XC.seq ?_
        refine XC.seq ?_
        refine XC.draw m_mixed none (.pure 0 (.pure 1 (.pure 2 (.pure 3 (.pure 4 (.pure 5 (.pure 6 (.pure 7 (.pure 8 (.pure 9 (.pure 10 (.pure 11 (.pure 12 (.pure 13 (.pure 14 (.pure 15 (.pure 16 (.pure 17 (.pure 18 (.pure 19 (.pure 20 (.pure 21 (.pure 22 (.pure 23 (.pure 24 (.pure 25 (.pure 26 (.pure 27 (.pure 28 (.pure 29 (.pure 30 (.pure 31 (.pure 32 (.pure 33 (.pure 34 (.pure 35 (.pure 36 (.pure 37 (.done))))))))))))))))))))))))))))))))))))))) _ (by kernel_rfl) (List.Sublist.refl _) ?_
        refine XR.rd rfl rfl rfl (fa30_0 rfl) ?_
        refine XR.rd rfl rfl rfl (Reads.load_own (v := .int .i64 bs[q'].fr) k3 rfl (OwnAt.of 0 rfl rfl)) ?_
        refine XR.rd rfl rfl rfl (Reads.move rfl) ?_
        refine XR.rd rfl rfl rfl (Reads.cmp rfl rfl rfl) ?_
        refine XR.rd rfl rfl rfl (Reads.move rfl) ?_
        refine XR.split (d := 47) rfl (fun h4 => ?_) (fun h4 => ?_)
        · skip
          simp only [cmpInt, bne_iff_ne, ne_eq] at h4
          have hqk : q' ≠ k := fun e => by subst e; exact h4 hks.1
          refine XR.s rfl (wg rfl rfl rfl) rfl ?_
          refine XR.s rfl (wg rfl rfl rfl) rfl ?_
          refine XR.s rfl (wg rfl rfl rfl) rfl ?_
          refine XR.s rfl (wg rfl rfl rfl) rfl ?_
          refine XR.s rfl (wg rfl rfl rfl) rfl ?_
          refine XR.s rfl (wg rfl rfl rfl) rfl ?_
          refine XR.s rfl (wg rfl rfl rfl) rfl ?_
          refine XR.s rfl (wg rfl rfl rfl) rfl ?_
          refine XR.s rfl (wg rfl rfl rfl) rfl ?_
          refine XR.s rfl (wg rfl rfl rfl) rfl ?_
          refine XR.s rfl (wg rfl rfl rfl) rfl ?_
          refine XR.s rfl (wg rfl rfl rfl) rfl ?_
          refine XR.s rfl (wg rfl rfl rfl) rfl ?_
          refine XR.rd rfl rfl rfl (Reads.pick_true rfl rfl) ?_
          refine XR.rd rfl rfl rfl (Reads.move rfl) ?_
          refine XR.s rfl (wg rfl rfl rfl) rfl ?_
          refine XR.s rfl (wg rfl rfl rfl) rfl ?_
          refine XR.s rfl (wg rfl rfl rfl) rfl ?_
          refine XR.s rfl (wg rfl rfl rfl) rfl ?_
          refine XR.s rfl (wg rfl rfl rfl) rfl ?_
          refine XR.s rfl (wg rfl rfl rfl) rfl ?_
          refine XR.s rfl (wg rfl rfl rfl) rfl ?_
          refine XR.s rfl (wg rfl rfl rfl) rfl ?_
          refine XR.s rfl (wg rfl rfl rfl) rfl ?_
          refine XR.s rfl (wg rfl rfl rfl) rfl ?_
          refine XR.s rfl (wg rfl rfl rfl) rfl ?_
          refine XR.s rfl (wg rfl rfl rfl) rfl ?_
          refine XR.s rfl (wg rfl rfl rfl) rfl ?_
          refine XR.s rfl (wg rfl rfl rfl) rfl ?_
          refine XR.s rfl (wg rfl rfl rfl) rfl ?_
          refine XR.s rfl (wg rfl rfl rfl) rfl ?_
          refine XR.s rfl (wg rfl rfl rfl) rfl ?_
          refine XR.rd rfl rfl rfl (Reads.pick_true rfl rfl) ?_
          refine XR.nil ?_
          refine XQ.then_normal ?_
          refine XC.cond rfl (fun _ => ?_) (fun hx => by cases hx)
          refine XC.exit ?_
          refine XQ.then_exit ?_
          refine XQ.block_exit ?_
          refine XQ.then_normal ?_
          refine XC.weaken (E' := [(1, _), (2, _), (3, _), (4, _), (5, _), (6, _), (14, _), (15, _)]) ⟨rfl, rfl, rfl, rfl, rfl, rfl, rfl, rfl, trivial⟩ ?_
          refine XC.region ?_
          refine XO.rd rfl rfl rfl (Reads.move rfl) ?_
          refine XO.rd rfl rfl rfl (Reads.add rfl rfl (by omega)) ?_
          refine XO.rd rfl rfl rfl (Reads.assign rfl) ?_
          refine XO.nil ?_
          refine XQ.dropn 1 ?_
          refine XQ.back (q' + 1) (by omega) (by omega) ⟨rfl, rfl, rfl, rfl, rfl, rfl, rfl, rfl, trivial⟩ rfl (List.Perm.refl _)
        · skip
          simp only [cmpInt, bne_eq_false_iff_eq] at h4
          refine XR.rd rfl (wg rfl rfl rfl) rfl (Reads.move rfl) ?_
          refine XR.rd rfl (wg rfl rfl rfl) rfl (Reads.move rfl) ?_
          refine XR.rd rfl (wg rfl rfl rfl) rfl (Reads.sub rfl rfl (by omega)) ?_
          rw [show ((m + 1 : Nat) : Int) - 1 = (m : Int) by omega]
          refine XR.rd rfl (wg rfl rfl rfl) rfl (Reads.index_slot Try.underlying65 z38 rfl rfl (by omega) hq1.isSome rfl) ?_
          refine XR.rd rfl (wg rfl rfl rfl) rfl (Reads.load_at k38 rfl hq1) ?_
          refine XR.rd rfl (wg rfl rfl rfl) rfl (fa30_1 rfl) ?_
          refine XR.rd rfl (wg rfl rfl rfl) rfl (Reads.load_own (v := .int .i64 bs[q'].to) k3 rfl (OwnAt.of 0 rfl rfl)) ?_
          refine XR.rd rfl (wg rfl rfl rfl) rfl (Reads.index_slot Try.underlying38 z22 rfl rfl (by omega) hs1.isSome rfl) ?_
          refine XR.rd rfl (wg rfl rfl rfl) rfl (Reads.load_at k22 rfl hs1) ?_
          refine XR.rd rfl (wg rfl rfl rfl) rfl (Reads.move rfl) ?_
          refine XR.rd rfl (wg rfl rfl rfl) rfl (Reads.index_slot Try.underlying22 z3 rfl rfl (by omega) (row_int hs2 hcn).isSome rfl) ?_
          refine XR.rd rfl (wg rfl rfl rfl) rfl (Reads.load_at k3 rfl (row_int hs2 hcn)) ?_
          refine XR.rd rfl (wg rfl rfl rfl) rfl (Reads.cmp rfl rfl rfl) ?_
          refine XR.rd rfl rfl rfl (Reads.pick_false rfl rfl) ?_
          refine XR.rd rfl rfl rfl (Reads.move rfl) ?_
          refine XR.split (d := 62) rfl (fun h5 => ?_) (fun h5 => ?_)
          · skip
            simp only [cmpInt, beq_iff_eq] at h5
            have hqk : q' ≠ k := fun e => by subst e; exact hks.2.1 h5
            refine XR.s rfl (wg rfl rfl rfl) rfl ?_
            refine XR.s rfl (wg rfl rfl rfl) rfl ?_
            refine XR.s rfl (wg rfl rfl rfl) rfl ?_
            refine XR.s rfl (wg rfl rfl rfl) rfl ?_
            refine XR.s rfl (wg rfl rfl rfl) rfl ?_
            refine XR.s rfl (wg rfl rfl rfl) rfl ?_
            refine XR.s rfl (wg rfl rfl rfl) rfl ?_
            refine XR.s rfl (wg rfl rfl rfl) rfl ?_
            refine XR.s rfl (wg rfl rfl rfl) rfl ?_
            refine XR.s rfl (wg rfl rfl rfl) rfl ?_
            refine XR.s rfl (wg rfl rfl rfl) rfl ?_
            refine XR.s rfl (wg rfl rfl rfl) rfl ?_
            refine XR.s rfl (wg rfl rfl rfl) rfl ?_
            refine XR.s rfl (wg rfl rfl rfl) rfl ?_
            refine XR.s rfl (wg rfl rfl rfl) rfl ?_
            refine XR.s rfl (wg rfl rfl rfl) rfl ?_
            refine XR.s rfl (wg rfl rfl rfl) rfl ?_
            refine XR.rd rfl rfl rfl (Reads.pick_true rfl rfl) ?_
            refine XR.nil ?_
            refine XQ.then_normal ?_
            refine XC.cond rfl (fun _ => ?_) (fun hx => by cases hx)
            refine XC.exit ?_
            refine XQ.then_exit ?_
            refine XQ.block_exit ?_
            refine XQ.then_normal ?_
            refine XC.weaken (E' := [(1, _), (2, _), (3, _), (4, _), (5, _), (6, _), (14, _), (15, _)]) ⟨rfl, rfl, rfl, rfl, rfl, rfl, rfl, rfl, trivial⟩ ?_
            refine XC.region ?_
            refine XO.rd rfl rfl rfl (Reads.move rfl) ?_
            refine XO.rd rfl rfl rfl (Reads.add rfl rfl (by omega)) ?_
            refine XO.rd rfl rfl rfl (Reads.assign rfl) ?_
            refine XO.nil ?_
            refine XQ.dropn 1 ?_
            refine XQ.back (q' + 1) (by omega) (by omega) ⟨rfl, rfl, rfl, rfl, rfl, rfl, rfl, rfl, trivial⟩ rfl (List.Perm.refl _)
          · skip
            simp only [cmpInt, beq_eq_false_iff_ne] at h5
            have hnf : ¬ Btw.walk ⟨n, bs⟩ m bs[q'].to.toNat to.toNat = far := h5
            unfold far at hnf
            refine XR.rd rfl (wg rfl rfl rfl) rfl (fa30_2 rfl) ?_
            refine XR.rd rfl (wg rfl rfl rfl) rfl (Reads.load_own (v := .int .i64 bs[q'].mo) k3 rfl (OwnAt.of 0 rfl rfl)) ?_
            refine XR.rd rfl (wg rfl rfl rfl) rfl (Reads.move rfl) ?_
            refine XR.rd rfl (wg rfl rfl rfl) rfl (Reads.move rfl) ?_
            refine XR.rd rfl (wg rfl rfl rfl) rfl (Reads.sub rfl rfl (by omega)) ?_
            rw [show ((m + 1 : Nat) : Int) - 1 = (m : Int) by omega]
            refine XR.rd rfl (wg rfl rfl rfl) rfl (Reads.index_slot Try.underlying65 z38 rfl rfl (by omega) hq1.isSome rfl) ?_
            refine XR.rd rfl (wg rfl rfl rfl) rfl (Reads.load_at k38 rfl hq1) ?_
            refine XR.rd rfl (wg rfl rfl rfl) rfl (fa30_1 rfl) ?_
            refine XR.rd rfl (wg rfl rfl rfl) rfl (Reads.load_own (v := .int .i64 bs[q'].to) k3 rfl (OwnAt.of 0 rfl rfl)) ?_
            refine XR.rd rfl (wg rfl rfl rfl) rfl (Reads.index_slot Try.underlying38 z22 rfl rfl (by omega) hs1.isSome rfl) ?_
            refine XR.rd rfl (wg rfl rfl rfl) rfl (Reads.load_at k22 rfl hs1) ?_
            refine XR.rd rfl (wg rfl rfl rfl) rfl (Reads.move rfl) ?_
            refine XR.rd rfl (wg rfl rfl rfl) rfl (Reads.index_slot Try.underlying22 z3 rfl rfl (by omega) (row_int hs2 hcn).isSome rfl) ?_
            refine XR.rd rfl (wg rfl rfl rfl) rfl (Reads.load_at k3 rfl (row_int hs2 hcn)) ?_
            refine XR.rd rfl (wg rfl rfl rfl) rfl (Reads.add rfl rfl (by omega)) ?_
            refine XR.rd rfl (wg rfl rfl rfl) rfl (Reads.move rfl) ?_
            refine XR.rd rfl (wg rfl rfl rfl) rfl (Reads.cmp rfl rfl rfl) ?_
            refine XR.rd rfl rfl rfl (Reads.pick_false rfl rfl) ?_
            refine XR.nil ?_
            refine XQ.then_normal ?_
            refine XC.cond rfl (fun h6 => ?_) (fun h6 => ?_)
            · skip
              simp only [cmpInt, decide_eq_true_eq] at h6
              have hqk : q' ≠ k := fun e => by subst e; have := hks.2.2; omega
              refine XC.exit ?_
              refine XQ.then_exit ?_
              refine XQ.block_exit ?_
              refine XQ.then_normal ?_
              refine XC.weaken (E' := [(1, _), (2, _), (3, _), (4, _), (5, _), (6, _), (14, _), (15, _)]) ⟨rfl, rfl, rfl, rfl, rfl, rfl, rfl, rfl, trivial⟩ ?_
              refine XC.region ?_
              refine XO.rd rfl rfl rfl (Reads.move rfl) ?_
              refine XO.rd rfl rfl rfl (Reads.add rfl rfl (by omega)) ?_
              refine XO.rd rfl rfl rfl (Reads.assign rfl) ?_
              refine XO.nil ?_
              refine XQ.dropn 1 ?_
              refine XQ.back (q' + 1) (by omega) (by omega) ⟨rfl, rfl, rfl, rfl, rfl, rfl, rfl, rfl, trivial⟩ rfl (List.Perm.refl _)
            · skip
              simp only [cmpInt, decide_eq_false_iff_not] at h6
              have hqk : q' = k := by
                rcases Nat.lt_or_ge q' k with h9 | h9
                · have g9 := hkbef q' hq3 h9
                  rw [hsi.2 ⟨by omega, hnf, by omega⟩] at g9; cases g9
                · omega
              subst hqk
              refine XC.skip ?_
              refine XQ.then_normal ?_
              refine XC.seq ?_
              refine XC.weaken (E' := [(1, _), (3, _), (4, _), (5, _), (6, _), (14, _), (15, _), (16, _)]) ⟨rfl, rfl, rfl, rfl, rfl, rfl, rfl, rfl, trivial⟩ ?_
              refine XC.region ?_
              refine XO.rd rfl rfl rfl (Reads.move rfl) ?_
              refine XO.rd rfl rfl rfl (Reads.move rfl) ?_
              refine XO.buildL [.int .i64 (q' : Int)] [.int .i64 (q' : Int)] rfl rfl Try.underlying22 el3 rfl (by simp) ⟨rfl, rfl, trivial⟩ rfl rfl (fun bu => ?_)
              refine XO.append (V := V) (news := [.int .i64 (q' : Int)]) 2 rfl rfl Try.underlying22 el3 rfl rfl hV rfl (.slice Try.underlying22 (readable_row 0 rfl rfl) rfl (by simp [Value.oneCell'])) (by omega) (by omega) ?_
              intro V' hV' _
              refine XO.dropn 1 ?_
              refine XO.rd rfl rfl rfl (Reads.assign rfl) ?_
              refine XO.nil ?_
              refine XQ.then_normal ?_
              refine XC.seq ?_
              refine XC.region ?_
              refine XO.rd rfl rfl rfl (fa30_1 rfl) ?_
              refine XO.rd rfl rfl rfl (Reads.load_own (v := .int .i64 bs[q'].to) k3 rfl (OwnAt.of 0 rfl rfl)) ?_
              refine XO.rd rfl rfl rfl (Reads.assign rfl) ?_
              refine XO.nil ?_
              refine XQ.then_normal ?_
              refine XC.seq ?_
              refine XC.region ?_
              refine XO.rd rfl rfl rfl (Reads.move rfl) ?_
              refine XO.rd rfl rfl rfl (fa30_2 rfl) ?_
              refine XO.rd rfl rfl rfl (Reads.load_own (v := .int .i64 bs[q'].mo) k3 rfl (OwnAt.of 0 rfl rfl)) ?_
              refine XO.rd rfl rfl rfl (Reads.sub rfl rfl (by omega)) ?_
              refine XO.rd rfl rfl rfl (Reads.assign rfl) ?_
              refine XO.nil ?_
              refine XQ.then_normal ?_
              refine XC.exit ?_
              refine XQ.block_out rfl ?_
              refine XQ.then_exit ?_
              refine XQ.then_exit ?_
              refine XQ.block_exit ?_
              refine XQ.then_normal ?_
              refine XC.region ?_
              refine XO.rd rfl rfl rfl (Reads.move rfl) ?_
              refine XO.rd rfl rfl rfl (Reads.sub rfl rfl (by omega)) ?_
              rw [show ((m + 1 : Nat) : Int) - 1 = (m : Int) by omega]
              refine XO.rd rfl rfl rfl (Reads.assign rfl) ?_
              refine XO.nil ?_
              refine XQ.block_normal ?_
              refine XQ.dropn 1 ?_
              refine XQ.back (m, bs[q'].to, most - bs[q'].mo, out ++ [(q' : Int)], V') ⟨by simp only; omega, by simpa using hV', hc', by simp only [List.length_append, List.length_singleton]; omega, by simp only; omega, by simp only; omega⟩ (by simp only; omega) ⟨rfl, rfl, rfl, rfl, rfl, rfl, rfl, trivial⟩ rfl (List.Perm.refl _)
      · skip
        simp only [cmpInt, decide_eq_false_iff_not] at h3
        exfalso
        omega
    · skip
      simp only [cmpInt, decide_eq_false_iff_not] at h2
      have hm00 : m0 = 0 := by omega
      subst hm00
      have hoe := chainI_end hc
      subst hoe
      refine XC.exit ?_
      refine XQ.then_exit ?_
      refine XQ.then_exit ?_
      refine XQ.block_exit ?_
      refine XQ.then_normal ?_
      refine XC.seq ?_
      refine XC.region ?_
      refine XO.rd rfl rfl rfl (Reads.move rfl) ?_
      refine XO.rd rfl rfl rfl (Reads.assign rfl) ?_
      refine XO.rd rfl rfl rfl (Reads.assign rfl) ?_
      refine XO.nil ?_
      refine XQ.then_normal ?_
      refine XC.ret ?_
      refine XQ.give_vec (fun hb => ?_)
      refine XQ.dropn 1 ?_
      refine XQ.done2 (L := []) rfl rfl rfl (Im.le_trans hI (Vec.le_give hb)) ?_
      exact ⟨rfl, _, by rw [hfs]; rfl, (fun r hr => by rw [hfs] at hr; cases hr; exact (Vec.sl (α := Int) (e := 3) (by decide) hV (flat_ints I out) hb).2), (fun hr => by rw [hfs] at hr; cases hr)⟩

end Go.Proofs.Ytlgfpieokaegiaa
