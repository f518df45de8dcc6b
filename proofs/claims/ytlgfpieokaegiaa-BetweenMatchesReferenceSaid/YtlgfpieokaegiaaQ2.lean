/- Walks: the reference's tables of sums; whether there is a contradiction. -/
import Derived.Test.YtlgfpieokaegiaaQ1
namespace Go.Proofs.Ytlgfpieokaegiaa
open Go.Xe

set_option maxHeartbeats 2000000 in
theorem sums_any (n : Nat) (bs : List Bnd) (a : Option Addr) (cap : Nat) (I : Im) (hA : Arr I a bs) (hok : Btw.ok ⟨n, bs⟩ = true) : FC Try.prog 41 [.agg #[.int .i64 n, .slice a bs.length cap]] I (fun u I' => Sl I' u (tabs (Btw.walk ⟨n, bs⟩) n (n + 1))) := by
  have hI := Im.le_refl I
  have hn16 := Btw.ok_n hok
  have hb60 := Btw.ok_len hok
  simp only at hn16 hb60
  have hbd : ∀ x ∈ bs, (0 ≤ x.fr ∧ x.fr < n) ∧ (0 ≤ x.to ∧ x.to < n) ∧ -1000000000 ≤ x.mo ∧ x.mo ≤ 1000000000 := fun x hx => bndOk_iff.1 (Btw.ok_bnd hok hx)
  obtain ⟨n2, hSm⟩ := Small.of_ok hok
  have hn2 : n2 = n := by have := hSm.num; simp only at this; omega
  rw [hn2] at hSm
  clear hn2
  refine FSo.intro (n := 99) Try.func41 rfl rfl rfl (fun K Lf => ?_)
  refine XC.seq ?_
  refine XC.region ?_
  refine XO.box_agg rfl rfl rfl (fun b1 => ?_)
  refine XO.rd rfl rfl rfl (Reads.assign rfl) ?_
  refine XO.nil ?_
  refine XQ.then_normal ?_
  refine XC.seq ?_
  refine XC.region ?_
  refine XO.rd rfl rfl rfl (Reads.assign rfl) ?_
  refine XO.nil ?_
  refine XQ.then_normal ?_
  refine XC.seq ?_
  refine XC.seq ?_
  refine XC.region ?_
  refine XO.rd rfl rfl rfl (Reads.assign rfl) ?_
  refine XO.nil ?_
  refine XQ.then_normal ?_
  refine XC.block ?_
  refine XC.vec0 38 ?_
  refine XC.loop (ι := Nat × Vec × List Value × Im) (fun q => [(1, .pointer (some ⟨b1, 0, none⟩)), (3, q.2.1.val), (4, .int .i64 q.1)]) (fun q => q.2.2.2) (fun q => q.2.1.ent 38 :: some (b1, .cells #[.int .i64 n, .slice a bs.length cap] 28 (0, 0)) :: ([] ++ Lf)) (fun q => I.le q.2.2.2 ∧ q.1 ≤ n + 1 ∧ q.2.1.Is 1 q.2.2.1 ∧ Flat q.2.2.2 q.2.2.1 (tabs (Btw.walk ⟨n, bs⟩) n q.1)) (fun q => n + 1 - q.1) (0, Vec.nil, [], I) ⟨Im.le_refl _, Nat.zero_le _, Vec.nil_is 1, .nil⟩ ⟨rfl, rfl, rfl, trivial⟩ rfl (List.Perm.refl _) (fun q hq => ?_)
  obtain ⟨m, V, cs, J0⟩ := q
  obtain ⟨hJ0, hm1, hV, hF⟩ := hq
  simp only at hJ0 hm1 hV hF ⊢
  replace hI := Im.le_trans hI hJ0
  replace hA := hA.mono hJ0
  have hVl := hV.len
  rw [flat_len1 hF, tabs_len, Nat.mul_one] at hVl
  refine XC.seq ?_
  refine XC.seq ?_
  refine XC.region ?_
  refine XO.rd rfl rfl rfl (Reads.move rfl) ?_
  refine XO.rd rfl rfl rfl (fa28_0 rfl) ?_
  refine XO.rd rfl rfl rfl (Reads.load_own k3 rfl (by first | exact OwnAt.of 0 rfl rfl | exact OwnAt.of 1 rfl rfl | exact OwnAt.of 2 rfl rfl | exact OwnAt.of 3 rfl rfl | exact OwnAt.of 4 rfl rfl | exact OwnAt.of 5 rfl rfl | exact OwnAt.of 6 rfl rfl | exact OwnAt.of 7 rfl rfl)) ?_
  refine XO.rd rfl rfl rfl (Reads.cmp rfl rfl rfl) ?_
  refine XO.nil ?_
  refine XQ.then_normal ?_
  refine XC.cond rfl (fun h1 => ?_) (fun h1 => ?_)
  · skip
    simp only [cmpInt, decide_eq_true_eq] at h1
    refine XC.skip ?_
    refine XQ.then_normal ?_
    refine XC.seq ?_
    refine XC.block ?_
    refine XC.seq ?_
    refine XC.region ?_
    refine XO.rd rfl rfl rfl (Reads.assign rfl) ?_
    refine XO.nil ?_
    refine XQ.then_normal ?_
    refine XC.seq ?_
    refine XC.seq ?_
    refine XC.region ?_
    refine XO.rd rfl rfl rfl (Reads.assign rfl) ?_
    refine XO.nil ?_
    refine XQ.then_normal ?_
    refine XC.block ?_
    refine XC.vec0 22 ?_
    refine XC.loop (ι := Nat × Vec × List Value × Im) (fun q => [(1, .pointer (some ⟨b1, 0, none⟩)), (3, V.val), (4, .int .i64 m), (5, q.2.1.val), (6, .int .i64 q.1)]) (fun q => q.2.2.2) (fun q => q.2.1.ent 22 :: V.ent 38 :: some (b1, .cells #[.int .i64 n, .slice a bs.length cap] 28 (0, 0)) :: ([] ++ Lf)) (fun q => J0.le q.2.2.2 ∧ q.1 ≤ n ∧ q.2.1.Is 1 q.2.2.1 ∧ Flat q.2.2.2 q.2.2.1 (rowsP (Btw.walk ⟨n, bs⟩ m) n q.1)) (fun q => n - q.1) (0, Vec.nil, [], J0) ⟨Im.le_refl _, Nat.zero_le _, Vec.nil_is 1, .nil⟩ ⟨rfl, rfl, rfl, rfl, rfl, trivial⟩ rfl (List.Perm.refl _) (fun q hq => ?_)
    obtain ⟨i, T, ds, J1⟩ := q
    obtain ⟨hJ1, hi1, hT, hD⟩ := hq
    simp only at hJ1 hi1 hT hD ⊢
    replace hI := Im.le_trans hI hJ1
    replace hA := hA.mono hJ1
    replace hF := hF.mono hJ1
    have hTl := hT.len
    rw [flat_len1 hD, rowsP_len, Nat.mul_one] at hTl
    refine XC.seq ?_
    refine XC.seq ?_
    refine XC.region ?_
    refine XO.rd rfl rfl rfl (Reads.move rfl) ?_
    refine XO.rd rfl rfl rfl (fa28_0 rfl) ?_
    refine XO.rd rfl rfl rfl (Reads.load_own k3 rfl (by first | exact OwnAt.of 0 rfl rfl | exact OwnAt.of 1 rfl rfl | exact OwnAt.of 2 rfl rfl | exact OwnAt.of 3 rfl rfl | exact OwnAt.of 4 rfl rfl | exact OwnAt.of 5 rfl rfl | exact OwnAt.of 6 rfl rfl | exact OwnAt.of 7 rfl rfl)) ?_
    refine XO.rd rfl rfl rfl (Reads.cmp rfl rfl rfl) ?_
    refine XO.nil ?_
    refine XQ.then_normal ?_
    refine XC.cond rfl (fun h2 => ?_) (fun h2 => ?_)
    · skip
      simp only [cmpInt, decide_eq_true_eq] at h2
      have hi3 : i < n := by omega
      refine XC.skip ?_
      refine XQ.then_normal ?_
      refine XC.seq ?_
      refine XC.block ?_
      refine XC.seq ?_
      refine XC.region ?_
      refine XO.rd rfl rfl rfl (fa28_0 rfl) ?_
      refine XO.rd rfl rfl rfl (Reads.load_own k3 rfl (by first | exact OwnAt.of 0 rfl rfl | exact OwnAt.of 1 rfl rfl | exact OwnAt.of 2 rfl rfl | exact OwnAt.of 3 rfl rfl | exact OwnAt.of 4 rfl rfl | exact OwnAt.of 5 rfl rfl | exact OwnAt.of 6 rfl rfl | exact OwnAt.of 7 rfl rfl)) ?_
      refine XO.makeSlice rfl rfl Try.underlying22 el3 rfl rfl rfl (by omega) (by omega) (fun br => ?_)
      rw [replicate_row]
      refine XO.rd rfl rfl rfl (Reads.assign rfl) ?_
      refine XO.nil ?_
      refine XQ.then_normal ?_
      refine XC.seq ?_
      refine XC.seq ?_
      refine XC.region ?_
      refine XO.rd rfl rfl rfl (Reads.assign rfl) ?_
      refine XO.nil ?_
      refine XQ.then_normal ?_
      refine XC.block ?_
      refine XC.loop (ι := Nat) (fun q => [(1, .pointer (some ⟨b1, 0, none⟩)), (3, V.val), (4, .int .i64 m), (5, T.val), (6, .int .i64 i), (7, .slice (some ⟨br, 0, none⟩) n n), (8, .int .i64 q)]) (fun q => J1) (fun q => some (br, .cells (rowC n (fun j => if j < q then ini m i j else 0)).toArray 3 (0, 0)) :: T.ent 22 :: V.ent 38 :: some (b1, .cells #[.int .i64 n, .slice a bs.length cap] 28 (0, 0)) :: ([] ++ Lf)) (fun q => q ≤ n) (fun q => n - q) 0 (Nat.zero_le _) ⟨rfl, rfl, rfl, rfl, rfl, rfl, rfl, trivial⟩ rfl (List.Perm.of_eq (congrArg (fun c => some (br, Obj.cells (List.toArray c) 3 (0, 0)) :: _) (rowC_congr (fun j hj => by simp)))) (fun k hk => ?_)
      refine XC.seq ?_
      refine XC.seq ?_
      refine XC.region ?_
      refine XO.rd rfl rfl rfl (Reads.move rfl) ?_
      refine XO.rd rfl rfl rfl (fa28_0 rfl) ?_
      refine XO.rd rfl rfl rfl (Reads.load_own k3 rfl (by first | exact OwnAt.of 0 rfl rfl | exact OwnAt.of 1 rfl rfl | exact OwnAt.of 2 rfl rfl | exact OwnAt.of 3 rfl rfl | exact OwnAt.of 4 rfl rfl | exact OwnAt.of 5 rfl rfl | exact OwnAt.of 6 rfl rfl | exact OwnAt.of 7 rfl rfl)) ?_
      refine XO.rd rfl rfl rfl (Reads.cmp rfl rfl rfl) ?_
      refine XO.nil ?_
      refine XQ.then_normal ?_
      refine XC.cond rfl (fun h3 => ?_) (fun h3 => ?_)
      · skip
        simp only [cmpInt, decide_eq_true_eq] at h3
        have hkn : k < n := by omega
        refine XC.skip ?_
        refine XQ.then_normal ?_
        refine XC.seq ?_
        refine XC.block ?_
        refine XC.seq ?_
        refine XC.region ?_
        refine XO.rd rfl rfl rfl (Reads.move rfl) ?_
        refine XO.rd rfl rfl rfl (Reads.move rfl) ?_
        refine XO.rd rfl rfl rfl (Reads.index_own (q := k) Try.underlying22 z3 rfl rfl (by omega) (by omega)) ?_
        refine XO.store 0 rfl z3 rfl rfl rfl rfl (by rw [List.size_toArray, rowC_len]; omega) ?_
        rw [rowC_setA hkn]
        refine XO.nil ?_
        refine XQ.then_normal ?_
        refine XC.seq ?_
        refine XC.region ?_
        refine XO.rd rfl rfl rfl (Reads.move rfl) ?_
        refine XO.rd rfl rfl rfl (Reads.cmp rfl rfl rfl) ?_
        refine XO.rd rfl rfl rfl (Reads.move rfl) ?_
        refine XO.split (d := 38) rfl (fun h4 => ?_) (fun h4 => ?_)
        · skip
          simp only [cmpInt, beq_iff_eq] at h4
          have hm00 : m = 0 := by omega
          refine XO.rd (wg rfl rfl rfl) rfl rfl (Reads.move rfl) ?_
          refine XO.rd (wg rfl rfl rfl) rfl rfl (Reads.move rfl) ?_
          refine XO.rd (wg rfl rfl rfl) rfl rfl (Reads.cmp rfl rfl rfl) ?_
          refine XO.rd rfl rfl rfl (Reads.pick_true rfl rfl) ?_
          refine XO.nil ?_
          refine XQ.then_normal ?_
          refine XC.cond rfl (fun h5 => ?_) (fun h5 => ?_)
          · skip
            simp only [cmpInt, beq_iff_eq] at h5
            have hik : i = k := by omega
            refine XC.region ?_
            refine XO.rd rfl rfl rfl (Reads.move rfl) ?_
            refine XO.rd rfl rfl rfl (Reads.move rfl) ?_
            refine XO.rd rfl rfl rfl (Reads.index_own (q := k) Try.underlying22 z3 rfl rfl (by omega) (by omega)) ?_
            refine XO.store 0 rfl z3 rfl rfl rfl rfl (by rw [List.size_toArray, rowC_len]; omega) ?_
            rw [rowC_setA hkn]
            refine XO.nil ?_
            refine XQ.block_normal ?_
            refine XQ.then_normal ?_
            refine XC.region ?_
            refine XO.rd rfl rfl rfl (Reads.move rfl) ?_
            refine XO.rd rfl rfl rfl (Reads.add rfl rfl (by omega)) ?_
            refine XO.rd rfl rfl rfl (Reads.assign rfl) ?_
            refine XO.nil ?_
            refine XQ.back (k + 1) (by omega) (by omega) ⟨rfl, rfl, rfl, rfl, rfl, rfl, rfl, trivial⟩ rfl (List.Perm.of_eq (congrArg (fun c => some (br, Obj.cells (List.toArray c) 3 (0, 0)) :: _) (rowC_congr (fun j hj => ini0 hm00 hik))))
          · skip
            simp only [cmpInt, beq_eq_false_iff_ne] at h5
            have hni : ¬ (m = 0 ∧ i = k) := fun hh => by omega
            refine XC.skip ?_
            refine XQ.block_normal ?_
            refine XQ.then_normal ?_
            refine XC.region ?_
            refine XO.rd rfl rfl rfl (Reads.move rfl) ?_
            refine XO.rd rfl rfl rfl (Reads.add rfl rfl (by omega)) ?_
            refine XO.rd rfl rfl rfl (Reads.assign rfl) ?_
            refine XO.nil ?_
            refine XQ.back (k + 1) (by omega) (by omega) ⟨rfl, rfl, rfl, rfl, rfl, rfl, rfl, trivial⟩ rfl (List.Perm.of_eq (congrArg (fun c => some (br, Obj.cells (List.toArray c) 3 (0, 0)) :: _) (rowC_congr (fun j hj => ini1 hni))))
        · skip
          simp only [cmpInt, beq_eq_false_iff_ne] at h4
          have hni : ¬ (m = 0 ∧ i = k) := fun hh => by omega
          refine XO.s (wg rfl rfl rfl) rfl ?_
          refine XO.s (wg rfl rfl rfl) rfl ?_
          refine XO.s (wg rfl rfl rfl) rfl ?_
          refine XO.rd rfl rfl rfl (Reads.pick_false rfl rfl) ?_
          refine XO.nil ?_
          refine XQ.then_normal ?_
          refine XC.cond rfl (fun hx => by cases hx) (fun _ => ?_)
          refine XC.skip ?_
          refine XQ.block_normal ?_
          refine XQ.then_normal ?_
          refine XC.region ?_
          refine XO.rd rfl rfl rfl (Reads.move rfl) ?_
          refine XO.rd rfl rfl rfl (Reads.add rfl rfl (by omega)) ?_
          refine XO.rd rfl rfl rfl (Reads.assign rfl) ?_
          refine XO.nil ?_
          refine XQ.back (k + 1) (by omega) (by omega) ⟨rfl, rfl, rfl, rfl, rfl, rfl, rfl, trivial⟩ rfl (List.Perm.of_eq (congrArg (fun c => some (br, Obj.cells (List.toArray c) 3 (0, 0)) :: _) (rowC_congr (fun j hj => ini1 hni))))
      · skip
        simp only [cmpInt, decide_eq_false_iff_not] at h3
        refine XC.exit ?_
        refine XQ.then_exit ?_
        refine XQ.then_exit ?_
        refine XQ.block_exit ?_
        refine XQ.then_normal ?_
        refine XC.seq ?_
        refine XC.seq ?_
        refine XC.region ?_
        refine XO.rd rfl rfl rfl (Reads.assign rfl) ?_
        refine XO.nil ?_
        refine XQ.then_normal ?_
        refine XC.block ?_
        refine XC.loop (ι := Nat) (fun q => [(1, .pointer (some ⟨b1, 0, none⟩)), (3, V.val), (4, .int .i64 m), (5, T.val), (6, .int .i64 i), (7, .slice (some ⟨br, 0, none⟩) n n), (9, .int .i64 q)]) (fun q => J1) (fun q => some (br, .cells (rowC n (fun j => sumR ⟨n, bs⟩ m i q j)).toArray 3 (0, 0)) :: T.ent 22 :: V.ent 38 :: some (b1, .cells #[.int .i64 n, .slice a bs.length cap] 28 (0, 0)) :: ([] ++ Lf)) (fun q => q ≤ bs.length ∧ (m = 0 → q = 0)) (fun q => bs.length - q) 0 ⟨Nat.zero_le _, fun _ => rfl⟩ ⟨rfl, rfl, rfl, rfl, rfl, rfl, rfl, trivial⟩ rfl (List.Perm.of_eq (congrArg (fun c => some (br, Obj.cells (List.toArray c) 3 (0, 0)) :: _) (rowC_congr (fun j hj => by rw [if_pos (by omega), sumR_zero])))) (fun k hk => ?_)
        obtain ⟨hk1, hk2⟩ := hk
        refine XC.seq ?_
        refine XC.seq ?_
        refine XC.region ?_
        refine XO.rd rfl rfl rfl (Reads.move rfl) ?_
        refine XO.rd rfl rfl rfl (fa28_1 rfl) ?_
        refine XO.rd rfl rfl rfl (Reads.load_own k26 rfl (by first | exact OwnAt.of 0 rfl rfl | exact OwnAt.of 1 rfl rfl | exact OwnAt.of 2 rfl rfl | exact OwnAt.of 3 rfl rfl | exact OwnAt.of 4 rfl rfl | exact OwnAt.of 5 rfl rfl | exact OwnAt.of 6 rfl rfl | exact OwnAt.of 7 rfl rfl)) ?_
        refine XO.rd rfl rfl rfl (Reads.len_slice Try.underlying26 rfl) ?_
        refine XO.rd rfl rfl rfl (Reads.cmp rfl rfl rfl) ?_
        refine XO.rd rfl rfl rfl (Reads.move rfl) ?_
        refine XO.split (d := 51) rfl (fun h6 => ?_) (fun h6 => ?_)
        · skip
          simp only [cmpInt, decide_eq_true_eq] at h6
          have hk3 : k < bs.length := by omega
          refine XO.rd (wg rfl rfl rfl) rfl rfl (Reads.move rfl) ?_
          refine XO.rd (wg rfl rfl rfl) rfl rfl (Reads.cmp rfl rfl rfl) ?_
          refine XO.rd rfl rfl rfl (Reads.pick_true rfl rfl) ?_
          refine XO.nil ?_
          refine XQ.then_normal ?_
          refine XC.cond rfl (fun h7 => ?_) (fun h7 => ?_)
          · skip
            simp only [cmpInt, decide_eq_true_eq] at h7
            have hm0 : 0 < m := by omega
            have hkb := hbd _ (List.getElem_mem hk3)
            have hto : bs[k].to.toNat < n := by omega
            have hfr : bs[k].fr.toNat < n := by omega
            have hwb := walk_bd hSm (m := m - 1) (i := i) (k := bs[k].fr.toNat) (by omega) hi3 hfr
            refine XC.skip ?_
            refine XQ.then_normal ?_
            refine XC.seq ?_
            refine XC.block ?_
            refine XC.seq ?_
            refine XC.region ?_
            refine XO.rd rfl rfl rfl (fa28_1 rfl) ?_
            refine XO.rd rfl rfl rfl (Reads.load_own k26 rfl (by first | exact OwnAt.of 0 rfl rfl | exact OwnAt.of 1 rfl rfl | exact OwnAt.of 2 rfl rfl | exact OwnAt.of 3 rfl rfl | exact OwnAt.of 4 rfl rfl | exact OwnAt.of 5 rfl rfl | exact OwnAt.of 6 rfl rfl | exact OwnAt.of 7 rfl rfl)) ?_
            refine XO.rd rfl rfl rfl (Reads.move rfl) ?_
            refine XO.rd rfl rfl rfl (Reads.index_slot (q := k * 3) Try.underlying26 z30 rfl rfl (by omega) (hA.isSome (by decide) (by omega)) rfl) ?_
            refine XO.rd rfl rfl rfl (Reads.load_agg_at (vs := bs[k].cs) k30 z30 rfl (hA.addr (by decide) (by omega)) (hA.bnd hk3)) ?_
            refine XO.alloc (cs := #[.int .i64 0, .int .i64 0, .int .i64 0]) rfl rfl zo30 rfl (fun b10 => ?_)
            refine XO.store_agg (vs := bs[k].cs) 0 rfl z30 rfl rfl (by simp [Bnd.cs, Value.oneCell']) rfl (by simp [Bnd.cs]) ?_
            refine XO.own_eq (congrArg (fun c => some (b10, Obj.cells c 30 (0, 0)) :: _) (show _ = bs[k].cs.toArray from rfl)) ?_
            obtain ⟨a1, c1, hc1, hc2⟩ := tabs_cell hF (show m - 1 < m by omega)
            obtain ⟨ar, cr, hr1, hr2⟩ := tab_row hc2 hi3
            refine XO.nil ?_
            refine XQ.then_normal ?_
            refine XC.seq ?_
            refine XC.draw m_mixed none (.pure 0 (.pure 1 (.pure 2 (.pure 3 (.pure 4 (.pure 5 (.pure 6 (.pure 7 (.pure 8 (.pure 9 (.pure 10 (.pure 11 (.pure 12 (.done)))))))))))))) _ (by kernel_rfl) (List.Sublist.refl _) ?_
            refine XR.rd rfl rfl rfl (Reads.move rfl) ?_
            refine XR.rd rfl rfl rfl (Reads.move rfl) ?_
            refine XR.rd rfl rfl rfl (Reads.sub rfl rfl (by omega)) ?_
            rw [show (m : Int) - 1 = ((m - 1 : Nat) : Int) by omega]
            refine XR.rd rfl rfl rfl (Reads.index_slot (q := m - 1) Try.underlying65 z38 rfl rfl (by omega) (vec_isSome hV (by rw [flat_len1 hF, tabs_len]; omega)) (by omega)) ?_
            refine XR.rd rfl rfl rfl (Reads.load_vecq k38 rfl hV (e := 38) (List.mem_of_getElem? (i := 3) rfl) hc1) ?_
            refine XR.rd rfl rfl rfl (Reads.move rfl) ?_
            refine XR.rd rfl rfl rfl (Reads.index_slot Try.underlying38 z22 rfl rfl (by omega) hr1.isSome rfl) ?_
            refine XR.rd rfl rfl rfl (Reads.load_at k22 rfl hr1) ?_
            refine XR.rd rfl rfl rfl (fa30_0 rfl) ?_
            refine XR.rd rfl rfl rfl (Reads.load_own (v := .int .i64 bs[k].fr) k3 rfl (OwnAt.of 0 rfl rfl)) ?_
            refine XR.rd rfl rfl rfl (Reads.index_slot Try.underlying22 z3 rfl rfl (by omega) (row_int hr2 hfr).isSome rfl) ?_
            refine XR.rd rfl rfl rfl (Reads.load_at k3 rfl (row_int hr2 hfr)) ?_
            refine XR.rd rfl rfl rfl (Reads.assign rfl) ?_
            refine XR.nil ?_
            refine XQ.then_normal ?_
            refine XC.seq ?_
            refine XC.weaken (E' := [(1, _), (3, _), (4, _), (5, _), (6, _), (7, _), (9, _), (10, _), (11, _)]) ⟨rfl, rfl, rfl, rfl, rfl, rfl, rfl, rfl, rfl, trivial⟩ ?_
            refine XC.region ?_
            refine XO.rd rfl rfl rfl (Reads.move rfl) ?_
            refine XO.rd rfl rfl rfl (Reads.cmp rfl rfl rfl) ?_
            refine XO.nil ?_
            refine XQ.then_normal ?_
            refine XC.cond rfl (fun h8 => ?_) (fun h8 => ?_)
            · skip
              simp only [cmpInt, bne_iff_ne, ne_eq] at h8
              have hbf : ¬ Btw.walk ⟨n, bs⟩ (m - 1) i bs[k].fr.toNat = far := h8
              unfold far at hwb hbf
              refine XC.draw m_mixed (some 14) (.pure 0 (.pure 1 (.pure 2 (.pure 3 (.pure 4 (.pure 5 (.pure 6 (.pure 7 (.pure 8 (.pure 9 (.pure 10 (.pure 11 (.pure 12 (.pure 13 (.eff 14 (.done)))))))))))))))) _ (by kernel_rfl) (List.Sublist.refl _) ?_
              refine XR.rd rfl rfl rfl (Reads.move rfl) ?_
              refine XR.rd rfl rfl rfl (fa30_1 rfl) ?_
              refine XR.rd rfl rfl rfl (Reads.load_own (v := .int .i64 bs[k].to) k3 rfl (OwnAt.of 0 rfl rfl)) ?_
              refine XR.rd rfl rfl rfl (Reads.move rfl) ?_
              refine XR.rd rfl rfl rfl (fa30_1 rfl) ?_
              refine XR.rd rfl rfl rfl (Reads.load_own (v := .int .i64 bs[k].to) k3 rfl (OwnAt.of 0 rfl rfl)) ?_
              refine XR.rd rfl rfl rfl (Reads.index_own (q := bs[k].to.toNat) Try.underlying22 z3 rfl rfl (by omega) (by omega)) ?_
              refine XR.rd rfl rfl rfl (Reads.load_own (v := .int .i64 (sumR ⟨n, bs⟩ m i k bs[k].to.toNat)) k3 rfl (OwnAt.of 1 rfl (by simp [rowC, hto]))) ?_
              refine XR.rd rfl rfl rfl (Reads.move rfl) ?_
              refine XR.rd rfl rfl rfl (fa30_2 rfl) ?_
              refine XR.rd rfl rfl rfl (Reads.load_own (v := .int .i64 bs[k].mo) k3 rfl (OwnAt.of 0 rfl rfl)) ?_
              refine XR.rd rfl rfl rfl (Reads.add rfl rfl (by omega)) ?_
              refine XR.rd rfl rfl rfl (Reads.min rfl rfl) ?_
              refine XR.rd rfl rfl rfl (Reads.index_own (q := bs[k].to.toNat) Try.underlying22 z3 rfl rfl (by omega) (by omega)) ?_
              refine XR.store 1 rfl rfl z3 rfl rfl rfl rfl (by rw [List.size_toArray, rowC_len]; omega) (.inl rfl) ?_
              rw [rowC_setA hto]
              refine XR.own_eq (congrArg (fun c => _ :: some (br, Obj.cells (List.toArray c) 3 (0, 0)) :: _) (rowC_congr (g := fun j => sumR ⟨n, bs⟩ m i (k + 1) j) (fun j hj => sumR_step (b := ⟨n, bs⟩) hm0 hk3 hbf j))) ?_
              refine XR.nil ?_
              refine XQ.block_normal ?_
              refine XQ.then_normal ?_
              refine XC.region ?_
              refine XO.rd rfl rfl rfl (Reads.move rfl) ?_
              refine XO.rd rfl rfl rfl (Reads.add rfl rfl (by omega)) ?_
              refine XO.rd rfl rfl rfl (Reads.assign rfl) ?_
              refine XO.nil ?_
              refine XQ.dropn 1 ?_
              refine XQ.back (k + 1) ⟨by omega, fun hz => by omega⟩ (by omega) ⟨rfl, rfl, rfl, rfl, rfl, rfl, rfl, trivial⟩ rfl (List.Perm.refl _)
            · skip
              simp only [cmpInt, bne_eq_false_iff_eq] at h8
              have hbf : Btw.walk ⟨n, bs⟩ (m - 1) i bs[k].fr.toNat = far := h8
              refine XC.skip ?_
              refine XQ.block_normal ?_
              refine XQ.then_normal ?_
              refine XC.region ?_
              refine XO.rd rfl rfl rfl (Reads.move rfl) ?_
              refine XO.rd rfl rfl rfl (Reads.add rfl rfl (by omega)) ?_
              refine XO.rd rfl rfl rfl (Reads.assign rfl) ?_
              refine XO.nil ?_
              refine XQ.dropn 1 ?_
              refine XQ.back (k + 1) ⟨by omega, fun hz => by omega⟩ (by omega) ⟨rfl, rfl, rfl, rfl, rfl, rfl, rfl, trivial⟩ rfl (List.Perm.of_eq (congrArg (fun c => some (br, Obj.cells (List.toArray c) 3 (0, 0)) :: _) (rowC_congr (fun j hj => sumR_far (b := ⟨n, bs⟩) hm0 hk3 hbf j))))
          · skip
            simp only [cmpInt, decide_eq_false_iff_not] at h7
            have hdone : m = 0 ∨ bs.length ≤ k := .inl (by omega)
            refine XC.exit ?_
            refine XQ.then_exit ?_
            refine XQ.then_exit ?_
            refine XQ.block_exit ?_
            refine XQ.then_normal ?_
            refine XC.region ?_
            refine XO.own_eq (congrArg (fun c => some (br, Obj.cells (List.toArray c) 3 (0, 0)) :: _) (rowC_congr (g := fun j => Btw.walk ⟨n, bs⟩ m i j) (fun j hj => sumR_all hSm (by omega) hi3 hdone hk1 j))) ?_
            refine XO.row (fun J2 hle5 hsr => ?_)
            replace hI := Im.le_trans hI hle5
            replace hA := hA.mono hle5
            replace hF := hF.mono hle5
            replace hD := hD.mono hle5
            have hD2 := rowsP_flat hD hsr
            refine XO.rd rfl rfl rfl (Reads.move rfl) ?_
            refine XO.rd rfl rfl rfl (Reads.move rfl) ?_
            refine XO.buildL [.slice (some ⟨br, 0, none⟩) n n] [.slice (some ⟨br, 0, none⟩) n n] rfl rfl Try.underlying38 el22 rfl (by simp) ⟨rfl, rfl, trivial⟩ rfl rfl (fun bu => ?_)
            refine XO.append (V := T) (news := [.slice (some ⟨br, 0, none⟩) n n]) 1 rfl rfl Try.underlying38 el22 rfl rfl hT rfl (.slice Try.underlying38 (readable_row 0 rfl rfl) rfl (by simp [Value.oneCell'])) (by omega) (by omega) ?_
            intro T' hT' _
            refine XO.dropn 1 ?_
            refine XO.rd rfl rfl rfl (Reads.assign rfl) ?_
            refine XO.nil ?_
            refine XQ.block_normal ?_
            refine XQ.then_normal ?_
            refine XC.region ?_
            refine XO.rd rfl rfl rfl (Reads.move rfl) ?_
            refine XO.rd rfl rfl rfl (Reads.add rfl rfl (by omega)) ?_
            refine XO.rd rfl rfl rfl (Reads.assign rfl) ?_
            refine XO.nil ?_
            refine XQ.back (i + 1, T', ds ++ [.slice (some ⟨br, 0, none⟩) n n], _) ⟨Im.le_trans hJ1 hle5, by simp only; omega, hT', hD2⟩ (by simp only; omega) ⟨rfl, rfl, rfl, rfl, rfl, trivial⟩ rfl (List.Perm.refl _)
        · skip
          simp only [cmpInt, decide_eq_false_iff_not] at h6
          have hdone : m = 0 ∨ bs.length ≤ k := .inr (by omega)
          refine XO.s (wg rfl rfl rfl) rfl ?_
          refine XO.s (wg rfl rfl rfl) rfl ?_
          refine XO.rd rfl rfl rfl (Reads.pick_false rfl rfl) ?_
          refine XO.nil ?_
          refine XQ.then_normal ?_
          refine XC.cond rfl (fun hx => by cases hx) (fun _ => ?_)
          refine XC.exit ?_
          refine XQ.then_exit ?_
          refine XQ.then_exit ?_
          refine XQ.block_exit ?_
          refine XQ.then_normal ?_
          refine XC.region ?_
          refine XO.own_eq (congrArg (fun c => some (br, Obj.cells (List.toArray c) 3 (0, 0)) :: _) (rowC_congr (g := fun j => Btw.walk ⟨n, bs⟩ m i j) (fun j hj => sumR_all hSm (by omega) hi3 hdone hk1 j))) ?_
          refine XO.row (fun J2 hle5 hsr => ?_)
          replace hI := Im.le_trans hI hle5
          replace hA := hA.mono hle5
          replace hF := hF.mono hle5
          replace hD := hD.mono hle5
          have hD2 := rowsP_flat hD hsr
          refine XO.rd rfl rfl rfl (Reads.move rfl) ?_
          refine XO.rd rfl rfl rfl (Reads.move rfl) ?_
          refine XO.buildL [.slice (some ⟨br, 0, none⟩) n n] [.slice (some ⟨br, 0, none⟩) n n] rfl rfl Try.underlying38 el22 rfl (by simp) ⟨rfl, rfl, trivial⟩ rfl rfl (fun bu => ?_)
          refine XO.append (V := T) (news := [.slice (some ⟨br, 0, none⟩) n n]) 1 rfl rfl Try.underlying38 el22 rfl rfl hT rfl (.slice Try.underlying38 (readable_row 0 rfl rfl) rfl (by simp [Value.oneCell'])) (by omega) (by omega) ?_
          intro T' hT' _
          refine XO.dropn 1 ?_
          refine XO.rd rfl rfl rfl (Reads.assign rfl) ?_
          refine XO.nil ?_
          refine XQ.block_normal ?_
          refine XQ.then_normal ?_
          refine XC.region ?_
          refine XO.rd rfl rfl rfl (Reads.move rfl) ?_
          refine XO.rd rfl rfl rfl (Reads.add rfl rfl (by omega)) ?_
          refine XO.rd rfl rfl rfl (Reads.assign rfl) ?_
          refine XO.nil ?_
          refine XQ.back (i + 1, T', ds ++ [.slice (some ⟨br, 0, none⟩) n n], _) ⟨Im.le_trans hJ1 hle5, by simp only; omega, hT', hD2⟩ (by simp only; omega) ⟨rfl, rfl, rfl, rfl, rfl, trivial⟩ rfl (List.Perm.refl _)
    · skip
      simp only [cmpInt, decide_eq_false_iff_not] at h2
      have hie : i = n := by omega
      rw [hie] at hD
      refine XC.exit ?_
      refine XQ.then_exit ?_
      refine XQ.then_exit ?_
      refine XQ.block_exit ?_
      refine XQ.then_normal ?_
      refine XC.region ?_
      refine XO.vec_done (α := List Int) (by decide) hT hD (fun J3 hle6 hst => ?_)
      replace hI := Im.le_trans hI hle6
      replace hA := hA.mono hle6
      replace hF := hF.mono hle6
      have hF2 := tabs_flat hF hst
      refine XO.rd rfl rfl rfl (Reads.move rfl) ?_
      refine XO.rd rfl rfl rfl (Reads.move rfl) ?_
      refine XO.buildL [T.val] [T.val] rfl rfl Try.underlying65 el38 rfl (by simp) ⟨rfl, rfl, trivial⟩ rfl rfl (fun bu => ?_)
      refine XO.append (V := V) (news := [T.val]) 1 rfl rfl Try.underlying65 el38 rfl rfl hV rfl (.slice Try.underlying65 (readable_row 0 rfl rfl) rfl (by simp [Value.oneCell'])) (by omega) (by omega) ?_
      intro V' hV' _
      refine XO.dropn 1 ?_
      refine XO.rd rfl rfl rfl (Reads.assign rfl) ?_
      refine XO.nil ?_
      refine XQ.block_normal ?_
      refine XQ.then_normal ?_
      refine XC.region ?_
      refine XO.rd rfl rfl rfl (Reads.move rfl) ?_
      refine XO.rd rfl rfl rfl (Reads.add rfl rfl (by omega)) ?_
      refine XO.rd rfl rfl rfl (Reads.assign rfl) ?_
      refine XO.nil ?_
      refine XQ.back (m + 1, V', cs ++ [T.val], _) ⟨Im.le_trans hJ0 (Im.le_trans hJ1 hle6), by simp only; omega, hV', hF2⟩ (by simp only; omega) ⟨rfl, rfl, rfl, trivial⟩ rfl (List.Perm.refl _)
  · skip
    simp only [cmpInt, decide_eq_false_iff_not] at h1
    have hmn : m = n + 1 := by omega
    rw [hmn] at hF
    refine XC.exit ?_
    refine XQ.then_exit ?_
    refine XQ.then_exit ?_
    refine XQ.block_exit ?_
    refine XQ.then_normal ?_
    refine XC.seq ?_
    refine XC.region ?_
    refine XO.rd rfl rfl rfl (Reads.move rfl) ?_
    refine XO.rd rfl rfl rfl (Reads.assign rfl) ?_
    refine XO.nil ?_
    refine XQ.then_normal ?_
    refine XC.ret ?_
    refine XQ.give_vec (fun hb => ?_)
    refine XQ.dropn 1 ?_
    refine XQ.done1 (L := []) rfl rfl (Im.le_trans hI (Vec.le_give hb)) ?_
    exact ⟨rfl, (Vec.sl (α := List (List Int)) (e := 38) (by decide) hV hF hb).2⟩

theorem rcontra_any (n : Nat) (bs : List Bnd) (a : Option Addr) (cap : Nat) (I : Im) (hA : Arr I a bs) (hok : Btw.ok ⟨n, bs⟩ = true) : FC Try.prog 40 [.agg #[.int .i64 n, .slice a bs.length cap]] I (fun u I' => u = .bool (!(Btw.dist ⟨n, bs⟩).fine n)) := by
  have hI := Im.le_refl I
  have hn16 := Btw.ok_n hok
  have hb60 := Btw.ok_len hok
  simp only at hn16 hb60
  have hbd : ∀ x ∈ bs, (0 ≤ x.fr ∧ x.fr < n) ∧ (0 ≤ x.to ∧ x.to < n) ∧ -1000000000 ≤ x.mo ∧ x.mo ≤ 1000000000 := fun x hx => bndOk_iff.1 (Btw.ok_bnd hok hx)
  obtain ⟨n2, hSm⟩ := Small.of_ok hok
  have hn2 : n2 = n := by have := hSm.num; simp only at this; omega
  rw [hn2] at hSm
  clear hn2
  refine FSo.intro (n := 31) Try.func40 rfl rfl rfl (fun K Lf => ?_)
  refine XC.seq ?_
  refine XC.region ?_
  refine XO.box_agg rfl rfl rfl (fun b1 => ?_)
  refine XO.rd rfl rfl rfl (Reads.assign rfl) ?_
  refine XO.nil ?_
  refine XQ.then_normal ?_
  refine XC.seq ?_
  refine XC.region ?_
  refine XO.rd rfl rfl rfl (Reads.load_whole k28 z28 rfl (by first | exact WholeAt.of 0 rfl | exact WholeAt.of 1 rfl | exact WholeAt.of 2 rfl | exact WholeAt.of 3 rfl) (by rfl)) ?_
  refine XO.call rfl rfl en41 (sums_any n bs a cap _ hA hok) ⟨rfl, trivial⟩ ?_
  rintro u J1 hle1 hs
  replace hI := Im.le_trans hI hle1
  replace hA := hA.mono hle1
  obtain ⟨at0, c0, rfl, hct, hTb⟩ := hs.ex
  simp only [tabs_len] at hct ⊢
  refine XO.rd rfl rfl rfl (Reads.assign rfl) ?_
  refine XO.nil ?_
  refine XQ.then_normal ?_
  refine XC.seq ?_
  refine XC.seq ?_
  refine XC.region ?_
  refine XO.rd rfl rfl rfl (Reads.assign rfl) ?_
  refine XO.nil ?_
  refine XQ.then_normal ?_
  refine XC.block ?_
  refine XC.loop (ι := Nat) (fun q => [(1, .pointer (some ⟨b1, 0, none⟩)), (3, .slice at0 (n + 1) c0), (4, .int .i64 q)]) (fun q => J1) (fun q => some (b1, .cells #[.int .i64 n, .slice a bs.length cap] 28 (0, 0)) :: ([] ++ Lf)) (fun q => 1 ≤ q ∧ q ≤ n + 1 ∧ ∀ m' i', 1 ≤ m' → m' < q → i' < n → 0 ≤ Btw.walk ⟨n, bs⟩ m' i' i') (fun q => n + 1 - q) 1 ⟨Nat.le_refl _, by omega, fun _ _ h1 h2 => by omega⟩ ⟨rfl, rfl, rfl, trivial⟩ rfl (List.Perm.refl _) (fun m hm => ?_)
  obtain ⟨hm0, hm1, hm2⟩ := hm
  refine XC.seq ?_
  refine XC.seq ?_
  refine XC.region ?_
  refine XO.rd rfl rfl rfl (Reads.move rfl) ?_
  refine XO.rd rfl rfl rfl (fa28_0 rfl) ?_
  refine XO.rd rfl rfl rfl (Reads.load_own k3 rfl (by first | exact OwnAt.of 0 rfl rfl | exact OwnAt.of 1 rfl rfl | exact OwnAt.of 2 rfl rfl | exact OwnAt.of 3 rfl rfl)) ?_
  refine XO.rd rfl rfl rfl (Reads.cmp rfl rfl rfl) ?_
  refine XO.nil ?_
  refine XQ.then_normal ?_
  refine XC.cond rfl (fun h1 => ?_) (fun h1 => ?_)
  · skip
    simp only [cmpInt, decide_eq_true_eq] at h1
    obtain ⟨a1, c1, ht1, ht2⟩ := tabs_get hTb (show m < n + 1 by omega)
    refine XC.skip ?_
    refine XQ.then_normal ?_
    refine XC.seq ?_
    refine XC.block ?_
    refine XC.seq ?_
    refine XC.region ?_
    refine XO.rd rfl rfl rfl (Reads.assign rfl) ?_
    refine XO.nil ?_
    refine XQ.then_normal ?_
    refine XC.block ?_
    refine XC.loop (ι := Nat) (fun q => [(1, .pointer (some ⟨b1, 0, none⟩)), (3, .slice at0 (n + 1) c0), (4, .int .i64 m), (5, .int .i64 q)]) (fun q => J1) (fun q => some (b1, .cells #[.int .i64 n, .slice a bs.length cap] 28 (0, 0)) :: ([] ++ Lf)) (fun q => q ≤ n ∧ ∀ i', i' < q → 0 ≤ Btw.walk ⟨n, bs⟩ m i' i') (fun q => n - q) 0 ⟨Nat.zero_le _, fun _ h => absurd h (Nat.not_lt_zero _)⟩ ⟨rfl, rfl, rfl, rfl, trivial⟩ rfl (List.Perm.refl _) (fun i hi => ?_)
    obtain ⟨hi1, hi2⟩ := hi
    refine XC.seq ?_
    refine XC.seq ?_
    refine XC.region ?_
    refine XO.rd rfl rfl rfl (Reads.move rfl) ?_
    refine XO.rd rfl rfl rfl (fa28_0 rfl) ?_
    refine XO.rd rfl rfl rfl (Reads.load_own k3 rfl (by first | exact OwnAt.of 0 rfl rfl | exact OwnAt.of 1 rfl rfl | exact OwnAt.of 2 rfl rfl | exact OwnAt.of 3 rfl rfl)) ?_
    refine XO.rd rfl rfl rfl (Reads.cmp rfl rfl rfl) ?_
    refine XO.nil ?_
    refine XQ.then_normal ?_
    refine XC.cond rfl (fun h2 => ?_) (fun h2 => ?_)
    · skip
      simp only [cmpInt, decide_eq_true_eq] at h2
      have hcn : i < n := by omega
      obtain ⟨ar, cr, hr1, hr2⟩ := tab_row ht2 hcn
      refine XC.skip ?_
      refine XQ.then_normal ?_
      refine XC.seq ?_
      refine XC.block ?_
      refine XC.seq ?_
      refine XC.region ?_
      refine XO.rd rfl rfl rfl (Reads.move rfl) ?_
      refine XO.rd rfl rfl rfl (Reads.move rfl) ?_
      refine XO.rd rfl rfl rfl (Reads.index_slot Try.underlying65 z38 rfl rfl (by omega) ht1.isSome rfl) ?_
      refine XO.rd rfl rfl rfl (Reads.load_at k38 rfl ht1) ?_
      refine XO.rd rfl rfl rfl (Reads.move rfl) ?_
      refine XO.rd rfl rfl rfl (Reads.index_slot Try.underlying38 z22 rfl rfl (by omega) hr1.isSome rfl) ?_
      refine XO.rd rfl rfl rfl (Reads.load_at k22 rfl hr1) ?_
      refine XO.rd rfl rfl rfl (Reads.move rfl) ?_
      refine XO.rd rfl rfl rfl (Reads.index_slot Try.underlying22 z3 rfl rfl (by omega) (row_int hr2 hcn).isSome rfl) ?_
      refine XO.rd rfl rfl rfl (Reads.load_at k3 rfl (row_int hr2 hcn)) ?_
      refine XO.rd rfl rfl rfl (Reads.cmp rfl rfl rfl) ?_
      refine XO.nil ?_
      refine XQ.then_normal ?_
      refine XC.cond rfl (fun h3 => ?_) (fun h3 => ?_)
      · skip
        simp only [cmpInt, decide_eq_true_eq] at h3
        simp only [Int.toNat_natCast] at h3
        refine XC.seq ?_
        refine XC.region ?_
        refine XO.rd rfl rfl rfl (Reads.assign rfl) ?_
        refine XO.nil ?_
        refine XQ.then_normal ?_
        refine XC.ret ?_
        refine XQ.block_ret ?_
        refine XQ.then_ret ?_
        refine XQ.then_ret ?_
        refine XQ.block_ret ?_
        refine XQ.block_ret ?_
        refine XQ.then_ret ?_
        refine XQ.then_ret ?_
        refine XQ.block_ret ?_
        refine XQ.then_ret ?_
        refine XQ.dropn 1 ?_
        refine XQ.done1 (L := []) rfl rfl hI ?_
        exact ⟨rfl, by rw [(contra_iff hSm).2 ⟨m, i, hm0, by omega, hcn, by assumption⟩]; rfl⟩
      · skip
        simp only [cmpInt, decide_eq_false_iff_not] at h3
        simp only [Int.toNat_natCast] at h3
        refine XC.skip ?_
        refine XQ.block_normal ?_
        refine XQ.then_normal ?_
        refine XC.region ?_
        refine XO.rd rfl rfl rfl (Reads.move rfl) ?_
        refine XO.rd rfl rfl rfl (Reads.add rfl rfl (by omega)) ?_
        refine XO.rd rfl rfl rfl (Reads.assign rfl) ?_
        refine XO.nil ?_
        refine XQ.back (i + 1) ⟨by omega, fun i' g => by rcases Nat.lt_succ_iff_lt_or_eq.1 g with h9 | rfl; exact hi2 i' h9; omega⟩ (by omega) ⟨rfl, rfl, rfl, rfl, trivial⟩ rfl (List.Perm.refl _)
    · skip
      simp only [cmpInt, decide_eq_false_iff_not] at h2
      refine XC.exit ?_
      refine XQ.then_exit ?_
      refine XQ.then_exit ?_
      refine XQ.block_exit ?_
      refine XQ.block_normal ?_
      refine XQ.then_normal ?_
      refine XC.region ?_
      refine XO.rd rfl rfl rfl (Reads.move rfl) ?_
      refine XO.rd rfl rfl rfl (Reads.add rfl rfl (by omega)) ?_
      refine XO.rd rfl rfl rfl (Reads.assign rfl) ?_
      refine XO.nil ?_
      refine XQ.back (m + 1) ⟨by omega, by omega, fun m' i' g1 g2 g3 => by rcases Nat.lt_succ_iff_lt_or_eq.1 g2 with h9 | rfl; exact hm2 m' i' g1 h9 g3; exact hi2 i' (by omega)⟩ (by omega) ⟨rfl, rfl, rfl, trivial⟩ rfl (List.Perm.refl _)
  · skip
    simp only [cmpInt, decide_eq_false_iff_not] at h1
    refine XC.exit ?_
    refine XQ.then_exit ?_
    refine XQ.then_exit ?_
    refine XQ.block_exit ?_
    refine XQ.then_normal ?_
    refine XC.seq ?_
    refine XC.region ?_
    refine XO.rd rfl rfl rfl (Reads.assign rfl) ?_
    refine XO.nil ?_
    refine XQ.then_normal ?_
    refine XC.ret ?_
    refine XQ.dropn 1 ?_
    refine XQ.done1 (L := []) rfl rfl hI ?_
    have hfine : (Btw.dist ⟨n, bs⟩).fine n = true := by
      cases hf : (Btw.dist ⟨n, bs⟩).fine n with
      | true => rfl
      | false =>
        obtain ⟨m', i', g1, g2, g3, g4⟩ := (contra_iff hSm).1 hf
        have := hm2 m' i' g1 (by omega) g3
        omega
    exact ⟨rfl, by rw [hfine]; rfl⟩

end Go.Proofs.Ytlgfpieokaegiaa
