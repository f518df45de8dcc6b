/- Walks of layer 6: distances. -/
import Derived.Test.YtlgfpieokaegiaaB2
namespace Go.Proofs.Ytlgfpieokaegiaa
open Go.Xe

theorem distances_any (n : Nat) (bs : List Bnd) (a : Option Addr) (cap : Nat) (I : Im) (hA : Arr I a bs) (hok : Btw.ok ⟨n, bs⟩ = true) : FC Try.prog 39 [.agg #[.int .i64 n, .slice a bs.length cap]] I (fun u I' => ∃ v, u = .tuple #[v, .bool ((Btw.dist ⟨n, bs⟩).fine n)] ∧ ((Btw.dist ⟨n, bs⟩).fine n = true → Sl I' v ((Btw.dist ⟨n, bs⟩).rows n)) ∧ ((Btw.dist ⟨n, bs⟩).fine n = false → v = .slice none 0 0)) := by
  have hn16 : n ≤ 16 := by have := Btw.ok_n hok; simp only at this; omega
  have hlen : bs.length ≤ 60 := Btw.ok_len hok
  have hbd : ∀ x ∈ bs, (0 ≤ x.fr ∧ x.fr < n) ∧ (0 ≤ x.to ∧ x.to < n) := fun x hx => by have := bndOk_iff.1 (Btw.ok_bnd hok hx); exact ⟨this.1, this.2.1⟩
  refine FSo.intro (n := 111) Try.func39 rfl rfl rfl (fun K Lf => ?_)
  refine XC.seq ?_
  refine XC.region ?_
  refine XO.box_agg rfl rfl rfl (fun b1 => ?_)
  refine XO.rd rfl rfl rfl (Reads.assign rfl) ?_
  refine XO.rd rfl rfl rfl (Reads.assign rfl) ?_
  refine XO.nil ?_
  refine XQ.then_normal ?_
  refine XC.seq ?_
  refine XC.region ?_
  refine XO.rd rfl rfl rfl (fa28_0 rfl) ?_
  refine XO.rd rfl rfl rfl (Reads.load_own k3 rfl (by first | exact OwnAt.of 0 rfl rfl | exact OwnAt.of 1 rfl rfl | exact OwnAt.of 2 rfl rfl | exact OwnAt.of 3 rfl rfl | exact OwnAt.of 4 rfl rfl | exact OwnAt.of 5 rfl rfl)) ?_
  refine XO.callo (vs := [_]) (L1 := []) rfl rfl rfl en58 ⟨rfl, trivial⟩ (none_any n I hn16) (List.Perm.refl _) ?_
  rintro v I' L' _ ⟨bt, T0, rfl, rfl, rfl, hT0⟩
  refine XO.perm List.perm_middle ?_
  refine XO.rd rfl rfl rfl (Reads.assign rfl) ?_
  refine XO.nil ?_
  refine XQ.then_normal ?_
  refine XC.seq ?_
  refine XC.seq ?_
  refine XC.region ?_
  refine XO.rd rfl rfl rfl (fa28_1 rfl) ?_
  refine XO.rd rfl rfl rfl (Reads.load_own k26 rfl (by first | exact OwnAt.of 0 rfl rfl | exact OwnAt.of 1 rfl rfl | exact OwnAt.of 2 rfl rfl | exact OwnAt.of 3 rfl rfl | exact OwnAt.of 4 rfl rfl | exact OwnAt.of 5 rfl rfl)) ?_
  refine XO.rd rfl rfl rfl (Reads.len_slice Try.underlying26 rfl) ?_
  refine XO.rd rfl rfl rfl (Reads.move rfl) ?_
  refine XO.nil ?_
  refine XQ.then_normal ?_
  refine XC.block ?_
  refine XC.loop (ι := Nat × List Vec) (fun i => [(1, .pointer (some ⟨b1, 0, none⟩)), (4, .slice (some ⟨bt, 0, none⟩) n n), (16, .slice a bs.length cap), (17, .int .i64 bs.length), (18, .int .i64 i.1)]) (fun _ => I') (fun i => some (b1, .cells #[.int .i64 n, .slice a bs.length cap] 28 (0, 0)) :: (tabL 22 3 bt i.2 ++ ([] ++ Lf))) (fun i => i.1 ≤ bs.length ∧ TabIs i.2 n (matB mat0 (bs.take i.1)) (fun _ => n)) (fun i => bs.length - i.1) (0, T0) ⟨Nat.zero_le _, hT0⟩ ⟨rfl, rfl, rfl, rfl, rfl, trivial⟩ rfl (List.Perm.refl _) (fun q hq => ?_)
  clear hT0 T0
  obtain ⟨k, T⟩ := q
  obtain ⟨hk1, hT⟩ := hq
  simp only at hk1 hT ⊢
  refine XC.seq ?_
  refine XC.region ?_
  refine XO.rd rfl rfl rfl (Reads.cmp rfl rfl rfl) ?_
  refine XO.nil ?_
  refine XQ.then_normal ?_
  refine XC.seq ?_
  refine XC.cond rfl (fun h1 => ?_) (fun h1 => ?_)
  · skip
    simp only [cmpInt, decide_eq_true_eq] at h1
    have hk3 : k < bs.length := by omega
    have hb := hbd _ (List.getElem_mem hk3)
    have hf : bs[k].fr.toNat < T.length := by have := hT.len; omega
    have hto : bs[k].to.toNat < n := by omega
    have hrow := hT.row _ hf
    have hrl := row_len hrow
    refine XC.skip ?_
    refine XQ.then_normal ?_
    refine XC.seq ?_
    refine XC.block ?_
    refine XC.seq ?_
    refine XC.region ?_
    refine XO.rd rfl rfl rfl (Reads.index_slot (q := k * 3) Try.underlying26 z30 rfl rfl (by omega) (hA.isSome (by decide) (by omega)) (by simp)) ?_
    refine XO.rd rfl rfl rfl (Reads.load_agg_at (vs := bs[k].cs) k30 z30 rfl (hA.addr (by decide) (by omega)) (hA.bnd hk3)) ?_
    refine XO.alloc (cs := #[.int .i64 0, .int .i64 0, .int .i64 0]) rfl rfl zo30 rfl (fun b6 => ?_)
    refine XO.store_agg (vs := bs[k].cs) 0 rfl z30 rfl rfl (by simp [Bnd.cs, Value.oneCell']) rfl (by simp [Bnd.cs]) ?_
    refine XO.nil ?_
    refine XQ.then_normal ?_
    refine XC.draw m_mixed (some 20) (.pure 0 (.pure 1 (.pure 2 (.pure 3 (.pure 4 (.pure 5 (.pure 6 (.pure 7 (.pure 8 (.pure 9 (.pure 10 (.pure 11 (.pure 12 (.pure 13 (.pure 14 (.pure 15 (.pure 16 (.pure 17 (.pure 18 (.pure 19 (.eff 20 (.done)))))))))))))))))))))) _ (by kernel_rfl) (List.Sublist.refl _) ?_
    refine XR.rd rfl rfl rfl (Reads.move rfl) ?_
    refine XR.rd rfl rfl rfl (fa30_0 rfl) ?_
    refine XR.rd rfl rfl rfl (Reads.load_own k3 rfl (by first | exact OwnAt.of 0 rfl rfl | exact OwnAt.of 1 rfl rfl | exact OwnAt.of 2 rfl rfl | exact OwnAt.of 3 rfl rfl | exact OwnAt.of 4 rfl rfl | exact OwnAt.of 5 rfl rfl)) ?_
    refine XR.rd rfl rfl rfl (Reads.index_own (q := bs[k].fr.toNat) Try.underlying38 z22 rfl rfl (by omega) (by simp)) ?_
    refine XR.rd rfl rfl rfl (Reads.load_own (v := T[bs[k].fr.toNat].val) k22 rfl ⟨(T.map Vec.val).toArray, 22, (0, 0), by simp [tabL], by simp [hf]⟩) ?_
    refine XR.rd rfl rfl rfl (fa30_1 rfl) ?_
    refine XR.rd rfl rfl rfl (Reads.load_own k3 rfl (by first | exact OwnAt.of 0 rfl rfl | exact OwnAt.of 1 rfl rfl | exact OwnAt.of 2 rfl rfl | exact OwnAt.of 3 rfl rfl | exact OwnAt.of 4 rfl rfl | exact OwnAt.of 5 rfl rfl)) ?_
    refine XR.rd rfl rfl rfl (Reads.move rfl) ?_
    refine XR.rd rfl rfl rfl (fa30_0 rfl) ?_
    refine XR.rd rfl rfl rfl (Reads.load_own k3 rfl (by first | exact OwnAt.of 0 rfl rfl | exact OwnAt.of 1 rfl rfl | exact OwnAt.of 2 rfl rfl | exact OwnAt.of 3 rfl rfl | exact OwnAt.of 4 rfl rfl | exact OwnAt.of 5 rfl rfl)) ?_
    refine XR.rd rfl rfl rfl (Reads.index_own (q := bs[k].fr.toNat) Try.underlying38 z22 rfl rfl (by omega) (by simp)) ?_
    refine XR.rd rfl rfl rfl (Reads.load_own (v := T[bs[k].fr.toNat].val) k22 rfl ⟨(T.map Vec.val).toArray, 22, (0, 0), by simp [tabL], by simp [hf]⟩) ?_
    refine XR.rd rfl rfl rfl (fa30_1 rfl) ?_
    refine XR.rd rfl rfl rfl (Reads.load_own k3 rfl (by first | exact OwnAt.of 0 rfl rfl | exact OwnAt.of 1 rfl rfl | exact OwnAt.of 2 rfl rfl | exact OwnAt.of 3 rfl rfl | exact OwnAt.of 4 rfl rfl | exact OwnAt.of 5 rfl rfl)) ?_
    refine XR.rd rfl rfl rfl (Reads.index_slot (q := bs[k].to.toNat) Try.underlying22 z3 rfl rfl (by omega) (row_some hrow (by omega)) (by simp)) ?_
    refine XR.rd rfl rfl rfl (Reads.load_row k3 rfl hrow (List.mem_cons_of_mem _ (List.mem_cons_of_mem _ (tabL_mem (eo := 22) (b := bt) hf))) hto) ?_
    refine XR.rd rfl rfl rfl (fa30_2 rfl) ?_
    refine XR.rd rfl rfl rfl (Reads.load_own k3 rfl (by first | exact OwnAt.of 0 rfl rfl | exact OwnAt.of 1 rfl rfl | exact OwnAt.of 2 rfl rfl | exact OwnAt.of 3 rfl rfl | exact OwnAt.of 4 rfl rfl | exact OwnAt.of 5 rfl rfl)) ?_
    refine XR.rd rfl rfl rfl (Reads.min rfl rfl) ?_
    refine XR.rd rfl rfl rfl (Reads.index_slot (q := bs[k].to.toNat) Try.underlying22 z3 rfl rfl (by omega) (row_some hrow (by omega)) (by simp)) ?_
    refine XR.store_vec (V := T[bs[k].fr.toNat]) (e := 3) (bs[k].fr.toNat + 1 + 1 + 1) rfl rfl z3 rfl rfl rfl hrow (tabL_get (eo := 22) (b := bt) hf) (by rw [rowC_len]; exact hto) rfl ?_
    intro V' hV' hval
    refine XR.nil ?_
    refine XQ.block_normal ?_
    refine XQ.then_normal ?_
    refine XC.region ?_
    refine XO.rd rfl rfl rfl (Reads.add rfl rfl (by omega)) ?_
    refine XO.rd rfl rfl rfl (Reads.move rfl) ?_
    refine XO.nil ?_
    refine XQ.dropn 1 ?_
    refine XQ.back (k + 1, T.set bs[k].fr.toNat V') ⟨by omega, by rw [matB_succ _ _ hk3]; exact hT.upd hto hV'⟩ (by simp only; omega) ⟨rfl, rfl, rfl, rfl, rfl, trivial⟩ rfl (List.Perm.of_eq (congrArg (List.cons _) (tabL_same hf hval)))
  · skip
    simp only [cmpInt, decide_eq_false_iff_not] at h1
    refine XC.exit ?_
    refine XQ.then_exit ?_
    refine XQ.then_exit ?_
    refine XQ.block_exit ?_
    refine XQ.then_normal ?_
    refine XC.seq ?_
    refine XC.seq ?_
    refine XC.region ?_
    refine XO.rd rfl rfl rfl (fa28_0 rfl) ?_
    refine XO.rd rfl rfl rfl (Reads.load_own k3 rfl (by first | exact OwnAt.of 0 rfl rfl | exact OwnAt.of 1 rfl rfl | exact OwnAt.of 2 rfl rfl | exact OwnAt.of 3 rfl rfl | exact OwnAt.of 4 rfl rfl | exact OwnAt.of 5 rfl rfl)) ?_
    refine XO.rd rfl rfl rfl (Reads.move rfl) ?_
    refine XO.nil ?_
    refine XQ.then_normal ?_
    refine XC.block ?_
    have hT1 : TabIs T n (matB mat0 bs) (fun _ => n) := by rw [show bs.take k = bs from List.take_of_length_le (by omega)] at hT; exact hT
    clear hT
    refine XC.loop (ι := Nat × List Vec) (fun i => [(1, .pointer (some ⟨b1, 0, none⟩)), (4, .slice (some ⟨bt, 0, none⟩) n n), (44, .int .i64 n), (45, .int .i64 i.1)]) (fun _ => I') (fun i => some (b1, .cells #[.int .i64 n, .slice a bs.length cap] 28 (0, 0)) :: (tabL 22 3 bt i.2 ++ ([] ++ Lf))) (fun i => i.1 ≤ n ∧ TabIs i.2 n ((List.range i.1).foldl (fwM n) (matB mat0 bs)) (fun _ => n)) (fun i => n - i.1) (0, T) ⟨Nat.zero_le _, hT1⟩ ⟨rfl, rfl, rfl, rfl, trivial⟩ rfl (List.Perm.refl _) (fun q hq => ?_)
    clear hT1 T
    obtain ⟨m, T⟩ := q
    obtain ⟨hm1, hT⟩ := hq
    simp only at hm1 hT ⊢
    refine XC.seq ?_
    refine XC.region ?_
    refine XO.rd rfl rfl rfl (Reads.cmp rfl rfl rfl) ?_
    refine XO.nil ?_
    refine XQ.then_normal ?_
    refine XC.seq ?_
    refine XC.cond rfl (fun h2 => ?_) (fun h2 => ?_)
    · skip
      simp only [cmpInt, decide_eq_true_eq] at h2
      have hmn : m < n := by omega
      have hmT : m < T.length := by have := hT.len; omega
      generalize hD : (List.range m).foldl (fwM n) (matB mat0 bs) = D at hT
      refine XC.skip ?_
      refine XQ.then_normal ?_
      refine XC.seq ?_
      refine XC.block ?_
      refine XC.seq ?_
      refine XC.region ?_
      refine XO.rd rfl rfl rfl (Reads.move rfl) ?_
      refine XO.rd rfl rfl rfl (Reads.assign rfl) ?_
      refine XO.nil ?_
      refine XQ.then_normal ?_
      refine XC.seq ?_
      refine XC.region ?_
      refine XO.rd rfl rfl rfl (fa28_0 rfl) ?_
      refine XO.rd rfl rfl rfl (Reads.load_own k3 rfl (by first | exact OwnAt.of 0 rfl rfl | exact OwnAt.of 1 rfl rfl | exact OwnAt.of 2 rfl rfl | exact OwnAt.of 3 rfl rfl | exact OwnAt.of 4 rfl rfl | exact OwnAt.of 5 rfl rfl)) ?_
      refine XO.makeSlice rfl rfl Try.underlying22 el3 rfl rfl rfl (by omega) (by omega) (fun bh => ?_)
      refine XO.rd rfl rfl rfl (Reads.assign rfl) ?_
      refine XO.nil ?_
      refine XQ.then_normal ?_
      refine XC.seq ?_
      refine XC.region ?_
      refine XO.rd rfl rfl rfl (Reads.move rfl) ?_
      refine XO.rd rfl rfl rfl (Reads.move rfl) ?_
      refine XO.rd rfl rfl rfl (Reads.move rfl) ?_
      refine XO.rd rfl rfl rfl (Reads.index_own (q := m) Try.underlying38 z22 rfl rfl (by omega) (by simp)) ?_
      refine XO.rd rfl rfl rfl (Reads.load_own (v := T[m].val) k22 rfl ⟨(T.map Vec.val).toArray, 22, (0, 0), by simp [tabL], by simp [hmT]⟩) ?_
      refine XO.copy (news := rowC n (D m)) 0 rfl rfl Try.underlying22 el3 rfl rfl rfl (.slice Try.underlying22 ((hT.row m hmT).readable (e := 3) (List.mem_cons_of_mem _ (List.mem_cons_of_mem _ (tabL_mem (eo := 22) (b := bt) hmT)))) (hT.row m hmT).len (by simp [rowC, Value.oneCell'])) (row_len (hT.row m hmT)) (by simp) ?_
      rw [show (rowC n (D m) ++ List.drop n (List.replicate n (Value.int .i64 0)).toArray.toList) = rowC n (D m) by simp]
      refine XO.nil ?_
      refine XQ.then_normal ?_
      refine XC.seq ?_
      refine XC.region ?_
      refine XO.rd rfl rfl rfl (fa28_0 rfl) ?_
      refine XO.rd rfl rfl rfl (Reads.load_own k3 rfl (by first | exact OwnAt.of 0 rfl rfl | exact OwnAt.of 1 rfl rfl | exact OwnAt.of 2 rfl rfl | exact OwnAt.of 3 rfl rfl | exact OwnAt.of 4 rfl rfl | exact OwnAt.of 5 rfl rfl)) ?_
      refine XO.rd rfl rfl rfl (Reads.move rfl) ?_
      refine XO.nil ?_
      refine XQ.then_normal ?_
      refine XC.block ?_
      refine XC.loop (ι := Nat × List Vec) (fun i => [(1, .pointer (some ⟨b1, 0, none⟩)), (4, .slice (some ⟨bt, 0, none⟩) n n), (44, .int .i64 n), (45, .int .i64 m), (7, .int .i64 m), (8, .slice (some ⟨bh, 0, none⟩) n n), (58, .int .i64 n), (59, .int .i64 i.1)]) (fun _ => I') (fun i => some (bh, .cells (rowC n (D m)).toArray 3 (0, 0)) :: some (b1, .cells #[.int .i64 n, .slice a bs.length cap] 28 (0, 0)) :: (tabL 22 3 bt i.2 ++ ([] ++ Lf))) (fun i => i.1 ≤ n ∧ TabIs i.2 n ((List.range i.1).foldl (fun E i => fwRow m (D m) i n E) D) (fun _ => n)) (fun i => n - i.1) (0, T) ⟨Nat.zero_le _, hT⟩ ⟨rfl, rfl, rfl, rfl, rfl, rfl, rfl, rfl, trivial⟩ rfl (List.Perm.refl _) (fun q hq => ?_)
      clear hT hmT T
      obtain ⟨i, T⟩ := q
      obtain ⟨hi1, hT⟩ := hq
      simp only at hi1 hT ⊢
      refine XC.seq ?_
      refine XC.region ?_
      refine XO.rd rfl rfl rfl (Reads.cmp rfl rfl rfl) ?_
      refine XO.nil ?_
      refine XQ.then_normal ?_
      refine XC.seq ?_
      refine XC.cond rfl (fun h3 => ?_) (fun h3 => ?_)
      · skip
        simp only [cmpInt, decide_eq_true_eq] at h3
        have hin : i < n := by omega
        refine XC.skip ?_
        refine XQ.then_normal ?_
        refine XC.seq ?_
        refine XC.block ?_
        refine XC.seq ?_
        refine XC.region ?_
        refine XO.rd rfl rfl rfl (Reads.move rfl) ?_
        refine XO.rd rfl rfl rfl (Reads.assign rfl) ?_
        refine XO.nil ?_
        refine XQ.then_normal ?_
        refine XC.seq ?_
        refine XC.region ?_
        refine XO.rd rfl rfl rfl (fa28_0 rfl) ?_
        refine XO.rd rfl rfl rfl (Reads.load_own k3 rfl (by first | exact OwnAt.of 0 rfl rfl | exact OwnAt.of 1 rfl rfl | exact OwnAt.of 2 rfl rfl | exact OwnAt.of 3 rfl rfl | exact OwnAt.of 4 rfl rfl | exact OwnAt.of 5 rfl rfl)) ?_
        refine XO.rd rfl rfl rfl (Reads.move rfl) ?_
        refine XO.nil ?_
        refine XQ.then_normal ?_
        refine XC.block ?_
        generalize hE : (List.range i).foldl (fun E i => fwRow m (D m) i n E) D = E at hT
        refine XC.loop (ι := Nat × List Vec) (fun q => [(1, .pointer (some ⟨b1, 0, none⟩)), (4, .slice (some ⟨bt, 0, none⟩) n n), (44, .int .i64 n), (45, .int .i64 m), (7, .int .i64 m), (8, .slice (some ⟨bh, 0, none⟩) n n), (58, .int .i64 n), (59, .int .i64 i), (9, .int .i64 i), (63, .int .i64 n), (64, .int .i64 q.1)]) (fun _ => I') (fun q => some (bh, .cells (rowC n (D m)).toArray 3 (0, 0)) :: some (b1, .cells #[.int .i64 n, .slice a bs.length cap] 28 (0, 0)) :: (tabL 22 3 bt q.2 ++ ([] ++ Lf))) (fun q => q.1 ≤ n ∧ TabIs q.2 n ((List.range q.1).foldl (fun D' k => D'.upd i k (min (D' i k) (plusW (D' i m) (D m k)))) E) (fun _ => n)) (fun q => n - q.1) (0, T) ⟨Nat.zero_le _, hT⟩ ⟨rfl, rfl, rfl, rfl, rfl, rfl, rfl, rfl, rfl, rfl, rfl, trivial⟩ rfl (List.Perm.refl _) (fun q hq => ?_)
        clear hT T
        obtain ⟨k, T⟩ := q
        obtain ⟨hk1, hT⟩ := hq
        simp only at hk1 hT ⊢
        have hiT : i < T.length := by have := hT.len; omega
        have hrow := hT.row i hiT
        have hrl := row_len hrow
        refine XC.seq ?_
        refine XC.region ?_
        refine XO.rd rfl rfl rfl (Reads.cmp rfl rfl rfl) ?_
        refine XO.nil ?_
        refine XQ.then_normal ?_
        refine XC.seq ?_
        refine XC.cond rfl (fun h4 => ?_) (fun h4 => ?_)
        · skip
          simp only [cmpInt, decide_eq_true_eq] at h4
          have hkn : k < n := by omega
          refine XC.skip ?_
          refine XQ.then_normal ?_
          refine XC.seq ?_
          refine XC.block ?_
          refine XC.seq ?_
          refine XC.region ?_
          refine XO.rd rfl rfl rfl (Reads.move rfl) ?_
          refine XO.rd rfl rfl rfl (Reads.assign rfl) ?_
          refine XO.nil ?_
          refine XQ.then_normal ?_
          refine XC.draw m_mixed (some 26) (.pure 0 (.pure 1 (.pure 2 (.pure 3 (.pure 4 (.pure 5 (.pure 6 (.pure 7 (.pure 8 (.pure 9 (.pure 10 (.pure 11 (.pure 12 (.pure 13 (.pure 14 (.pure 15 (.pure 16 (.pure 17 (.pure 18 (.pure 19 (.pure 20 (.pure 21 (.pure 22 (.eff 23 (.pure 24 (.pure 25 (.eff 26 (.done)))))))))))))))))))))))))))) _ (by kernel_rfl) (List.Sublist.refl _) ?_
          refine XR.rd rfl rfl rfl (Reads.move rfl) ?_
          refine XR.rd rfl rfl rfl (Reads.move rfl) ?_
          refine XR.rd rfl rfl rfl (Reads.index_own (q := i) Try.underlying38 z22 rfl rfl (by omega) (by simp)) ?_
          refine XR.rd rfl rfl rfl (Reads.load_own (v := T[i].val) k22 rfl ⟨(T.map Vec.val).toArray, 22, (0, 0), by simp [tabL], by simp [hiT]⟩) ?_
          refine XR.rd rfl rfl rfl (Reads.move rfl) ?_
          refine XR.rd rfl rfl rfl (Reads.move rfl) ?_
          refine XR.rd rfl rfl rfl (Reads.move rfl) ?_
          refine XR.rd rfl rfl rfl (Reads.index_own (q := i) Try.underlying38 z22 rfl rfl (by omega) (by simp)) ?_
          refine XR.rd rfl rfl rfl (Reads.load_own (v := T[i].val) k22 rfl ⟨(T.map Vec.val).toArray, 22, (0, 0), by simp [tabL], by simp [hiT]⟩) ?_
          refine XR.rd rfl rfl rfl (Reads.move rfl) ?_
          refine XR.rd rfl rfl rfl (Reads.index_slot (q := k) Try.underlying22 z3 rfl rfl (by omega) (row_some hrow (by omega)) (by simp)) ?_
          refine XR.rd rfl rfl rfl (Reads.load_row k3 rfl hrow (List.mem_cons_of_mem _ (List.mem_cons_of_mem _ (tabL_mem (eo := 22) (b := bt) hiT))) hkn) ?_
          refine XR.rd rfl rfl rfl (Reads.move rfl) ?_
          refine XR.rd rfl rfl rfl (Reads.move rfl) ?_
          refine XR.rd rfl rfl rfl (Reads.index_own (q := i) Try.underlying38 z22 rfl rfl (by omega) (by simp)) ?_
          refine XR.rd rfl rfl rfl (Reads.load_own (v := T[i].val) k22 rfl ⟨(T.map Vec.val).toArray, 22, (0, 0), by simp [tabL], by simp [hiT]⟩) ?_
          refine XR.rd rfl rfl rfl (Reads.move rfl) ?_
          refine XR.rd rfl rfl rfl (Reads.index_slot (q := m) Try.underlying22 z3 rfl rfl (by omega) (row_some hrow (by omega)) (by simp)) ?_
          refine XR.rd rfl rfl rfl (Reads.load_row k3 rfl hrow (List.mem_cons_of_mem _ (List.mem_cons_of_mem _ (tabL_mem (eo := 22) (b := bt) hiT))) hmn) ?_
          refine XR.rd rfl rfl rfl (Reads.move rfl) ?_
          refine XR.rd rfl rfl rfl (Reads.move rfl) ?_
          refine XR.rd rfl rfl rfl (Reads.index_own (q := k) Try.underlying22 z3 rfl rfl (by omega) (by simp)) ?_
          refine XR.rd rfl rfl rfl (Reads.load_own (v := .int .i64 (D m k)) k3 rfl (OwnAt.of 0 rfl (by simp [rowC, hkn]))) ?_
          refine XR.callp rfl rfl rfl en43 (plus_any _ _ _) ⟨rfl, rfl, trivial⟩ (List.Sublist.refl _) ?_
          refine XR.rd rfl rfl rfl (Reads.min rfl rfl) ?_
          refine XR.rd rfl rfl rfl (Reads.index_slot (q := k) Try.underlying22 z3 rfl rfl (by omega) (row_some hrow (by omega)) (by simp)) ?_
          refine XR.store_vec (V := T[i]) (e := 3) (i + 1 + 1 + 1) rfl rfl z3 rfl rfl rfl hrow (tabL_get (eo := 22) (b := bt) hiT) (by rw [rowC_len]; exact hkn) rfl ?_
          intro V' hV' hval
          refine XR.nil ?_
          refine XQ.block_normal ?_
          refine XQ.then_normal ?_
          refine XC.weaken (E' := [(1, _), (4, _), (7, _), (8, _), (9, _), (44, _), (45, _), (58, _), (59, _), (63, _), (64, _)]) ⟨rfl, rfl, rfl, rfl, rfl, rfl, rfl, rfl, rfl, rfl, rfl, trivial⟩ ?_
          refine XC.region ?_
          refine XO.rd rfl rfl rfl (Reads.add rfl rfl (by omega)) ?_
          refine XO.rd rfl rfl rfl (Reads.move rfl) ?_
          refine XO.nil ?_
          refine XQ.back (k + 1, T.set i V') ⟨by omega, by rw [foldl_range_succ]; exact hT.upd hkn hV'⟩ (by simp only; omega) ⟨rfl, rfl, rfl, rfl, rfl, rfl, rfl, rfl, rfl, rfl, rfl, trivial⟩ rfl (List.Perm.of_eq (congrArg (List.cons _) (congrArg (List.cons _) (tabL_same hiT hval))))
        · skip
          simp only [cmpInt, decide_eq_false_iff_not] at h4
          have hT' : TabIs T n ((List.range (i + 1)).foldl (fun E i => fwRow m (D m) i n E) D) (fun _ => n) := by rw [foldl_range_succ, hE]; rw [show k = n by omega] at hT; exact hT
          refine XC.exit ?_
          refine XQ.then_exit ?_
          refine XQ.then_exit ?_
          refine XQ.block_exit ?_
          refine XQ.block_normal ?_
          refine XQ.then_normal ?_
          refine XC.region ?_
          refine XO.rd rfl rfl rfl (Reads.add rfl rfl (by omega)) ?_
          refine XO.rd rfl rfl rfl (Reads.move rfl) ?_
          refine XO.nil ?_
          refine XQ.back (i + 1, T) ⟨by omega, hT'⟩ (by simp only; omega) ⟨rfl, rfl, rfl, rfl, rfl, rfl, rfl, rfl, trivial⟩ rfl (List.Perm.refl _)
      · skip
        simp only [cmpInt, decide_eq_false_iff_not] at h3
        have hT' : TabIs T n ((List.range (m + 1)).foldl (fwM n) (matB mat0 bs)) (fun _ => n) := by rw [foldl_range_succ, hD]; rw [show i = n by omega] at hT; exact hT
        refine XC.exit ?_
        refine XQ.then_exit ?_
        refine XQ.then_exit ?_
        refine XQ.block_exit ?_
        refine XQ.block_normal ?_
        refine XQ.then_normal ?_
        refine XC.region ?_
        refine XO.rd rfl rfl rfl (Reads.add rfl rfl (by omega)) ?_
        refine XO.rd rfl rfl rfl (Reads.move rfl) ?_
        refine XO.nil ?_
        refine XQ.dropn 1 ?_
        refine XQ.back (m + 1, T) ⟨by omega, hT'⟩ (by simp only; omega) ⟨rfl, rfl, rfl, rfl, trivial⟩ rfl (List.Perm.refl _)
    · skip
      simp only [cmpInt, decide_eq_false_iff_not] at h2
      refine XC.exit ?_
      refine XQ.then_exit ?_
      refine XQ.then_exit ?_
      refine XQ.block_exit ?_
      refine XQ.then_normal ?_
      refine XC.seq ?_
      refine XC.seq ?_
      refine XC.region ?_
      refine XO.rd rfl rfl rfl (fa28_0 rfl) ?_
      refine XO.rd rfl rfl rfl (Reads.load_own k3 rfl (by first | exact OwnAt.of 0 rfl rfl | exact OwnAt.of 1 rfl rfl | exact OwnAt.of 2 rfl rfl | exact OwnAt.of 3 rfl rfl | exact OwnAt.of 4 rfl rfl | exact OwnAt.of 5 rfl rfl)) ?_
      refine XO.rd rfl rfl rfl (Reads.move rfl) ?_
      refine XO.nil ?_
      refine XQ.then_normal ?_
      refine XC.block ?_
      have hD : (List.range m).foldl (fwM n) (matB mat0 bs) = Btw.dist ⟨n, bs⟩ := by rw [show m = n by omega]; rfl
      rw [hD] at hT
      generalize hDD : Btw.dist ⟨n, bs⟩ = D at hT ⊢
      refine XC.loop (ι := Nat) (fun i => [(4, .slice (some ⟨bt, 0, none⟩) n n), (97, .int .i64 n), (98, .int .i64 i)]) (fun _ => I') (fun _ => some (b1, .cells #[.int .i64 n, .slice a bs.length cap] 28 (0, 0)) :: (tabL 22 3 bt T ++ ([] ++ Lf))) (fun i => i ≤ n ∧ ∀ j, j < i → 0 ≤ D j j) (fun i => n - i) 0 ⟨Nat.zero_le _, fun _ h => absurd h (Nat.not_lt_zero _)⟩ ⟨rfl, rfl, rfl, trivial⟩ rfl (List.Perm.refl _) (fun i hi => ?_)
      obtain ⟨hi1, hi2⟩ := hi
      refine XC.seq ?_
      refine XC.region ?_
      refine XO.rd rfl rfl rfl (Reads.cmp rfl rfl rfl) ?_
      refine XO.nil ?_
      refine XQ.then_normal ?_
      refine XC.seq ?_
      refine XC.cond rfl (fun h5 => ?_) (fun h5 => ?_)
      · skip
        simp only [cmpInt, decide_eq_true_eq] at h5
        have hin : i < n := by omega
        have hiT : i < T.length := by have := hT.len; omega
        have hrow := hT.row i hiT
        have hrl := row_len hrow
        refine XC.skip ?_
        refine XQ.then_normal ?_
        refine XC.seq ?_
        refine XC.block ?_
        refine XC.seq ?_
        refine XC.region ?_
        refine XO.rd rfl rfl rfl (Reads.move rfl) ?_
        refine XO.rd rfl rfl rfl (Reads.assign rfl) ?_
        refine XO.nil ?_
        refine XQ.then_normal ?_
        refine XC.seq ?_
        refine XC.region ?_
        refine XO.rd rfl rfl rfl (Reads.move rfl) ?_
        refine XO.rd rfl rfl rfl (Reads.move rfl) ?_
        refine XO.rd rfl rfl rfl (Reads.index_own (q := i) Try.underlying38 z22 rfl rfl (by omega) (by simp)) ?_
        refine XO.rd rfl rfl rfl (Reads.load_own (v := T[i].val) k22 rfl ⟨(T.map Vec.val).toArray, 22, (0, 0), by simp [tabL], by simp [hiT]⟩) ?_
        refine XO.rd rfl rfl rfl (Reads.move rfl) ?_
        refine XO.rd rfl rfl rfl (Reads.index_slot (q := i) Try.underlying22 z3 rfl rfl (by omega) (row_some hrow (by omega)) (by simp)) ?_
        refine XO.rd rfl rfl rfl (Reads.load_row k3 rfl hrow (List.mem_cons_of_mem _ (tabL_mem (eo := 22) (b := bt) hiT)) hin) ?_
        refine XO.rd rfl rfl rfl (Reads.cmp rfl rfl rfl) ?_
        refine XO.nil ?_
        refine XQ.then_normal ?_
        refine XC.cond rfl (fun h6 => ?_) (fun h6 => ?_)
        · skip
          simp only [cmpInt, decide_eq_true_eq] at h6
          have hfine : D.fine n = false := fine_no hin (by assumption)
          refine XC.seq ?_
          refine XC.region ?_
          refine XO.rd rfl rfl rfl (Reads.assign rfl) ?_
          refine XO.rd rfl rfl rfl (Reads.assign rfl) ?_
          refine XO.nil ?_
          refine XQ.then_normal ?_
          refine XC.ret ?_
          refine XQ.block_ret ?_
          refine XQ.then_ret ?_
          refine XQ.then_ret ?_
          refine XQ.block_ret ?_
          refine XQ.then_ret ?_
          refine XQ.drop (L' := [] ++ Lf) ((List.sublist_append_right (tabL 22 3 bt T) ([] ++ Lf)).cons _) ?_
          refine XQ.done2 rfl rfl rfl (Im.le_refl _) ?_
          exact ⟨rfl, .slice none 0 0, by rw [hfine], (fun h => by rw [hfine] at h; cases h), fun _ => rfl⟩
        · skip
          simp only [cmpInt, decide_eq_false_iff_not] at h6
          refine XC.skip ?_
          refine XQ.block_normal ?_
          refine XQ.then_normal ?_
          refine XC.region ?_
          refine XO.rd rfl rfl rfl (Reads.add rfl rfl (by omega)) ?_
          refine XO.rd rfl rfl rfl (Reads.move rfl) ?_
          refine XO.nil ?_
          refine XQ.back (i + 1) ⟨by omega, fun j hj => by rcases Nat.lt_succ_iff_lt_or_eq.1 hj with h | rfl; exact hi2 j h; omega⟩ (by omega) ⟨rfl, rfl, rfl, trivial⟩ rfl (List.Perm.refl _)
      · skip
        simp only [cmpInt, decide_eq_false_iff_not] at h5
        have hfine : D.fine n = true := fine_yes (fun j hj => hi2 j (by omega))
        refine XC.exit ?_
        refine XQ.then_exit ?_
        refine XQ.then_exit ?_
        refine XQ.block_exit ?_
        refine XQ.then_normal ?_
        refine XC.seq ?_
        refine XC.region ?_
        refine XO.rd rfl rfl rfl (Reads.move rfl) ?_
        refine XO.rd rfl rfl rfl (Reads.assign rfl) ?_
        refine XO.rd rfl rfl rfl (Reads.assign rfl) ?_
        refine XO.nil ?_
        refine XQ.then_normal ?_
        refine XC.ret ?_
        refine XQ.dropn 1 ?_
        refine XQ.table (X := [] ++ Lf) hT (fun I2 hle hsl => ?_)
        refine XQ.done2 rfl rfl rfl hle ?_
        exact ⟨rfl, .slice (some ⟨bt, 0, none⟩) n n, by rw [hfine], fun _ => hsl, (fun h => by rw [hfine] at h; cases h)⟩

end Go.Proofs.Ytlgfpieokaegiaa
