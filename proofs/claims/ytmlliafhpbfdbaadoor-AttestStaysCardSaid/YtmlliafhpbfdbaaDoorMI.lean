/- Walks: an attestation that integers determine. Walk: an attestation that is changed. -/
import Derived.Test.YtmlliafhpbfdbaaDoorMH
import Derived.Test.YtmlliafhpbfdbaaDoorMK
import Derived.Test.YtmlliafhpbfdbaaDoorMG
namespace Go.Proofs.YtmlliafhpbfdbaaDoor
open Go.Xe Go.Sh Go Go.At

set_option maxHeartbeats 1600000 in
theorem made_any (n : Num) (a : Option Addr) (cap : Nat) (I : Im) (hn : n.In) (hC : Arr I a n.cars) (hcl : n.cars.length ≤ 9223372036854775807) : FC Tryd.prog 18 [.agg (n.cs a cap).toArray] I (fun u I' => AttV I' u n.made) := by
  have hI := Im.le_refl I
  have hr0 := n.car_range 0
  refine FSo.intro (n := 74) Tryd.func18 rfl rfl rfl (fun K Lf => ?_)
  refine XC.seq ?_
  refine XC.region ?_
  refine XO.box_agg rfl rfl rfl (fun b1 => ?_)
  refine XO.alloc (cs := #[.int .i64 0, .int .i64 0, .int .i64 0, .int .i64 0, .slice none 0 0]) rfl rfl zo37 rfl (fun b2 => ?_)
  refine XO.nil ?_
  refine XQ.then_normal ?_
  refine XC.seq ?_
  refine XC.region ?_
  refine XO.call rfl rfl en15 (all_any _) trivial ?_
  rintro u J6 hle6 hr
  replace hI := Im.le_trans hI hle6
  replace hC := hC.mono hle6
  obtain ⟨ak, ck, rfl, hck, hK⟩ := hr.ex
  refine XO.rd rfl rfl rfl (Reads.assign rfl) ?_
  refine XO.nil ?_
  refine XQ.then_normal ?_
  refine XC.seq ?_
  refine XC.region ?_
  refine XO.rd rfl rfl rfl (Reads.load_whole k26 z26 rfl (by first | exact WholeAt.of 0 rfl | exact WholeAt.of 1 rfl | exact WholeAt.of 2 rfl | exact WholeAt.of 3 rfl | exact WholeAt.of 4 rfl | exact WholeAt.of 5 rfl) (by rfl)) ?_
  refine XO.call rfl rfl en22 (knows_any n a cap _ hn) ⟨rfl, trivial⟩ ?_
  rintro u J7 hle7 hr
  replace hI := Im.le_trans hI hle7
  replace hC := hC.mono hle7
  replace hK := hK.mono hle7
  obtain ⟨aw, cw, rfl, hcw, hKn⟩ := hr.ex
  refine XO.rd rfl rfl rfl (Reads.assign rfl) ?_
  refine XO.nil ?_
  refine XQ.then_normal ?_
  refine XC.seq ?_
  refine XC.region ?_
  refine XO.rd rfl rfl rfl (Reads.assign rfl) ?_
  refine XO.nil ?_
  refine XQ.then_normal ?_
  refine XC.seq ?_
  refine XC.seq ?_
  refine XC.region ?_
  refine XO.rd rfl rfl rfl (fa26_2 rfl) ?_
  refine XO.rd rfl rfl rfl (Reads.load_own (v := .slice a n.cars.length cap) k23 rfl (by first | exact OwnAt.of 0 rfl rfl | exact OwnAt.of 1 rfl rfl | exact OwnAt.of 2 rfl rfl | exact OwnAt.of 3 rfl rfl | exact OwnAt.of 4 rfl rfl)) ?_
  refine XO.rd rfl rfl rfl (Reads.len_slice Tryd.underlying23 rfl) ?_
  refine XO.rd rfl rfl rfl (Reads.cmp rfl rfl rfl) ?_
  refine XO.nil ?_
  refine XQ.then_normal ?_
  refine XC.join (ι := Int) (fun q => [(1, .pointer (some ⟨b1, 0, none⟩)), (2, .pointer (some ⟨b2, 0, none⟩)), (3, .slice ak allK.length ck), (4, .slice aw n.knows.length cw), (5, .int .i64 q)]) (fun q => J7) (fun q => some (b2, .cells #[.int .i64 0, .int .i64 0, .int .i64 0, .int .i64 0, .slice none 0 0] 37 (0, 0)) :: some (b1, .cells (n.cs a cap).toArray 26 (0, 0)) :: ([] ++ Lf)) (fun q => q = n.car 0) ?_ (fun q hq => ?_)
  · skip
    refine XC.cond rfl (fun h1 => ?_) (fun h1 => ?_)
    · skip
      simp only [cmpInt, decide_eq_true_eq] at h1
      have hc0 : pickI (n.cars.getD 0 0) 8 = n.car 0 := by rw [Num.car, if_pos (by omega)]
      refine XC.region ?_
      refine XO.rd rfl rfl rfl (fa26_2 rfl) ?_
      refine XO.rd rfl rfl rfl (Reads.load_own (v := .slice a n.cars.length cap) k23 rfl (by first | exact OwnAt.of 0 rfl rfl | exact OwnAt.of 1 rfl rfl | exact OwnAt.of 2 rfl rfl | exact OwnAt.of 3 rfl rfl | exact OwnAt.of 4 rfl rfl)) ?_
      refine XO.rd rfl rfl rfl (Reads.index_slot (q := 0) Tryd.underlying23 z3 rfl rfl (by omega) (hC.isSome (by decide) (by omega)) rfl) ?_
      refine XO.rd rfl rfl rfl (Reads.load_at (v := .int .i64 (n.cars.getD 0 0)) k3 rfl (by rw [List.getD_eq_getElem?_getD, List.getElem?_eq_getElem (by omega : 0 < n.cars.length)]; exact hC.int (j := 0) (by omega))) ?_
      refine XO.callp rfl rfl en46 (pickR_any _ 8 _ (getD64 hn.cars) (by decide)) ⟨rfl, rfl, trivial⟩ ?_
      refine XO.rd rfl rfl rfl (Reads.assign rfl) ?_
      refine XO.nil ?_
      refine XQ.joined (pickI (n.cars.getD 0 0) 8) hc0 ⟨rfl, rfl, rfl, rfl, rfl, trivial⟩ rfl (List.Perm.refl _)
    · skip
      simp only [cmpInt, decide_eq_false_iff_not] at h1
      have hc0 : (0 : Int) = n.car 0 := by rw [Num.car, if_neg (by omega)]
      refine XC.skip ?_
      refine XQ.joined 0 hc0 ⟨rfl, rfl, rfl, rfl, rfl, trivial⟩ rfl (List.Perm.refl _)
  · skip
    subst hq
    refine XQ.then_normal ?_
    refine XC.seq ?_
    refine XC.join (ι := Im × Option Addr × Nat × Nat) (fun q => [(1, .pointer (some ⟨b1, 0, none⟩)), (2, .pointer (some ⟨b2, 0, none⟩)), (3, .slice ak allK.length ck), (4, .slice aw n.knows.length cw), (5, .int .i64 (n.car 0)), (6, .pointer (some ⟨q.2.2.2, 0, none⟩))]) (fun q => q.1) (fun q => some (q.2.2.2, .cells ((n.madeN 0).cs q.2.1 q.2.2.1).toArray 37 (0, 0)) :: some (b2, .cells #[.int .i64 0, .int .i64 0, .int .i64 0, .int .i64 0, .slice none 0 0] 37 (0, 0)) :: some (b1, .cells (n.cs a cap).toArray 26 (0, 0)) :: ([] ++ Lf)) (fun q => I.le q.1 ∧ Arr q.1 a n.cars ∧ Arr q.1 ak allK ∧ Arr q.1 aw n.knows ∧ (n.madeN 0).hs.length ≤ q.2.2.1 ∧ Arr q.1 q.2.1 (n.madeN 0).hs) ?_ (fun q hq => ?_)
    · skip
      refine XC.draw m_mixed none (.pure 0 (.pure 1 (.pure 2 (.pure 3 (.pure 4 (.pure 5 (.pure 7 (.pure 8 (.pure 9 (.alt 6 (.alt 10 (.alt 11 (.pure 12 (.pure 13 (.pure 14 (.eff 15 (.eff 16 (.pure 17 (.done))))))) (.eff 15 (.eff 11 (.pure 12 (.pure 13 (.pure 14 (.eff 16 (.pure 17 (.done))))))))) (.eff 15 (.eff 10 (.eff 11 (.pure 12 (.pure 13 (.pure 14 (.eff 16 (.pure 17 (.done)))))))))) (.eff 15 (.eff 6 (.eff 10 (.eff 11 (.pure 12 (.pure 13 (.pure 14 (.eff 16 (.pure 17 (.done)))))))))))))))))))) _ (by kernel_rfl) (List.Sublist.refl _) ?_
      refine XR.rd rfl rfl rfl (Reads.move rfl) ?_
      refine XR.rd rfl rfl rfl (Reads.move rfl) ?_
      refine XR.rd rfl rfl rfl (Reads.index_slot (q := (n.car 0).toNat) Tryd.underlying29 z9 rfl rfl (by rw [allK_len]; omega) (hK.isSome (by decide) (by rw [allK_len]; omega)) (by omega)) ?_
      refine XR.rd rfl rfl rfl (Reads.load_at (v := .string (keyC (n.car 0).toNat)) k9 rfl (by rw [← allK_get (i := (n.car 0).toNat) (by omega)]; exact hK.str_at (by rw [allK_len]; omega) rfl)) ?_
      refine XR.rd rfl rfl rfl (fa26_0 rfl) ?_
      refine XR.rd rfl rfl rfl (Reads.load_agg_own (vs := [.int .i64 n.d0, .int .i64 n.d1, .int .i64 n.d2, .int .i64 n.d3]) k22 z22 rfl (fun j v hj => OwnAt.of 1 rfl (num_dial hj))) ?_
      refine XR.rd rfl rfl rfl (Reads.move rfl) ?_
      refine XR.rd rfl rfl rfl (fa26_1 rfl) ?_
      refine XR.rd rfl rfl rfl (Reads.load_own (v := .int .i64 n.lv) k3 rfl (by first | exact OwnAt.of 0 rfl rfl | exact OwnAt.of 1 rfl rfl | exact OwnAt.of 2 rfl rfl)) ?_
      refine XR.alt ?_ ?_
      · skip
        refine XR.callp rfl rfl rfl en37 (dial_any _ _ _ _ _ hn.d0 hn.d1 hn.d2 hn.d3) ⟨rfl, trivial⟩ (List.Sublist.refl _) ?_
        refine XR.alt ?_ ?_
        · skip
          refine XR.callp rfl rfl rfl en46 (pickR_any _ 4 _ hn.lv (by decide)) ⟨rfl, rfl, trivial⟩ (List.Sublist.refl _) ?_
          refine XR.alt ?_ ?_
          · skip
            refine XR.call rfl rfl rfl en39 (rbegin_any (keyC (n.car 0).toNat) n.dial (n.car 0) (pickI n.lv 4) _) ⟨rfl, rfl, rfl, rfl, trivial⟩ (List.Sublist.refl _) ?_
            rintro u J8 hle8 hr
            replace hI := Im.le_trans hI hle8
            replace hC := hC.mono hle8
            replace hK := hK.mono hle8
            replace hKn := hKn.mono hle8
            rw [n.madeN_begin] at hr
            obtain ⟨v9, e9, rfl, hy9, _⟩ := hr
            obtain ⟨rfl, a0, c0, rfl, hcp0, hA0⟩ := hy9 _ rfl
            refine XR.rd rfl rfl rfl (Reads.move rfl) ?_
            refine XR.rd rfl rfl rfl (Reads.extract rfl rfl) ?_
            refine XR.rd rfl rfl rfl (Reads.extract rfl rfl) ?_
            refine XR.alloc (cs := #[.int .i64 0, .int .i64 0, .int .i64 0, .int .i64 0, .slice none 0 0]) rfl rfl rfl zo37 rfl (List.Sublist.refl _) (fun b6 => ?_)
            refine XR.store_agg (vs := (n.madeN 0).cs a0 c0) 0 rfl rfl z37 rfl rfl (by simp [Value.oneCell']) rfl (by simp) (.inr (List.Sublist.cons _ (List.Sublist.refl _))) ?_
            refine XR.rd rfl rfl rfl (Reads.assign rfl) ?_
            refine XR.nil ?_
            refine XQ.joined (_, a0, c0, b6) ⟨hI, hC, hK, hKn, hcp0, hA0⟩ ⟨rfl, rfl, rfl, rfl, rfl, rfl, trivial⟩ rfl (List.Perm.refl _)
          · skip
            refine XR.alloc (cs := #[.int .i64 0, .int .i64 0, .int .i64 0, .int .i64 0, .slice none 0 0]) rfl rfl rfl zo37 rfl (List.Sublist.refl _) (fun b6 => ?_)
            refine XR.call rfl rfl rfl en39 (rbegin_any (keyC (n.car 0).toNat) n.dial (n.car 0) (pickI n.lv 4) _) ⟨rfl, rfl, rfl, rfl, trivial⟩ (List.Sublist.cons _ (List.Sublist.refl _)) ?_
            rintro u J9 hle9 hr
            replace hI := Im.le_trans hI hle9
            replace hC := hC.mono hle9
            replace hK := hK.mono hle9
            replace hKn := hKn.mono hle9
            rw [n.madeN_begin] at hr
            obtain ⟨v9, e9, rfl, hy9, _⟩ := hr
            obtain ⟨rfl, a0, c0, rfl, hcp0, hA0⟩ := hy9 _ rfl
            refine XR.rd rfl rfl rfl (Reads.move rfl) ?_
            refine XR.rd rfl rfl rfl (Reads.extract rfl rfl) ?_
            refine XR.rd rfl rfl rfl (Reads.extract rfl rfl) ?_
            refine XR.store_agg (vs := (n.madeN 0).cs a0 c0) 0 rfl rfl z37 rfl rfl (by simp [Value.oneCell']) rfl (by simp) (.inr (List.Sublist.cons _ (List.Sublist.refl _))) ?_
            refine XR.rd rfl rfl rfl (Reads.assign rfl) ?_
            refine XR.nil ?_
            refine XQ.joined (_, a0, c0, b6) ⟨hI, hC, hK, hKn, hcp0, hA0⟩ ⟨rfl, rfl, rfl, rfl, rfl, rfl, trivial⟩ rfl (List.Perm.refl _)
        · skip
          refine XR.alloc (cs := #[.int .i64 0, .int .i64 0, .int .i64 0, .int .i64 0, .slice none 0 0]) rfl rfl rfl zo37 rfl (List.Sublist.refl _) (fun b6 => ?_)
          refine XR.callp rfl rfl rfl en46 (pickR_any _ 4 _ hn.lv (by decide)) ⟨rfl, rfl, trivial⟩ (List.Sublist.cons _ (List.Sublist.refl _)) ?_
          refine XR.call rfl rfl rfl en39 (rbegin_any (keyC (n.car 0).toNat) n.dial (n.car 0) (pickI n.lv 4) _) ⟨rfl, rfl, rfl, rfl, trivial⟩ (List.Sublist.cons _ (List.Sublist.refl _)) ?_
          rintro u J10 hle10 hr
          replace hI := Im.le_trans hI hle10
          replace hC := hC.mono hle10
          replace hK := hK.mono hle10
          replace hKn := hKn.mono hle10
          rw [n.madeN_begin] at hr
          obtain ⟨v9, e9, rfl, hy9, _⟩ := hr
          obtain ⟨rfl, a0, c0, rfl, hcp0, hA0⟩ := hy9 _ rfl
          refine XR.rd rfl rfl rfl (Reads.move rfl) ?_
          refine XR.rd rfl rfl rfl (Reads.extract rfl rfl) ?_
          refine XR.rd rfl rfl rfl (Reads.extract rfl rfl) ?_
          refine XR.store_agg (vs := (n.madeN 0).cs a0 c0) 0 rfl rfl z37 rfl rfl (by simp [Value.oneCell']) rfl (by simp) (.inr (List.Sublist.cons _ (List.Sublist.refl _))) ?_
          refine XR.rd rfl rfl rfl (Reads.assign rfl) ?_
          refine XR.nil ?_
          refine XQ.joined (_, a0, c0, b6) ⟨hI, hC, hK, hKn, hcp0, hA0⟩ ⟨rfl, rfl, rfl, rfl, rfl, rfl, trivial⟩ rfl (List.Perm.refl _)
      · skip
        refine XR.alloc (cs := #[.int .i64 0, .int .i64 0, .int .i64 0, .int .i64 0, .slice none 0 0]) rfl rfl rfl zo37 rfl (List.Sublist.refl _) (fun b6 => ?_)
        refine XR.callp rfl rfl rfl en37 (dial_any _ _ _ _ _ hn.d0 hn.d1 hn.d2 hn.d3) ⟨rfl, trivial⟩ (List.Sublist.cons _ (List.Sublist.refl _)) ?_
        refine XR.callp rfl rfl rfl en46 (pickR_any _ 4 _ hn.lv (by decide)) ⟨rfl, rfl, trivial⟩ (List.Sublist.cons _ (List.Sublist.refl _)) ?_
        refine XR.call rfl rfl rfl en39 (rbegin_any (keyC (n.car 0).toNat) n.dial (n.car 0) (pickI n.lv 4) _) ⟨rfl, rfl, rfl, rfl, trivial⟩ (List.Sublist.cons _ (List.Sublist.refl _)) ?_
        rintro u J11 hle11 hr
        replace hI := Im.le_trans hI hle11
        replace hC := hC.mono hle11
        replace hK := hK.mono hle11
        replace hKn := hKn.mono hle11
        rw [n.madeN_begin] at hr
        obtain ⟨v9, e9, rfl, hy9, _⟩ := hr
        obtain ⟨rfl, a0, c0, rfl, hcp0, hA0⟩ := hy9 _ rfl
        refine XR.rd rfl rfl rfl (Reads.move rfl) ?_
        refine XR.rd rfl rfl rfl (Reads.extract rfl rfl) ?_
        refine XR.rd rfl rfl rfl (Reads.extract rfl rfl) ?_
        refine XR.store_agg (vs := (n.madeN 0).cs a0 c0) 0 rfl rfl z37 rfl rfl (by simp [Value.oneCell']) rfl (by simp) (.inr (List.Sublist.cons _ (List.Sublist.refl _))) ?_
        refine XR.rd rfl rfl rfl (Reads.assign rfl) ?_
        refine XR.nil ?_
        refine XQ.joined (_, a0, c0, b6) ⟨hI, hC, hK, hKn, hcp0, hA0⟩ ⟨rfl, rfl, rfl, rfl, rfl, rfl, trivial⟩ rfl (List.Perm.refl _)
    · skip
      obtain ⟨M0, a0, c0, b6⟩ := q
      obtain ⟨hI, hC, hK, hKn, hcp0, hA0⟩ := hq
      simp only at hI hC hK hKn hcp0 hA0 ⊢
      refine XQ.then_normal ?_
      refine XC.seq ?_
      refine XC.seq ?_
      refine XC.region ?_
      refine XO.rd rfl rfl rfl (Reads.assign rfl) ?_
      refine XO.nil ?_
      refine XQ.then_normal ?_
      refine XC.block ?_
      refine XC.loop (ι := Nat × Im × Option Addr × Nat) (fun q => [(1, .pointer (some ⟨b1, 0, none⟩)), (2, .pointer (some ⟨b2, 0, none⟩)), (3, .slice ak allK.length ck), (4, .slice aw n.knows.length cw), (5, .int .i64 (n.car q.1)), (6, .pointer (some ⟨b6, 0, none⟩)), (8, .int .i64 ((q.1 : Int) + 1))]) (fun q => q.2.1) (fun q => some (b6, .cells ((n.madeN q.1).cs q.2.2.1 q.2.2.2).toArray 37 (0, 0)) :: some (b2, .cells #[.int .i64 0, .int .i64 0, .int .i64 0, .int .i64 0, .slice none 0 0] 37 (0, 0)) :: some (b1, .cells (n.cs a cap).toArray 26 (0, 0)) :: ([] ++ Lf)) (fun q => I.le q.2.1 ∧ Arr q.2.1 a n.cars ∧ Arr q.2.1 ak allK ∧ Arr q.2.1 aw n.knows ∧ (n.madeN q.1).hs.length ≤ q.2.2.2 ∧ Arr q.2.1 q.2.2.1 (n.madeN q.1).hs ∧ q.1 ≤ 5 ∧ (q.1 = 0 ∨ q.1 < n.cars.length)) (fun q => 5 - q.1) (0, M0, a0, c0) ⟨hI, hC, hK, hKn, hcp0, hA0, Nat.zero_le _, .inl rfl⟩ ⟨rfl, rfl, rfl, rfl, rfl, rfl, rfl, trivial⟩ rfl (List.Perm.refl _) (fun q hq => ?_)
      obtain ⟨i, J, aq, cq⟩ := q
      obtain ⟨hI, hC, hK, hKn, hcq, hAq, hi5, hi0⟩ := hq
      simp only at hI hC hK hKn hcq hAq hi5 hi0 ⊢
      have hri := n.car_range i
      have hri1 := n.car_range (i + 1)
      have hp7 := pickI_range (c := n.cars.getD (i + 1) 0) (n := 7) (by decide)
      refine XC.seq ?_
      refine XC.seq ?_
      refine XC.region ?_
      refine XO.rd rfl rfl rfl (Reads.move rfl) ?_
      refine XO.rd rfl rfl rfl (fa26_2 rfl) ?_
      refine XO.rd rfl rfl rfl (Reads.load_own (v := .slice a n.cars.length cap) k23 rfl (by first | exact OwnAt.of 0 rfl rfl | exact OwnAt.of 1 rfl rfl | exact OwnAt.of 2 rfl rfl | exact OwnAt.of 3 rfl rfl | exact OwnAt.of 4 rfl rfl)) ?_
      refine XO.rd rfl rfl rfl (Reads.len_slice Tryd.underlying23 rfl) ?_
      refine XO.rd rfl rfl rfl (Reads.cmp rfl rfl rfl) ?_
      refine XO.rd rfl rfl rfl (Reads.move rfl) ?_
      refine XO.split (d := 41) rfl (fun h2 => ?_) (fun h2 => ?_)
      · skip
        simp only [cmpInt, decide_eq_true_eq] at h2
        have hm1 : i + 1 < n.cars.length := by omega
        refine XO.rd (wg rfl rfl rfl) rfl rfl (Reads.move rfl) ?_
        refine XO.rd (wg rfl rfl rfl) rfl rfl (Reads.cmp rfl rfl rfl) ?_
        refine XO.rd rfl rfl rfl (Reads.pick_true rfl rfl) ?_
        refine XO.nil ?_
        refine XQ.then_normal ?_
        refine XC.cond rfl (fun h3 => ?_) (fun h3 => ?_)
        · skip
          simp only [cmpInt, decide_eq_true_eq] at h3
          have hi6 : i + 1 < 6 := by omega
          refine XC.skip ?_
          refine XQ.then_normal ?_
          refine XC.seq ?_
          refine XC.block ?_
          refine XC.seq ?_
          refine XC.region ?_
          refine XO.rd rfl rfl rfl (Reads.move rfl) ?_
          refine XO.rd rfl rfl rfl (Reads.add rfl rfl (by omega)) ?_
          refine XO.rd rfl rfl rfl (fa26_2 rfl) ?_
          refine XO.rd rfl rfl rfl (Reads.load_own (v := .slice a n.cars.length cap) k23 rfl (by first | exact OwnAt.of 0 rfl rfl | exact OwnAt.of 1 rfl rfl | exact OwnAt.of 2 rfl rfl | exact OwnAt.of 3 rfl rfl | exact OwnAt.of 4 rfl rfl)) ?_
          refine XO.rd rfl rfl rfl (Reads.move rfl) ?_
          refine XO.rd rfl rfl rfl (Reads.index_slot (q := i + 1) Tryd.underlying23 z3 rfl rfl (by omega) (hC.isSome (by decide) (by omega)) (by omega)) ?_
          refine XO.rd rfl rfl rfl (Reads.load_at (v := .int .i64 (n.cars.getD (i + 1) 0)) k3 rfl (by rw [List.getD_eq_getElem?_getD, List.getElem?_eq_getElem (by omega : i + 1 < n.cars.length)]; have h9 := hC.int (j := i + 1) (by omega); rw [Nat.mul_one] at h9; exact h9)) ?_
          refine XO.callp rfl rfl en46 (pickR_any _ 7 _ (getD64 hn.cars) (by decide)) ⟨rfl, rfl, trivial⟩ ?_
          refine XO.rd rfl rfl rfl (Reads.add rfl rfl (by omega)) ?_
          refine XO.rd rfl rfl rfl (Reads.rem rfl rfl (by omega) (by decide)) ?_
          rw [show (n.car i + 1 + pickI (n.cars.getD (i + 1) 0) 7) % 8 = n.car (i + 1) from rfl]
          refine XO.rd rfl rfl rfl (Reads.assign rfl) ?_
          refine XO.nil ?_
          refine XQ.then_normal ?_
          refine XC.draw m_mixed none (.pure 0 (.pure 1 (.pure 2 (.pure 3 (.pure 4 (.pure 5 (.pure 6 (.pure 7 (.pure 8 (.pure 11 (.alt 9 (.eff 10 (.eff 12 (.pure 13 (.pure 14 (.pure 15 (.eff 16 (.done))))))) (.eff 10 (.eff 9 (.eff 12 (.pure 13 (.pure 14 (.pure 15 (.eff 16 (.done))))))))))))))))))) _ (by kernel_rfl) (List.Sublist.cons _ (List.Sublist.refl _)) ?_
          refine XR.rd rfl rfl rfl (Reads.move rfl) ?_
          refine XR.rd rfl rfl rfl (Reads.move rfl) ?_
          refine XR.rd rfl rfl rfl (Reads.index_slot (q := (n.car (i + 1)).toNat) Tryd.underlying29 z9 rfl rfl (by rw [allK_len]; omega) (hK.isSome (by decide) (by rw [allK_len]; omega)) (by omega)) ?_
          refine XR.rd rfl rfl rfl (Reads.load_at (v := .string (keyC (n.car (i + 1)).toNat)) k9 rfl (by rw [← allK_get (i := (n.car (i + 1)).toNat) (by omega)]; exact hK.str_at (by rw [allK_len]; omega) rfl)) ?_
          refine XR.rd rfl rfl rfl (Reads.move rfl) ?_
          refine XR.rd rfl rfl rfl (Reads.move rfl) ?_
          refine XR.rd rfl rfl rfl (Reads.move rfl) ?_
          refine XR.rd rfl rfl rfl (Reads.index_slot (q := (n.car (i + 1)).toNat) Tryd.underlying23 z3 rfl rfl (by rw [n.knows_len]; omega) (hKn.isSome (by decide) (by rw [n.knows_len]; omega)) (by omega)) ?_
          refine XR.rd rfl rfl rfl (Reads.load_at (v := .int .i64 (n.set (n.car (i + 1)) : Int)) k3 rfl (by rw [num_set n (n.car_range (i + 1))]; have h9 := hKn.int (j := (n.car (i + 1)).toNat) (by rw [n.knows_len]; omega); rw [Nat.mul_one] at h9; exact h9)) ?_
          refine XR.rd rfl rfl rfl (Reads.move rfl) ?_
          refine XR.alt ?_ ?_
          · skip
            refine XR.call rfl rfl rfl en14 (known_any ak ck allK (n.set (n.car (i + 1))) _ hK (by rw [allK_len]; decide)) ⟨rfl, rfl, trivial⟩ (List.Sublist.cons _ (List.Sublist.refl _)) ?_
            rintro u J12 hle12 hr
            replace hI := Im.le_trans hI hle12
            replace hC := hC.mono hle12
            replace hK := hK.mono hle12
            replace hKn := hKn.mono hle12
            replace hAq := hAq.mono hle12
            obtain ⟨ks, cks, rfl, hcks, hKs⟩ := hr.ex
            refine XR.rde rfl rfl rfl rfl (Reads.load_whole (c := ((n.madeN i).cs aq cq).toArray) k37 z37 rfl (WholeAt.of 0 rfl) (by rfl)) (List.Sublist.cons _ (List.Sublist.refl _)) ?_
            refine XR.call rfl rfl rfl en41 (rpass_any (keyC (n.car (i + 1)).toNat) (n.madeN i) aq ks cq cks (known allK (n.set (n.car (i + 1)))) (n.car (i + 1)) _ hAq (by rw [n.madeN_len]; omega) hKs (by rw [known_len, allK_len]; decide)) ⟨rfl, rfl, rfl, rfl, trivial⟩ (List.Sublist.cons _ (List.Sublist.refl _)) ?_
            rintro u J13 hle13 hr
            replace hI := Im.le_trans hI hle13
            replace hC := hC.mono hle13
            replace hK := hK.mono hle13
            replace hKn := hKn.mono hle13
            replace hAq := hAq.mono hle13
            replace hKs := hKs.mono hle13
            rw [n.madeN_pass (by omega)] at hr
            obtain ⟨v9, e9, rfl, hy9, _⟩ := hr
            obtain ⟨rfl, a1, c1, rfl, hcp1, hA1⟩ := hy9 _ rfl
            refine XR.rd rfl rfl rfl (Reads.move rfl) ?_
            refine XR.rd rfl rfl rfl (Reads.extract rfl rfl) ?_
            refine XR.rd rfl rfl rfl (Reads.extract rfl rfl) ?_
            refine XR.store_agg (vs := (n.madeN (i + 1)).cs a1 c1) 0 rfl rfl z37 rfl rfl (by simp [Value.oneCell']) rfl (by simp) (.inr (List.Sublist.cons _ (List.Sublist.refl _))) ?_
            refine XR.nil ?_
            refine XQ.block_normal ?_
            refine XQ.then_normal ?_
            refine XC.region ?_
            refine XO.rd rfl rfl rfl (Reads.move rfl) ?_
            refine XO.rd rfl rfl rfl (Reads.add rfl rfl (by omega)) ?_
            refine XO.rd rfl rfl rfl (Reads.assign rfl) ?_
            refine XO.nil ?_
            refine XQ.back (i + 1, _, a1, c1) ⟨hI, hC, hK, hKn, hcp1, hA1, by simp only; omega, .inr (by simp only; omega)⟩ (by simp only; omega) ⟨rfl, rfl, rfl, rfl, rfl, rfl, rfl, trivial⟩ rfl (List.Perm.refl _)
          · skip
            refine XR.rde rfl rfl rfl rfl (Reads.load_whole (c := ((n.madeN i).cs aq cq).toArray) k37 z37 rfl (WholeAt.of 0 rfl) (by rfl)) (List.Sublist.cons _ (List.Sublist.refl _)) ?_
            refine XR.call rfl rfl rfl en14 (known_any ak ck allK (n.set (n.car (i + 1))) _ hK (by rw [allK_len]; decide)) ⟨rfl, rfl, trivial⟩ (List.Sublist.cons _ (List.Sublist.refl _)) ?_
            rintro u J14 hle14 hr
            replace hI := Im.le_trans hI hle14
            replace hC := hC.mono hle14
            replace hK := hK.mono hle14
            replace hKn := hKn.mono hle14
            replace hAq := hAq.mono hle14
            obtain ⟨ks, cks, rfl, hcks, hKs⟩ := hr.ex
            refine XR.call rfl rfl rfl en41 (rpass_any (keyC (n.car (i + 1)).toNat) (n.madeN i) aq ks cq cks (known allK (n.set (n.car (i + 1)))) (n.car (i + 1)) _ hAq (by rw [n.madeN_len]; omega) hKs (by rw [known_len, allK_len]; decide)) ⟨rfl, rfl, rfl, rfl, trivial⟩ (List.Sublist.cons _ (List.Sublist.refl _)) ?_
            rintro u J15 hle15 hr
            replace hI := Im.le_trans hI hle15
            replace hC := hC.mono hle15
            replace hK := hK.mono hle15
            replace hKn := hKn.mono hle15
            replace hAq := hAq.mono hle15
            replace hKs := hKs.mono hle15
            rw [n.madeN_pass (by omega)] at hr
            obtain ⟨v9, e9, rfl, hy9, _⟩ := hr
            obtain ⟨rfl, a1, c1, rfl, hcp1, hA1⟩ := hy9 _ rfl
            refine XR.rd rfl rfl rfl (Reads.move rfl) ?_
            refine XR.rd rfl rfl rfl (Reads.extract rfl rfl) ?_
            refine XR.rd rfl rfl rfl (Reads.extract rfl rfl) ?_
            refine XR.store_agg (vs := (n.madeN (i + 1)).cs a1 c1) 0 rfl rfl z37 rfl rfl (by simp [Value.oneCell']) rfl (by simp) (.inr (List.Sublist.cons _ (List.Sublist.refl _))) ?_
            refine XR.nil ?_
            refine XQ.block_normal ?_
            refine XQ.then_normal ?_
            refine XC.region ?_
            refine XO.rd rfl rfl rfl (Reads.move rfl) ?_
            refine XO.rd rfl rfl rfl (Reads.add rfl rfl (by omega)) ?_
            refine XO.rd rfl rfl rfl (Reads.assign rfl) ?_
            refine XO.nil ?_
            refine XQ.back (i + 1, _, a1, c1) ⟨hI, hC, hK, hKn, hcp1, hA1, by simp only; omega, .inr (by simp only; omega)⟩ (by simp only; omega) ⟨rfl, rfl, rfl, rfl, rfl, rfl, rfl, trivial⟩ rfl (List.Perm.refl _)
        · skip
          simp only [cmpInt, decide_eq_false_iff_not] at h3
          have hi6 : ¬ i + 1 < 6 := by omega
          refine XC.exit ?_
          refine XQ.then_exit ?_
          refine XQ.then_exit ?_
          refine XQ.block_exit ?_
          refine XQ.then_normal ?_
          refine XC.seq ?_
          refine XC.region ?_
          refine XO.rd rfl rfl rfl (Reads.load_whole k37 z37 rfl (by first | exact WholeAt.of 0 rfl | exact WholeAt.of 1 rfl | exact WholeAt.of 2 rfl | exact WholeAt.of 3 rfl | exact WholeAt.of 4 rfl | exact WholeAt.of 5 rfl) (by rfl)) ?_
          refine XO.store_agg (vs := (n.madeN i).cs aq cq) 1 rfl z37 rfl rfl (by simp [Value.oneCell']) rfl (by simp) ?_
          refine XO.nil ?_
          refine XQ.then_normal ?_
          refine XC.ret ?_
          refine XQ.done1ca [] 3 rfl k37 z37 rfl (WholeAt.of 1 rfl) rfl rfl hI ?_
          exact ⟨rfl, aq, cq, by rw [Num.made, show n.cnt = i by unfold Num.cnt; omega]; rfl, by rw [Num.made, show n.cnt = i by unfold Num.cnt; omega]; exact hcq, by rw [Num.made, show n.cnt = i by unfold Num.cnt; omega]; exact hAq⟩
      · skip
        simp only [cmpInt, decide_eq_false_iff_not] at h2
        have hm2 : ¬ i + 1 < n.cars.length := by omega
        refine XO.s (wg rfl rfl rfl) rfl ?_
        refine XO.s (wg rfl rfl rfl) rfl ?_
        refine XO.rd rfl rfl rfl (Reads.pick_false rfl rfl) ?_
        refine XO.nil ?_
        refine XQ.then_normal ?_
        refine XC.cond rfl (fun hx => by cases hx) (fun _ => ?_)
        refine XC.exit ?_
        refine XQ.then_exit ?_
        refine XQ.then_exit ?_
        refine XQ.block_exit ?_
        refine XQ.then_normal ?_
        refine XC.seq ?_
        refine XC.region ?_
        refine XO.rd rfl rfl rfl (Reads.load_whole k37 z37 rfl (by first | exact WholeAt.of 0 rfl | exact WholeAt.of 1 rfl | exact WholeAt.of 2 rfl | exact WholeAt.of 3 rfl | exact WholeAt.of 4 rfl | exact WholeAt.of 5 rfl) (by rfl)) ?_
        refine XO.store_agg (vs := (n.madeN i).cs aq cq) 1 rfl z37 rfl rfl (by simp [Value.oneCell']) rfl (by simp) ?_
        refine XO.nil ?_
        refine XQ.then_normal ?_
        refine XC.ret ?_
        refine XQ.done1ca [] 3 rfl k37 z37 rfl (WholeAt.of 1 rfl) rfl rfl hI ?_
        exact ⟨rfl, aq, cq, by rw [Num.made, show n.cnt = i by unfold Num.cnt; omega]; rfl, by rw [Num.made, show n.cnt = i by unfold Num.cnt; omega]; exact hcq, by rw [Num.made, show n.cnt = i by unfold Num.cnt; omega]; exact hAq⟩

end Go.Proofs.YtmlliafhpbfdbaaDoor
namespace Go.Proofs.YtmlliafhpbfdbaaDoor
open Go.Xe Go.Sh Go Go.At

set_option maxHeartbeats 3200000 in
theorem bent_any (x : Att) (a : Option Addr) (cap : Nat) (how n at_ : Int) (I : Im) (hA : Arr I a x.hs) (h0 : 0 < x.hs.length) (h1 : x.hs.length ≤ 1000) (hhow : In64 how) (hn : In64 n) (hat : In64 at_) : FC Tryd.prog 17 [.agg (x.cs a cap).toArray, .int .i64 how, .int .i64 n, .int .i64 at_] I (fun u I' => AttV I' u (bent x how n at_)) := by
  have hI := Im.le_refl I
  obtain ⟨ncs, hnf, hnw⟩ := News.arr (P := Tryd.prog) (tx := 35) (c := cap) Tryd.underlying35 (hA)
  have hne := flat_hand_eq hnf
  subst hne
  refine FSo.intro (n := 104) Tryd.func17 rfl rfl rfl (fun K Lf => ?_)
  refine XC.seq ?_
  refine XC.region ?_
  refine XO.box_agg rfl rfl rfl (fun b4 => ?_)
  refine XO.alloc (cs := #[.int .i64 0, .int .i64 0, .int .i64 0, .int .i64 0, .slice none 0 0]) rfl rfl zo37 rfl (fun b8 => ?_)
  refine XO.nil ?_
  refine XQ.then_normal ?_
  refine XC.seq ?_
  refine XC.join (ι := Vec × Nat) (fun q => [(1, .int .i64 how), (2, .int .i64 n), (3, .int .i64 at_), (8, .pointer (some ⟨b8, 0, none⟩)), (9, .pointer (some ⟨q.2, 0, none⟩))]) (fun q => I) (fun q => q.1.ent 53 :: some (q.2, .cells #[.int .i64 x.d.a, .int .i64 x.d.b, .int .i64 x.d.t, .int .i64 x.d.n, q.1.val] 37 (0, 0)) :: some (b8, .cells #[.int .i64 0, .int .i64 0, .int .i64 0, .int .i64 0, .slice none 0 0] 37 (0, 0)) :: some (b4, .cells (x.cs a cap).toArray 37 (0, 0)) :: ([] ++ Lf)) (fun q => q.1.Is 3 (handC x.hs)) ?_ (fun q hq => ?_)
  · skip
    refine XC.draw m_mixed (some 8) (.pure 0 (.pure 1 (.pure 3 (.pure 4 (.alt 2 (.alt 5 (.pure 6 (.eff 7 (.eff 8 (.done)))) (.eff 7 (.eff 5 (.pure 6 (.eff 8 (.done)))))) (.eff 7 (.eff 2 (.eff 5 (.pure 6 (.eff 8 (.done))))))))))) _ (by kernel_rfl) (List.Sublist.refl _) ?_
    refine XR.rd rfl rfl rfl (fa37_0 rfl) ?_
    refine XR.rd rfl rfl rfl (Reads.load_agg_own (vs := x.d.cs) k34 z34 rfl (fun j v hj => OwnAt.of 1 rfl (by rw [Nat.zero_add]; exact dial_at x a cap hj))) ?_
    refine XR.rd rfl rfl rfl (fa37_1 rfl) ?_
    refine XR.rd rfl rfl rfl (Reads.load_own k35 rfl (by first | exact OwnAt.of 0 rfl rfl | exact OwnAt.of 1 rfl rfl | exact OwnAt.of 2 rfl rfl | exact OwnAt.of 3 rfl rfl | exact OwnAt.of 4 rfl rfl | exact OwnAt.of 5 rfl rfl)) ?_
    refine XR.alt ?_ ?_
    · skip
      refine XR.buildL [] [] rfl rfl rfl Tryd.underlying35 el53 rfl (by simp) trivial rfl rfl (List.Sublist.refl _) (fun b13 => ?_)
      refine XR.alt ?_ ?_
      · skip
        refine XR.append (V := ⟨some (b13, #[]), 0, 0⟩) 0 rfl rfl rfl Tryd.underlying35 el53 rfl rfl (vec_zero b13 3) rfl (hnw _) (by simp only; omega) (by simp only; omega) ?_
        intro V1 hV1 _
        refine ⟨.inr (List.Sublist.cons _ (List.Sublist.refl _)), ?_⟩
        refine XR.rd rfl rfl rfl (bd37v x.d V1.val ⟨_, _, _, rfl⟩ ⟨rfl, rfl, rfl, rfl, trivial⟩) ?_
        refine XR.alloc (cs := #[.int .i64 0, .int .i64 0, .int .i64 0, .int .i64 0, .slice none 0 0]) rfl rfl rfl zo37 rfl (List.Sublist.cons _ (List.Sublist.refl _)) (fun b9 => ?_)
        refine XR.store_agg (vs := [.int .i64 x.d.a, .int .i64 x.d.b, .int .i64 x.d.t, .int .i64 x.d.n, V1.val]) 0 rfl rfl z37 rfl rfl (by simp [Value.oneCell']) rfl (by simp) (.inr (List.Sublist.cons _ (List.Sublist.cons _ (List.Sublist.refl _)))) ?_
        refine XR.nil ?_
        refine XQ.perm (perm_take [1]) ?_
        refine XQ.joined (V1, b9) (by simpa using hV1) ⟨rfl, rfl, rfl, rfl, rfl, trivial⟩ rfl (List.Perm.refl _)
      · skip
        refine XR.alloc (cs := #[.int .i64 0, .int .i64 0, .int .i64 0, .int .i64 0, .slice none 0 0]) rfl rfl rfl zo37 rfl (List.Sublist.cons _ (List.Sublist.refl _)) (fun b9 => ?_)
        refine XR.append (V := ⟨some (b13, #[]), 0, 0⟩) 1 rfl rfl rfl Tryd.underlying35 el53 rfl rfl (vec_zero b13 3) rfl (hnw _) (by simp only; omega) (by simp only; omega) ?_
        intro V1 hV1 _
        refine ⟨.inr (List.Sublist.cons _ (List.Sublist.cons _ (List.Sublist.refl _))), ?_⟩
        refine XR.rd rfl rfl rfl (bd37v x.d V1.val ⟨_, _, _, rfl⟩ ⟨rfl, rfl, rfl, rfl, trivial⟩) ?_
        refine XR.store_agg (vs := [.int .i64 x.d.a, .int .i64 x.d.b, .int .i64 x.d.t, .int .i64 x.d.n, V1.val]) 0 rfl rfl z37 rfl rfl (by simp [Value.oneCell']) rfl (by simp) (.inr (List.Sublist.cons _ (List.Sublist.cons _ (List.Sublist.refl _)))) ?_
        refine XR.nil ?_
        refine XQ.perm (perm_take [1]) ?_
        refine XQ.joined (V1, b9) (by simpa using hV1) ⟨rfl, rfl, rfl, rfl, rfl, trivial⟩ rfl (List.Perm.refl _)
    · skip
      refine XR.alloc (cs := #[.int .i64 0, .int .i64 0, .int .i64 0, .int .i64 0, .slice none 0 0]) rfl rfl rfl zo37 rfl (List.Sublist.refl _) (fun b9 => ?_)
      refine XR.buildL [] [] rfl rfl rfl Tryd.underlying35 el53 rfl (by simp) trivial rfl rfl (List.Sublist.cons _ (List.Sublist.refl _)) (fun b13 => ?_)
      refine XR.append (V := ⟨some (b13, #[]), 0, 0⟩) 0 rfl rfl rfl Tryd.underlying35 el53 rfl rfl (vec_zero b13 3) rfl (hnw _) (by simp only; omega) (by simp only; omega) ?_
      intro V1 hV1 _
      refine ⟨.inr (List.Sublist.cons _ (List.Sublist.cons _ (List.Sublist.refl _))), ?_⟩
      refine XR.rd rfl rfl rfl (bd37v x.d V1.val ⟨_, _, _, rfl⟩ ⟨rfl, rfl, rfl, rfl, trivial⟩) ?_
      refine XR.store_agg (vs := [.int .i64 x.d.a, .int .i64 x.d.b, .int .i64 x.d.t, .int .i64 x.d.n, V1.val]) 1 rfl rfl z37 rfl rfl (by simp [Value.oneCell']) rfl (by simp) (.inr (List.Sublist.cons _ (List.Sublist.cons _ (List.Sublist.refl _)))) ?_
      refine XR.nil ?_
      refine XQ.joined (V1, b9) (by simpa using hV1) ⟨rfl, rfl, rfl, rfl, rfl, trivial⟩ rfl (List.Perm.refl _)
  · skip
    obtain ⟨⟨blk, n0, cp⟩, b9⟩ := q
    have hVl : n0 = x.hs.length := by have h9 := hq.len; rw [handC_len] at h9; simp only at h9; omega
    subst hVl
    have hV : (⟨blk, x.hs.length, cp⟩ : Vec).Is 3 (handC x.hs) := hq
    have hcp : x.hs.length ≤ cp := hV.le
    simp only
    refine XQ.then_normal ?_
    refine XC.seq ?_
    refine XC.seq ?_
    refine XC.region ?_
    refine XO.rd rfl rfl rfl (fa37_1 rfl) ?_
    refine XO.rd rfl rfl rfl (Reads.load_own k35 rfl (by first | exact OwnAt.of 0 rfl rfl | exact OwnAt.of 1 rfl rfl | exact OwnAt.of 2 rfl rfl | exact OwnAt.of 3 rfl rfl | exact OwnAt.of 4 rfl rfl | exact OwnAt.of 5 rfl rfl)) ?_
    refine XO.rd (v := .int .i64 (x.hs.length : Int)) rfl rfl rfl (Reads.len_slice Tryd.underlying35 rfl) ?_
    refine XO.rd rfl rfl rfl (Reads.cmp rfl rfl rfl) ?_
    refine XO.nil ?_
    refine XQ.then_normal ?_
    refine XC.cond rfl (fun h1 => ?_) (fun h1 => ?_)
    · skip
      exfalso
      simp only [cmpInt, beq_iff_eq] at h1
      omega
    · skip
      simp only [cmpInt, beq_eq_false_iff_ne] at h1
      have hkr := pickI_range (c := at_) (n := (x.hs.length : Int)) (by omega)
      obtain ⟨k, hkk⟩ := Int.eq_ofNat_of_zero_le hkr.1
      have hk3 : k < x.hs.length := by omega
      have hxk := x.h_get hk3
      have ha1 := vec_addr3 hV (by omega)
      have hp9 := pickI_range (c := how) (n := 9) (by decide)
      refine XC.skip ?_
      refine XQ.then_normal ?_
      refine XC.seq ?_
      refine XC.region ?_
      refine XO.rd rfl rfl rfl (Reads.move rfl) ?_
      refine XO.rd rfl rfl rfl (fa37_1 rfl) ?_
      refine XO.rd rfl rfl rfl (Reads.load_own k35 rfl (by first | exact OwnAt.of 0 rfl rfl | exact OwnAt.of 1 rfl rfl | exact OwnAt.of 2 rfl rfl | exact OwnAt.of 3 rfl rfl | exact OwnAt.of 4 rfl rfl | exact OwnAt.of 5 rfl rfl)) ?_
      refine XO.rd (v := .int .i64 (x.hs.length : Int)) rfl rfl rfl (Reads.len_slice Tryd.underlying35 rfl) ?_
      refine XO.callp rfl rfl en46 (pickR_any at_ (x.hs.length : Int) _ hat (by omega)) ⟨rfl, rfl, trivial⟩ ?_
      refine XO.rd rfl rfl rfl (Reads.assign rfl) ?_
      refine XO.nil ?_
      refine XQ.then_normal ?_
      refine XC.seq ?_
      refine XC.seq ?_
      refine XC.region ?_
      refine XO.rd rfl rfl rfl (Reads.move rfl) ?_
      refine XO.callp rfl rfl en46 (pickR_any how 9 _ hhow (by decide)) ⟨rfl, rfl, trivial⟩ ?_
      refine XO.nil ?_
      refine XQ.then_normal ?_
      refine XC.block ?_
      refine XC.seq ?_
      refine XC.region ?_
      refine XO.rd rfl rfl rfl (Reads.cmp rfl rfl rfl) ?_
      refine XO.rd rfl rfl rfl (Reads.assign rfl) ?_
      refine XO.nil ?_
      refine XQ.then_normal ?_
      refine XC.cond rfl (fun h2 => ?_) (fun h2 => ?_)
      · skip
        simp only [cmpInt, beq_iff_eq] at h2
        refine XC.region ?_
        refine XO.rd rfl rfl rfl (Reads.move rfl) ?_
        refine XO.rd rfl rfl rfl (fa37_0 rfl) ?_
        refine XO.rd rfl rfl rfl (fa34_0 rfl) ?_
        refine XO.store 1 rfl z3 rfl rfl rfl rfl (by simp) ?_
        refine XO.nil ?_
        refine XQ.block_normal ?_
        refine XQ.then_normal ?_
        refine XC.seq ?_
        refine XC.region ?_
        refine XO.rd rfl rfl rfl (Reads.load_whole k37 z37 rfl (by first | exact WholeAt.of 0 rfl | exact WholeAt.of 1 rfl | exact WholeAt.of 2 rfl | exact WholeAt.of 3 rfl | exact WholeAt.of 4 rfl | exact WholeAt.of 5 rfl) (by rfl)) ?_
        first | (refine XO.store_agg (vs := [.int .i64 n, .int .i64 x.d.b, .int .i64 x.d.t, .int .i64 x.d.n, (⟨blk, x.hs.length, cp⟩ : Vec).val]) 2 rfl z37 rfl rfl (by simp [Value.oneCell']) rfl (by simp) ?_) | (refine XO.store_agg (vs := [.int .i64 x.d.a, .int .i64 n, .int .i64 x.d.t, .int .i64 x.d.n, (⟨blk, x.hs.length, cp⟩ : Vec).val]) 2 rfl z37 rfl rfl (by simp [Value.oneCell']) rfl (by simp) ?_) | (refine XO.store_agg (vs := [.int .i64 x.d.a, .int .i64 x.d.b, .int .i64 n, .int .i64 x.d.n, (⟨blk, x.hs.length, cp⟩ : Vec).val]) 2 rfl z37 rfl rfl (by simp [Value.oneCell']) rfl (by simp) ?_) | (refine XO.store_agg (vs := [.int .i64 x.d.a, .int .i64 x.d.b, .int .i64 x.d.t, .int .i64 n, (⟨blk, x.hs.length, cp⟩ : Vec).val]) 2 rfl z37 rfl rfl (by simp [Value.oneCell']) rfl (by simp) ?_) | (refine XO.store_agg (vs := [.int .i64 x.d.a, .int .i64 x.d.b, .int .i64 x.d.t, .int .i64 x.d.n, (⟨blk, x.hs.length, cp⟩ : Vec).val]) 2 rfl z37 rfl rfl (by simp [Value.oneCell']) rfl (by simp) ?_) | (refine XO.store_agg (vs := [.int .i64 x.d.a, .int .i64 x.d.b, .int .i64 x.d.t, .int .i64 x.d.n, .slice b11 (x.hs.take k ++ x.hs.drop (k + 1)).length c11]) 1 rfl z37 rfl rfl (by simp [Value.oneCell']) rfl (by simp) ?_) | (refine XO.store_agg (vs := [.int .i64 x.d.a, .int .i64 x.d.b, .int .i64 x.d.t, .int .i64 x.d.n, V3.val]) 3 rfl z37 rfl rfl (by simp [Value.oneCell']) rfl (by simp) ?_) | (refine XO.store_agg (vs := [.int .i64 x.d.a, .int .i64 x.d.b, .int .i64 x.d.t, .int .i64 x.d.n, V3.val]) 2 rfl z37 rfl rfl (by simp [Value.oneCell']) rfl (by simp) ?_)
        refine XO.nil ?_
        refine XQ.then_normal ?_
        refine XC.ret ?_
        have hbe : bent x how n at_ = ⟨⟨n, x.d.b, x.d.t, x.d.n⟩, x.hs⟩ := by unfold bent bentK; rw [hkk]; rw [if_pos (by omega)] <;> rfl
        refine XQ.give_vec (fun hb => ?_)
        refine XQ.done1ca [] 3 rfl k37 z37 rfl (WholeAt.of 1 rfl) rfl rfl (Im.le_trans hI (Vec.le_give hb)) ?_
        obtain ⟨a9, c9, h91, h92, h93⟩ := (Vec.sl (e := 53) (α := Hand) (by decide) hV (flat_hand _ _) hb).2.ex
        rw [hbe]
        exact ⟨rfl, a9, c9, congrArg (fun z => Value.agg #[.int .i64 n, .int .i64 x.d.b, .int .i64 x.d.t, .int .i64 x.d.n, z]) h91, h92, h93⟩
      · skip
        simp only [cmpInt, beq_eq_false_iff_ne] at h2
        refine XC.seq ?_
        refine XC.region ?_
        refine XO.rd rfl rfl rfl (Reads.cmp rfl rfl rfl) ?_
        refine XO.rd rfl rfl rfl (Reads.assign rfl) ?_
        refine XO.nil ?_
        refine XQ.then_normal ?_
        refine XC.cond rfl (fun h3 => ?_) (fun h3 => ?_)
        · skip
          simp only [cmpInt, beq_iff_eq] at h3
          refine XC.region ?_
          refine XO.rd rfl rfl rfl (Reads.move rfl) ?_
          refine XO.rd rfl rfl rfl (fa37_0 rfl) ?_
          refine XO.rd rfl rfl rfl (fa34_1 rfl) ?_
          refine XO.store 1 rfl z3 rfl rfl rfl rfl (by simp) ?_
          refine XO.nil ?_
          refine XQ.block_normal ?_
          refine XQ.then_normal ?_
          refine XC.seq ?_
          refine XC.region ?_
          refine XO.rd rfl rfl rfl (Reads.load_whole k37 z37 rfl (by first | exact WholeAt.of 0 rfl | exact WholeAt.of 1 rfl | exact WholeAt.of 2 rfl | exact WholeAt.of 3 rfl | exact WholeAt.of 4 rfl | exact WholeAt.of 5 rfl) (by rfl)) ?_
          first | (refine XO.store_agg (vs := [.int .i64 n, .int .i64 x.d.b, .int .i64 x.d.t, .int .i64 x.d.n, (⟨blk, x.hs.length, cp⟩ : Vec).val]) 2 rfl z37 rfl rfl (by simp [Value.oneCell']) rfl (by simp) ?_) | (refine XO.store_agg (vs := [.int .i64 x.d.a, .int .i64 n, .int .i64 x.d.t, .int .i64 x.d.n, (⟨blk, x.hs.length, cp⟩ : Vec).val]) 2 rfl z37 rfl rfl (by simp [Value.oneCell']) rfl (by simp) ?_) | (refine XO.store_agg (vs := [.int .i64 x.d.a, .int .i64 x.d.b, .int .i64 n, .int .i64 x.d.n, (⟨blk, x.hs.length, cp⟩ : Vec).val]) 2 rfl z37 rfl rfl (by simp [Value.oneCell']) rfl (by simp) ?_) | (refine XO.store_agg (vs := [.int .i64 x.d.a, .int .i64 x.d.b, .int .i64 x.d.t, .int .i64 n, (⟨blk, x.hs.length, cp⟩ : Vec).val]) 2 rfl z37 rfl rfl (by simp [Value.oneCell']) rfl (by simp) ?_) | (refine XO.store_agg (vs := [.int .i64 x.d.a, .int .i64 x.d.b, .int .i64 x.d.t, .int .i64 x.d.n, (⟨blk, x.hs.length, cp⟩ : Vec).val]) 2 rfl z37 rfl rfl (by simp [Value.oneCell']) rfl (by simp) ?_) | (refine XO.store_agg (vs := [.int .i64 x.d.a, .int .i64 x.d.b, .int .i64 x.d.t, .int .i64 x.d.n, .slice b11 (x.hs.take k ++ x.hs.drop (k + 1)).length c11]) 1 rfl z37 rfl rfl (by simp [Value.oneCell']) rfl (by simp) ?_) | (refine XO.store_agg (vs := [.int .i64 x.d.a, .int .i64 x.d.b, .int .i64 x.d.t, .int .i64 x.d.n, V3.val]) 3 rfl z37 rfl rfl (by simp [Value.oneCell']) rfl (by simp) ?_) | (refine XO.store_agg (vs := [.int .i64 x.d.a, .int .i64 x.d.b, .int .i64 x.d.t, .int .i64 x.d.n, V3.val]) 2 rfl z37 rfl rfl (by simp [Value.oneCell']) rfl (by simp) ?_)
          refine XO.nil ?_
          refine XQ.then_normal ?_
          refine XC.ret ?_
          have hbe : bent x how n at_ = ⟨⟨x.d.a, n, x.d.t, x.d.n⟩, x.hs⟩ := by unfold bent bentK; rw [hkk]; rw [if_neg (by omega)]; rw [if_pos (by omega)] <;> rfl
          refine XQ.give_vec (fun hb => ?_)
          refine XQ.done1ca [] 3 rfl k37 z37 rfl (WholeAt.of 1 rfl) rfl rfl (Im.le_trans hI (Vec.le_give hb)) ?_
          obtain ⟨a9, c9, h91, h92, h93⟩ := (Vec.sl (e := 53) (α := Hand) (by decide) hV (flat_hand _ _) hb).2.ex
          rw [hbe]
          exact ⟨rfl, a9, c9, congrArg (fun z => Value.agg #[.int .i64 x.d.a, .int .i64 n, .int .i64 x.d.t, .int .i64 x.d.n, z]) h91, h92, h93⟩
        · skip
          simp only [cmpInt, beq_eq_false_iff_ne] at h3
          refine XC.seq ?_
          refine XC.region ?_
          refine XO.rd rfl rfl rfl (Reads.cmp rfl rfl rfl) ?_
          refine XO.rd rfl rfl rfl (Reads.assign rfl) ?_
          refine XO.nil ?_
          refine XQ.then_normal ?_
          refine XC.cond rfl (fun h4 => ?_) (fun h4 => ?_)
          · skip
            simp only [cmpInt, beq_iff_eq] at h4
            refine XC.region ?_
            refine XO.rd rfl rfl rfl (Reads.move rfl) ?_
            refine XO.rd rfl rfl rfl (fa37_0 rfl) ?_
            refine XO.rd rfl rfl rfl (fa34_2 rfl) ?_
            refine XO.store 1 rfl z3 rfl rfl rfl rfl (by simp) ?_
            refine XO.nil ?_
            refine XQ.block_normal ?_
            refine XQ.then_normal ?_
            refine XC.seq ?_
            refine XC.region ?_
            refine XO.rd rfl rfl rfl (Reads.load_whole k37 z37 rfl (by first | exact WholeAt.of 0 rfl | exact WholeAt.of 1 rfl | exact WholeAt.of 2 rfl | exact WholeAt.of 3 rfl | exact WholeAt.of 4 rfl | exact WholeAt.of 5 rfl) (by rfl)) ?_
            first | (refine XO.store_agg (vs := [.int .i64 n, .int .i64 x.d.b, .int .i64 x.d.t, .int .i64 x.d.n, (⟨blk, x.hs.length, cp⟩ : Vec).val]) 2 rfl z37 rfl rfl (by simp [Value.oneCell']) rfl (by simp) ?_) | (refine XO.store_agg (vs := [.int .i64 x.d.a, .int .i64 n, .int .i64 x.d.t, .int .i64 x.d.n, (⟨blk, x.hs.length, cp⟩ : Vec).val]) 2 rfl z37 rfl rfl (by simp [Value.oneCell']) rfl (by simp) ?_) | (refine XO.store_agg (vs := [.int .i64 x.d.a, .int .i64 x.d.b, .int .i64 n, .int .i64 x.d.n, (⟨blk, x.hs.length, cp⟩ : Vec).val]) 2 rfl z37 rfl rfl (by simp [Value.oneCell']) rfl (by simp) ?_) | (refine XO.store_agg (vs := [.int .i64 x.d.a, .int .i64 x.d.b, .int .i64 x.d.t, .int .i64 n, (⟨blk, x.hs.length, cp⟩ : Vec).val]) 2 rfl z37 rfl rfl (by simp [Value.oneCell']) rfl (by simp) ?_) | (refine XO.store_agg (vs := [.int .i64 x.d.a, .int .i64 x.d.b, .int .i64 x.d.t, .int .i64 x.d.n, (⟨blk, x.hs.length, cp⟩ : Vec).val]) 2 rfl z37 rfl rfl (by simp [Value.oneCell']) rfl (by simp) ?_) | (refine XO.store_agg (vs := [.int .i64 x.d.a, .int .i64 x.d.b, .int .i64 x.d.t, .int .i64 x.d.n, .slice b11 (x.hs.take k ++ x.hs.drop (k + 1)).length c11]) 1 rfl z37 rfl rfl (by simp [Value.oneCell']) rfl (by simp) ?_) | (refine XO.store_agg (vs := [.int .i64 x.d.a, .int .i64 x.d.b, .int .i64 x.d.t, .int .i64 x.d.n, V3.val]) 3 rfl z37 rfl rfl (by simp [Value.oneCell']) rfl (by simp) ?_) | (refine XO.store_agg (vs := [.int .i64 x.d.a, .int .i64 x.d.b, .int .i64 x.d.t, .int .i64 x.d.n, V3.val]) 2 rfl z37 rfl rfl (by simp [Value.oneCell']) rfl (by simp) ?_)
            refine XO.nil ?_
            refine XQ.then_normal ?_
            refine XC.ret ?_
            have hbe : bent x how n at_ = ⟨⟨x.d.a, x.d.b, n, x.d.n⟩, x.hs⟩ := by unfold bent bentK; rw [hkk]; rw [if_neg (by omega)]; rw [if_neg (by omega)]; rw [if_pos (by omega)] <;> rfl
            refine XQ.give_vec (fun hb => ?_)
            refine XQ.done1ca [] 3 rfl k37 z37 rfl (WholeAt.of 1 rfl) rfl rfl (Im.le_trans hI (Vec.le_give hb)) ?_
            obtain ⟨a9, c9, h91, h92, h93⟩ := (Vec.sl (e := 53) (α := Hand) (by decide) hV (flat_hand _ _) hb).2.ex
            rw [hbe]
            exact ⟨rfl, a9, c9, congrArg (fun z => Value.agg #[.int .i64 x.d.a, .int .i64 x.d.b, .int .i64 n, .int .i64 x.d.n, z]) h91, h92, h93⟩
          · skip
            simp only [cmpInt, beq_eq_false_iff_ne] at h4
            refine XC.seq ?_
            refine XC.region ?_
            refine XO.rd rfl rfl rfl (Reads.cmp rfl rfl rfl) ?_
            refine XO.rd rfl rfl rfl (Reads.assign rfl) ?_
            refine XO.nil ?_
            refine XQ.then_normal ?_
            refine XC.cond rfl (fun h5 => ?_) (fun h5 => ?_)
            · skip
              simp only [cmpInt, beq_iff_eq] at h5
              refine XC.region ?_
              refine XO.rd rfl rfl rfl (Reads.move rfl) ?_
              refine XO.rd rfl rfl rfl (fa37_0 rfl) ?_
              refine XO.rd rfl rfl rfl (fa34_3 rfl) ?_
              refine XO.store 1 rfl z3 rfl rfl rfl rfl (by simp) ?_
              refine XO.nil ?_
              refine XQ.block_normal ?_
              refine XQ.then_normal ?_
              refine XC.seq ?_
              refine XC.region ?_
              refine XO.rd rfl rfl rfl (Reads.load_whole k37 z37 rfl (by first | exact WholeAt.of 0 rfl | exact WholeAt.of 1 rfl | exact WholeAt.of 2 rfl | exact WholeAt.of 3 rfl | exact WholeAt.of 4 rfl | exact WholeAt.of 5 rfl) (by rfl)) ?_
              first | (refine XO.store_agg (vs := [.int .i64 n, .int .i64 x.d.b, .int .i64 x.d.t, .int .i64 x.d.n, (⟨blk, x.hs.length, cp⟩ : Vec).val]) 2 rfl z37 rfl rfl (by simp [Value.oneCell']) rfl (by simp) ?_) | (refine XO.store_agg (vs := [.int .i64 x.d.a, .int .i64 n, .int .i64 x.d.t, .int .i64 x.d.n, (⟨blk, x.hs.length, cp⟩ : Vec).val]) 2 rfl z37 rfl rfl (by simp [Value.oneCell']) rfl (by simp) ?_) | (refine XO.store_agg (vs := [.int .i64 x.d.a, .int .i64 x.d.b, .int .i64 n, .int .i64 x.d.n, (⟨blk, x.hs.length, cp⟩ : Vec).val]) 2 rfl z37 rfl rfl (by simp [Value.oneCell']) rfl (by simp) ?_) | (refine XO.store_agg (vs := [.int .i64 x.d.a, .int .i64 x.d.b, .int .i64 x.d.t, .int .i64 n, (⟨blk, x.hs.length, cp⟩ : Vec).val]) 2 rfl z37 rfl rfl (by simp [Value.oneCell']) rfl (by simp) ?_) | (refine XO.store_agg (vs := [.int .i64 x.d.a, .int .i64 x.d.b, .int .i64 x.d.t, .int .i64 x.d.n, (⟨blk, x.hs.length, cp⟩ : Vec).val]) 2 rfl z37 rfl rfl (by simp [Value.oneCell']) rfl (by simp) ?_) | (refine XO.store_agg (vs := [.int .i64 x.d.a, .int .i64 x.d.b, .int .i64 x.d.t, .int .i64 x.d.n, .slice b11 (x.hs.take k ++ x.hs.drop (k + 1)).length c11]) 1 rfl z37 rfl rfl (by simp [Value.oneCell']) rfl (by simp) ?_) | (refine XO.store_agg (vs := [.int .i64 x.d.a, .int .i64 x.d.b, .int .i64 x.d.t, .int .i64 x.d.n, V3.val]) 3 rfl z37 rfl rfl (by simp [Value.oneCell']) rfl (by simp) ?_) | (refine XO.store_agg (vs := [.int .i64 x.d.a, .int .i64 x.d.b, .int .i64 x.d.t, .int .i64 x.d.n, V3.val]) 2 rfl z37 rfl rfl (by simp [Value.oneCell']) rfl (by simp) ?_)
              refine XO.nil ?_
              refine XQ.then_normal ?_
              refine XC.ret ?_
              have hbe : bent x how n at_ = ⟨⟨x.d.a, x.d.b, x.d.t, n⟩, x.hs⟩ := by unfold bent bentK; rw [hkk]; rw [if_neg (by omega)]; rw [if_neg (by omega)]; rw [if_neg (by omega)]; rw [if_pos (by omega)] <;> rfl
              refine XQ.give_vec (fun hb => ?_)
              refine XQ.done1ca [] 3 rfl k37 z37 rfl (WholeAt.of 1 rfl) rfl rfl (Im.le_trans hI (Vec.le_give hb)) ?_
              obtain ⟨a9, c9, h91, h92, h93⟩ := (Vec.sl (e := 53) (α := Hand) (by decide) hV (flat_hand _ _) hb).2.ex
              rw [hbe]
              exact ⟨rfl, a9, c9, congrArg (fun z => Value.agg #[.int .i64 x.d.a, .int .i64 x.d.b, .int .i64 x.d.t, .int .i64 n, z]) h91, h92, h93⟩
            · skip
              simp only [cmpInt, beq_eq_false_iff_ne] at h5
              refine XC.seq ?_
              refine XC.region ?_
              refine XO.rd rfl rfl rfl (Reads.cmp rfl rfl rfl) ?_
              refine XO.rd rfl rfl rfl (Reads.assign rfl) ?_
              refine XO.nil ?_
              refine XQ.then_normal ?_
              refine XC.cond rfl (fun h6 => ?_) (fun h6 => ?_)
              · skip
                simp only [cmpInt, beq_iff_eq] at h6
                refine XC.region ?_
                refine XO.rd rfl rfl rfl (fa37_1 rfl) ?_
                refine XO.rd rfl rfl rfl (Reads.load_own k35 rfl (by first | exact OwnAt.of 0 rfl rfl | exact OwnAt.of 1 rfl rfl | exact OwnAt.of 2 rfl rfl | exact OwnAt.of 3 rfl rfl | exact OwnAt.of 4 rfl rfl | exact OwnAt.of 5 rfl rfl)) ?_
                refine XO.rd rfl rfl rfl (Reads.move rfl) ?_
                refine XO.rd rfl rfl rfl (Reads.move rfl) ?_
                refine XO.rd rfl rfl rfl (Reads.index_slot (q := k * 3) Tryd.underlying35 z53 rfl (by rw [hkk]; rfl) (by simp only; omega) (by obtain ⟨_, _, h9⟩ := ha1; rw [h9]; rfl) rfl) ?_
                refine XO.rd rfl rfl rfl (fs53_0 rfl ha1) ?_
                refine XO.store_vecs (V := (⟨blk, x.hs.length, cp⟩ : Vec)) (e := 53) (k := k * 3 + 0) (v0 := .int .i64 x.hs[k].c) 0 rfl z3 rfl rfl rfl hV rfl (handC_at x.hs hk3 0 _ rfl) ?_
                intro V3 hV3 hval
                have hV4 : V3.Is 3 (handC (x.hs.set k ((x.h k).wc n))) := by have h9 := handC_setg x.hs (j := k) (i := 0) (v := .int .i64 n) (h' := (x.h k).wc n) hk3 (by decide) (by rw [hxk]; rfl); rw [← h9]; exact hV3
                rw [← hval]
                refine XO.nil ?_
                refine XQ.block_normal ?_
                refine XQ.then_normal ?_
                refine XC.seq ?_
                refine XC.region ?_
                refine XO.rd rfl rfl rfl (Reads.load_whole k37 z37 rfl (by first | exact WholeAt.of 0 rfl | exact WholeAt.of 1 rfl | exact WholeAt.of 2 rfl | exact WholeAt.of 3 rfl | exact WholeAt.of 4 rfl | exact WholeAt.of 5 rfl) (by rfl)) ?_
                first | (refine XO.store_agg (vs := [.int .i64 n, .int .i64 x.d.b, .int .i64 x.d.t, .int .i64 x.d.n, (⟨blk, x.hs.length, cp⟩ : Vec).val]) 2 rfl z37 rfl rfl (by simp [Value.oneCell']) rfl (by simp) ?_) | (refine XO.store_agg (vs := [.int .i64 x.d.a, .int .i64 n, .int .i64 x.d.t, .int .i64 x.d.n, (⟨blk, x.hs.length, cp⟩ : Vec).val]) 2 rfl z37 rfl rfl (by simp [Value.oneCell']) rfl (by simp) ?_) | (refine XO.store_agg (vs := [.int .i64 x.d.a, .int .i64 x.d.b, .int .i64 n, .int .i64 x.d.n, (⟨blk, x.hs.length, cp⟩ : Vec).val]) 2 rfl z37 rfl rfl (by simp [Value.oneCell']) rfl (by simp) ?_) | (refine XO.store_agg (vs := [.int .i64 x.d.a, .int .i64 x.d.b, .int .i64 x.d.t, .int .i64 n, (⟨blk, x.hs.length, cp⟩ : Vec).val]) 2 rfl z37 rfl rfl (by simp [Value.oneCell']) rfl (by simp) ?_) | (refine XO.store_agg (vs := [.int .i64 x.d.a, .int .i64 x.d.b, .int .i64 x.d.t, .int .i64 x.d.n, (⟨blk, x.hs.length, cp⟩ : Vec).val]) 2 rfl z37 rfl rfl (by simp [Value.oneCell']) rfl (by simp) ?_) | (refine XO.store_agg (vs := [.int .i64 x.d.a, .int .i64 x.d.b, .int .i64 x.d.t, .int .i64 x.d.n, .slice b11 (x.hs.take k ++ x.hs.drop (k + 1)).length c11]) 1 rfl z37 rfl rfl (by simp [Value.oneCell']) rfl (by simp) ?_) | (refine XO.store_agg (vs := [.int .i64 x.d.a, .int .i64 x.d.b, .int .i64 x.d.t, .int .i64 x.d.n, V3.val]) 3 rfl z37 rfl rfl (by simp [Value.oneCell']) rfl (by simp) ?_) | (refine XO.store_agg (vs := [.int .i64 x.d.a, .int .i64 x.d.b, .int .i64 x.d.t, .int .i64 x.d.n, V3.val]) 2 rfl z37 rfl rfl (by simp [Value.oneCell']) rfl (by simp) ?_)
                refine XO.nil ?_
                refine XQ.then_normal ?_
                refine XC.ret ?_
                have hbe : bent x how n at_ = ⟨x.d, x.hs.set k ((x.h k).wc n)⟩ := by unfold bent bentK; rw [hkk]; rw [if_neg (by omega)]; rw [if_neg (by omega)]; rw [if_neg (by omega)]; rw [if_neg (by omega)]; rw [if_pos (by omega)] <;> rfl
                refine XQ.give_vec (fun hb => ?_)
                refine XQ.done1ca [] 3 rfl k37 z37 rfl (WholeAt.of 1 rfl) rfl rfl (Im.le_trans hI (Vec.le_give hb)) ?_
                obtain ⟨a9, c9, h91, h92, h93⟩ := (Vec.sl (e := 53) (α := Hand) (by decide) hV4 (flat_hand _ _) hb).2.ex
                rw [hbe]
                exact ⟨rfl, a9, c9, congrArg (fun z => Value.agg #[.int .i64 x.d.a, .int .i64 x.d.b, .int .i64 x.d.t, .int .i64 x.d.n, z]) h91, h92, h93⟩
              · skip
                simp only [cmpInt, beq_eq_false_iff_ne] at h6
                refine XC.seq ?_
                refine XC.region ?_
                refine XO.rd rfl rfl rfl (Reads.cmp rfl rfl rfl) ?_
                refine XO.rd rfl rfl rfl (Reads.assign rfl) ?_
                refine XO.nil ?_
                refine XQ.then_normal ?_
                refine XC.cond rfl (fun h7 => ?_) (fun h7 => ?_)
                · skip
                  simp only [cmpInt, beq_iff_eq] at h7
                  refine XC.region ?_
                  refine XO.rd rfl rfl rfl (fa37_1 rfl) ?_
                  refine XO.rd rfl rfl rfl (Reads.load_own k35 rfl (by first | exact OwnAt.of 0 rfl rfl | exact OwnAt.of 1 rfl rfl | exact OwnAt.of 2 rfl rfl | exact OwnAt.of 3 rfl rfl | exact OwnAt.of 4 rfl rfl | exact OwnAt.of 5 rfl rfl)) ?_
                  refine XO.rd rfl rfl rfl (Reads.move rfl) ?_
                  refine XO.rd rfl rfl rfl (Reads.move rfl) ?_
                  refine XO.rd rfl rfl rfl (Reads.index_slot (q := k * 3) Tryd.underlying35 z53 rfl (by rw [hkk]; rfl) (by simp only; omega) (by obtain ⟨_, _, h9⟩ := ha1; rw [h9]; rfl) rfl) ?_
                  refine XO.rd rfl rfl rfl (fs53_1 rfl ha1) ?_
                  refine XO.store_vecs (V := (⟨blk, x.hs.length, cp⟩ : Vec)) (e := 53) (k := k * 3 + 1) (v0 := .int .i64 x.hs[k].l) 0 rfl z3 rfl rfl rfl hV rfl (handC_at x.hs hk3 1 _ rfl) ?_
                  intro V3 hV3 hval
                  have hV4 : V3.Is 3 (handC (x.hs.set k ((x.h k).wl n))) := by have h9 := handC_setg x.hs (j := k) (i := 1) (v := .int .i64 n) (h' := (x.h k).wl n) hk3 (by decide) (by rw [hxk]; rfl); rw [← h9]; exact hV3
                  rw [← hval]
                  refine XO.nil ?_
                  refine XQ.block_normal ?_
                  refine XQ.then_normal ?_
                  refine XC.seq ?_
                  refine XC.region ?_
                  refine XO.rd rfl rfl rfl (Reads.load_whole k37 z37 rfl (by first | exact WholeAt.of 0 rfl | exact WholeAt.of 1 rfl | exact WholeAt.of 2 rfl | exact WholeAt.of 3 rfl | exact WholeAt.of 4 rfl | exact WholeAt.of 5 rfl) (by rfl)) ?_
                  first | (refine XO.store_agg (vs := [.int .i64 n, .int .i64 x.d.b, .int .i64 x.d.t, .int .i64 x.d.n, (⟨blk, x.hs.length, cp⟩ : Vec).val]) 2 rfl z37 rfl rfl (by simp [Value.oneCell']) rfl (by simp) ?_) | (refine XO.store_agg (vs := [.int .i64 x.d.a, .int .i64 n, .int .i64 x.d.t, .int .i64 x.d.n, (⟨blk, x.hs.length, cp⟩ : Vec).val]) 2 rfl z37 rfl rfl (by simp [Value.oneCell']) rfl (by simp) ?_) | (refine XO.store_agg (vs := [.int .i64 x.d.a, .int .i64 x.d.b, .int .i64 n, .int .i64 x.d.n, (⟨blk, x.hs.length, cp⟩ : Vec).val]) 2 rfl z37 rfl rfl (by simp [Value.oneCell']) rfl (by simp) ?_) | (refine XO.store_agg (vs := [.int .i64 x.d.a, .int .i64 x.d.b, .int .i64 x.d.t, .int .i64 n, (⟨blk, x.hs.length, cp⟩ : Vec).val]) 2 rfl z37 rfl rfl (by simp [Value.oneCell']) rfl (by simp) ?_) | (refine XO.store_agg (vs := [.int .i64 x.d.a, .int .i64 x.d.b, .int .i64 x.d.t, .int .i64 x.d.n, (⟨blk, x.hs.length, cp⟩ : Vec).val]) 2 rfl z37 rfl rfl (by simp [Value.oneCell']) rfl (by simp) ?_) | (refine XO.store_agg (vs := [.int .i64 x.d.a, .int .i64 x.d.b, .int .i64 x.d.t, .int .i64 x.d.n, .slice b11 (x.hs.take k ++ x.hs.drop (k + 1)).length c11]) 1 rfl z37 rfl rfl (by simp [Value.oneCell']) rfl (by simp) ?_) | (refine XO.store_agg (vs := [.int .i64 x.d.a, .int .i64 x.d.b, .int .i64 x.d.t, .int .i64 x.d.n, V3.val]) 3 rfl z37 rfl rfl (by simp [Value.oneCell']) rfl (by simp) ?_) | (refine XO.store_agg (vs := [.int .i64 x.d.a, .int .i64 x.d.b, .int .i64 x.d.t, .int .i64 x.d.n, V3.val]) 2 rfl z37 rfl rfl (by simp [Value.oneCell']) rfl (by simp) ?_)
                  refine XO.nil ?_
                  refine XQ.then_normal ?_
                  refine XC.ret ?_
                  have hbe : bent x how n at_ = ⟨x.d, x.hs.set k ((x.h k).wl n)⟩ := by unfold bent bentK; rw [hkk]; rw [if_neg (by omega)]; rw [if_neg (by omega)]; rw [if_neg (by omega)]; rw [if_neg (by omega)]; rw [if_neg (by omega)]; rw [if_pos (by omega)] <;> rfl
                  refine XQ.give_vec (fun hb => ?_)
                  refine XQ.done1ca [] 3 rfl k37 z37 rfl (WholeAt.of 1 rfl) rfl rfl (Im.le_trans hI (Vec.le_give hb)) ?_
                  obtain ⟨a9, c9, h91, h92, h93⟩ := (Vec.sl (e := 53) (α := Hand) (by decide) hV4 (flat_hand _ _) hb).2.ex
                  rw [hbe]
                  exact ⟨rfl, a9, c9, congrArg (fun z => Value.agg #[.int .i64 x.d.a, .int .i64 x.d.b, .int .i64 x.d.t, .int .i64 x.d.n, z]) h91, h92, h93⟩
                · skip
                  simp only [cmpInt, beq_eq_false_iff_ne] at h7
                  refine XC.seq ?_
                  refine XC.region ?_
                  refine XO.rd rfl rfl rfl (Reads.cmp rfl rfl rfl) ?_
                  refine XO.rd rfl rfl rfl (Reads.assign rfl) ?_
                  refine XO.nil ?_
                  refine XQ.then_normal ?_
                  refine XC.cond rfl (fun h8 => ?_) (fun h8 => ?_)
                  · skip
                    simp only [cmpInt, beq_iff_eq] at h8
                    refine XC.draw m_mixed (some 8) (.pure 0 (.pure 1 (.pure 2 (.pure 3 (.eff 4 (.eff 5 (.pure 6 (.pure 7 (.eff 8 (.done)))))))))) _ (by kernel_rfl) (List.Sublist.refl _) ?_
                    refine XR.rd rfl rfl rfl (fa37_1 rfl) ?_
                    refine XR.rd rfl rfl rfl (Reads.load_own k35 rfl (by first | exact OwnAt.of 0 rfl rfl | exact OwnAt.of 1 rfl rfl | exact OwnAt.of 2 rfl rfl | exact OwnAt.of 3 rfl rfl | exact OwnAt.of 4 rfl rfl | exact OwnAt.of 5 rfl rfl)) ?_
                    refine XR.rd rfl rfl rfl (Reads.move rfl) ?_
                    refine XR.rd rfl rfl rfl (Reads.move rfl) ?_
                    refine XR.callp rfl rfl rfl en46 (pickR_any n 8 _ hn (by decide)) ⟨rfl, rfl, trivial⟩ (List.Sublist.refl _) ?_
                    refine XR.callp rfl rfl rfl en25 (key_any (pickI n 8) _ (by have := pickI_range (c := n) (n := 8) (by decide); omega)) ⟨rfl, trivial⟩ (List.Sublist.refl _) ?_
                    refine XR.rd rfl rfl rfl (Reads.index_slot (q := k * 3) Tryd.underlying35 z53 rfl (by rw [hkk]; rfl) (by simp only; omega) (by obtain ⟨_, _, h9⟩ := ha1; rw [h9]; rfl) rfl) ?_
                    refine XR.rd rfl rfl rfl (fs53_2 rfl ha1) ?_
                    refine XR.store_vecs (V := (⟨blk, x.hs.length, cp⟩ : Vec)) (e := 53) (k := k * 3 + 2) (v0 := .string x.hs[k].s) 0 rfl rfl z9 rfl rfl rfl hV rfl (handC_at x.hs hk3 2 _ rfl) rfl ?_
                    intro V3 hV3 hval
                    have hV4 : V3.Is 3 (handC (x.hs.set k ((x.h k).ws (keyC (pickI n 8).toNat)))) := by have h9 := handC_setg x.hs (j := k) (i := 2) (v := .string (keyC (pickI n 8).toNat)) (h' := (x.h k).ws (keyC (pickI n 8).toNat)) hk3 (by decide) (by rw [hxk]; rfl); rw [← h9]; exact hV3
                    rw [← hval]
                    refine XR.nil ?_
                    refine XQ.block_normal ?_
                    refine XQ.then_normal ?_
                    refine XC.seq ?_
                    refine XC.region ?_
                    refine XO.rd rfl rfl rfl (Reads.load_whole k37 z37 rfl (by first | exact WholeAt.of 0 rfl | exact WholeAt.of 1 rfl | exact WholeAt.of 2 rfl | exact WholeAt.of 3 rfl | exact WholeAt.of 4 rfl | exact WholeAt.of 5 rfl) (by rfl)) ?_
                    first | (refine XO.store_agg (vs := [.int .i64 n, .int .i64 x.d.b, .int .i64 x.d.t, .int .i64 x.d.n, (⟨blk, x.hs.length, cp⟩ : Vec).val]) 2 rfl z37 rfl rfl (by simp [Value.oneCell']) rfl (by simp) ?_) | (refine XO.store_agg (vs := [.int .i64 x.d.a, .int .i64 n, .int .i64 x.d.t, .int .i64 x.d.n, (⟨blk, x.hs.length, cp⟩ : Vec).val]) 2 rfl z37 rfl rfl (by simp [Value.oneCell']) rfl (by simp) ?_) | (refine XO.store_agg (vs := [.int .i64 x.d.a, .int .i64 x.d.b, .int .i64 n, .int .i64 x.d.n, (⟨blk, x.hs.length, cp⟩ : Vec).val]) 2 rfl z37 rfl rfl (by simp [Value.oneCell']) rfl (by simp) ?_) | (refine XO.store_agg (vs := [.int .i64 x.d.a, .int .i64 x.d.b, .int .i64 x.d.t, .int .i64 n, (⟨blk, x.hs.length, cp⟩ : Vec).val]) 2 rfl z37 rfl rfl (by simp [Value.oneCell']) rfl (by simp) ?_) | (refine XO.store_agg (vs := [.int .i64 x.d.a, .int .i64 x.d.b, .int .i64 x.d.t, .int .i64 x.d.n, (⟨blk, x.hs.length, cp⟩ : Vec).val]) 2 rfl z37 rfl rfl (by simp [Value.oneCell']) rfl (by simp) ?_) | (refine XO.store_agg (vs := [.int .i64 x.d.a, .int .i64 x.d.b, .int .i64 x.d.t, .int .i64 x.d.n, .slice b11 (x.hs.take k ++ x.hs.drop (k + 1)).length c11]) 1 rfl z37 rfl rfl (by simp [Value.oneCell']) rfl (by simp) ?_) | (refine XO.store_agg (vs := [.int .i64 x.d.a, .int .i64 x.d.b, .int .i64 x.d.t, .int .i64 x.d.n, V3.val]) 3 rfl z37 rfl rfl (by simp [Value.oneCell']) rfl (by simp) ?_) | (refine XO.store_agg (vs := [.int .i64 x.d.a, .int .i64 x.d.b, .int .i64 x.d.t, .int .i64 x.d.n, V3.val]) 2 rfl z37 rfl rfl (by simp [Value.oneCell']) rfl (by simp) ?_)
                    refine XO.nil ?_
                    refine XQ.then_normal ?_
                    refine XC.ret ?_
                    have hbe : bent x how n at_ = ⟨x.d, x.hs.set k ((x.h k).ws (keyC (pickI n 8).toNat))⟩ := by unfold bent bentK; rw [hkk]; rw [if_neg (by omega)]; rw [if_neg (by omega)]; rw [if_neg (by omega)]; rw [if_neg (by omega)]; rw [if_neg (by omega)]; rw [if_neg (by omega)]; rw [if_pos (by omega)] <;> rfl
                    refine XQ.give_vec (fun hb => ?_)
                    refine XQ.done1ca [] 3 rfl k37 z37 rfl (WholeAt.of 1 rfl) rfl rfl (Im.le_trans hI (Vec.le_give hb)) ?_
                    obtain ⟨a9, c9, h91, h92, h93⟩ := (Vec.sl (e := 53) (α := Hand) (by decide) hV4 (flat_hand _ _) hb).2.ex
                    rw [hbe]
                    exact ⟨rfl, a9, c9, congrArg (fun z => Value.agg #[.int .i64 x.d.a, .int .i64 x.d.b, .int .i64 x.d.t, .int .i64 x.d.n, z]) h91, h92, h93⟩
                  · skip
                    simp only [cmpInt, beq_eq_false_iff_ne] at h8
                    refine XC.seq ?_
                    refine XC.region ?_
                    refine XO.rd rfl rfl rfl (Reads.cmp rfl rfl rfl) ?_
                    refine XO.rd rfl rfl rfl (Reads.assign rfl) ?_
                    refine XO.nil ?_
                    refine XQ.then_normal ?_
                    refine XC.cond rfl (fun h9 => ?_) (fun h9 => ?_)
                    · skip
                      simp only [cmpInt, beq_iff_eq] at h9
                      refine XC.vec_done (α := Hand) (by decide) hV (flat_hand _ _) (fun J99 hle99 hs9 => ?_)
                      replace hI := Im.le_trans hI hle99
                      have hA9 := hs9.arr.1
                      refine XC.draw m_mixed (some 12) (.pure 0 (.pure 1 (.pure 2 (.pure 3 (.pure 4 (.pure 5 (.pure 6 (.pure 7 (.pure 8 (.pure 9 (.eff 10 (.pure 11 (.eff 12 (.done)))))))))))))) _ (by kernel_rfl) (List.Sublist.refl _) ?_
                      refine XR.rd rfl rfl rfl (fa37_1 rfl) ?_
                      refine XR.rd rfl rfl rfl (Reads.load_own k35 rfl (by first | exact OwnAt.of 0 rfl rfl | exact OwnAt.of 1 rfl rfl | exact OwnAt.of 2 rfl rfl | exact OwnAt.of 3 rfl rfl | exact OwnAt.of 4 rfl rfl | exact OwnAt.of 5 rfl rfl)) ?_
                      refine XR.rd rfl rfl rfl (Reads.move rfl) ?_
                      refine XR.rd rfl rfl rfl (Reads.move rfl) ?_
                      refine XR.rd (v := .slice (⟨blk, x.hs.length, cp⟩ : Vec).addr (x.hs.take k).length (x.hs.take k).length) rfl rfl rfl (Reads.to (v := .slice (cutA (⟨blk, x.hs.length, cp⟩ : Vec).addr k 0 3) (k - 0) (k - 0)) (Reads.slice_gen 0 k k Tryd.underlying35 z53 rfl rfl ⟨_, by rw [hkk]; rfl⟩ ⟨_, by rw [hkk]; rfl⟩ (fun h => by cases h) (by omega) (by omega) (by (try simp only); omega)) (by rw [cutA_vec, show (x.hs.take k).length = k by rw [List.length_take]; omega]; rfl)) ?_
                      refine XR.rd rfl rfl rfl (fa37_1 rfl) ?_
                      refine XR.rd rfl rfl rfl (Reads.load_own k35 rfl (by first | exact OwnAt.of 0 rfl rfl | exact OwnAt.of 1 rfl rfl | exact OwnAt.of 2 rfl rfl | exact OwnAt.of 3 rfl rfl | exact OwnAt.of 4 rfl rfl | exact OwnAt.of 5 rfl rfl)) ?_
                      refine XR.rd rfl rfl rfl (Reads.move rfl) ?_
                      refine XR.rd rfl rfl rfl (Reads.add rfl rfl (by omega)) ?_
                      rw [show pickI at_ (x.hs.length : Int) + 1 = ((k + 1 : Nat) : Int) by omega]
                      refine XR.rd (v := .slice (cutA (⟨blk, x.hs.length, cp⟩ : Vec).addr cp (k + 1) 3) (x.hs.drop (k + 1)).length (cp - (k + 1))) rfl rfl rfl (Reads.to (v := .slice (cutA (⟨blk, x.hs.length, cp⟩ : Vec).addr cp (k + 1) 3) (x.hs.length - (k + 1)) (cp - (k + 1))) (Reads.slice_gen (k + 1) x.hs.length cp Tryd.underlying35 z53 rfl ⟨_, rfl⟩ rfl rfl (fun _ => rfl) (by omega) (by omega) (by (try simp only); omega)) (by rw [List.length_drop])) ?_
                      refine XR.append_done (α := Hand) (x.hs.take k) (x.hs.drop (k + 1)) rfl rfl rfl Tryd.underlying35 Tryd.underlying35 el53 (by decide) ha1 rfl rfl (hA9.take k) (Arr.cut hA9 (by intro h; omega)) (by rw [List.length_take, List.length_drop]; omega) (by rw [List.length_take, List.length_drop]; omega) (List.Sublist.refl _) (fun J38 b11 c11 hle38 hc11 hA11 => ?_)
                      replace hI := Im.le_trans hI hle38
                      refine XR.rd rfl rfl rfl (fa37_1 rfl) ?_
                      refine XR.store 0 rfl rfl z35 rfl rfl rfl rfl (by simp) (.inl rfl) ?_
                      refine XR.nil ?_
                      refine XQ.block_normal ?_
                      refine XQ.then_normal ?_
                      refine XC.seq ?_
                      refine XC.weaken (E' := [(8, _), (9, _)]) ⟨rfl, rfl, trivial⟩ ?_
                      refine XC.region ?_
                      refine XO.rd rfl rfl rfl (Reads.load_whole k37 z37 rfl (by first | exact WholeAt.of 0 rfl | exact WholeAt.of 1 rfl | exact WholeAt.of 2 rfl | exact WholeAt.of 3 rfl | exact WholeAt.of 4 rfl | exact WholeAt.of 5 rfl) (by rfl)) ?_
                      first | (refine XO.store_agg (vs := [.int .i64 n, .int .i64 x.d.b, .int .i64 x.d.t, .int .i64 x.d.n, (⟨blk, x.hs.length, cp⟩ : Vec).val]) 2 rfl z37 rfl rfl (by simp [Value.oneCell']) rfl (by simp) ?_) | (refine XO.store_agg (vs := [.int .i64 x.d.a, .int .i64 n, .int .i64 x.d.t, .int .i64 x.d.n, (⟨blk, x.hs.length, cp⟩ : Vec).val]) 2 rfl z37 rfl rfl (by simp [Value.oneCell']) rfl (by simp) ?_) | (refine XO.store_agg (vs := [.int .i64 x.d.a, .int .i64 x.d.b, .int .i64 n, .int .i64 x.d.n, (⟨blk, x.hs.length, cp⟩ : Vec).val]) 2 rfl z37 rfl rfl (by simp [Value.oneCell']) rfl (by simp) ?_) | (refine XO.store_agg (vs := [.int .i64 x.d.a, .int .i64 x.d.b, .int .i64 x.d.t, .int .i64 n, (⟨blk, x.hs.length, cp⟩ : Vec).val]) 2 rfl z37 rfl rfl (by simp [Value.oneCell']) rfl (by simp) ?_) | (refine XO.store_agg (vs := [.int .i64 x.d.a, .int .i64 x.d.b, .int .i64 x.d.t, .int .i64 x.d.n, (⟨blk, x.hs.length, cp⟩ : Vec).val]) 2 rfl z37 rfl rfl (by simp [Value.oneCell']) rfl (by simp) ?_) | (refine XO.store_agg (vs := [.int .i64 x.d.a, .int .i64 x.d.b, .int .i64 x.d.t, .int .i64 x.d.n, .slice b11 (x.hs.take k ++ x.hs.drop (k + 1)).length c11]) 1 rfl z37 rfl rfl (by simp [Value.oneCell']) rfl (by simp) ?_) | (refine XO.store_agg (vs := [.int .i64 x.d.a, .int .i64 x.d.b, .int .i64 x.d.t, .int .i64 x.d.n, V3.val]) 3 rfl z37 rfl rfl (by simp [Value.oneCell']) rfl (by simp) ?_) | (refine XO.store_agg (vs := [.int .i64 x.d.a, .int .i64 x.d.b, .int .i64 x.d.t, .int .i64 x.d.n, V3.val]) 2 rfl z37 rfl rfl (by simp [Value.oneCell']) rfl (by simp) ?_)
                      refine XO.nil ?_
                      refine XQ.then_normal ?_
                      refine XC.ret ?_
                      have hbe : bent x how n at_ = ⟨x.d, x.hs.take k ++ x.hs.drop (k + 1)⟩ := by unfold bent bentK; rw [hkk]; rw [if_neg (by omega)]; rw [if_neg (by omega)]; rw [if_neg (by omega)]; rw [if_neg (by omega)]; rw [if_neg (by omega)]; rw [if_neg (by omega)]; rw [if_neg (by omega)]; rw [if_pos (by omega)] <;> rfl
                      refine XQ.done1ca [] 3 rfl k37 z37 rfl (WholeAt.of 1 rfl) rfl rfl hI ?_
                      rw [hbe]
                      exact ⟨rfl, b11, c11, rfl, hc11, hA11⟩
                    · skip
                      simp only [cmpInt, beq_eq_false_iff_ne] at h9
                      refine XC.draw m_mixed (some 10) (.pure 0 (.pure 1 (.pure 2 (.pure 3 (.pure 4 (.pure 5 (.eff 6 (.eff 7 (.eff 8 (.pure 9 (.eff 10 (.done)))))))))))) _ (by kernel_rfl) (List.Sublist.cons _ (List.Sublist.refl _)) ?_
                      refine XR.rd rfl rfl rfl (fa37_1 rfl) ?_
                      refine XR.rd rfl rfl rfl (Reads.load_own k35 rfl (by first | exact OwnAt.of 0 rfl rfl | exact OwnAt.of 1 rfl rfl | exact OwnAt.of 2 rfl rfl | exact OwnAt.of 3 rfl rfl | exact OwnAt.of 4 rfl rfl | exact OwnAt.of 5 rfl rfl)) ?_
                      refine XR.rd rfl rfl rfl (fa37_1 rfl) ?_
                      refine XR.rd rfl rfl rfl (Reads.load_own k35 rfl (by first | exact OwnAt.of 0 rfl rfl | exact OwnAt.of 1 rfl rfl | exact OwnAt.of 2 rfl rfl | exact OwnAt.of 3 rfl rfl | exact OwnAt.of 4 rfl rfl | exact OwnAt.of 5 rfl rfl)) ?_
                      refine XR.rd rfl rfl rfl (Reads.move rfl) ?_
                      refine XR.rd rfl rfl rfl (Reads.index_slot (q := k * 3) Tryd.underlying35 z53 rfl (by rw [hkk]; rfl) (by simp only; omega) (by obtain ⟨_, _, h9⟩ := ha1; rw [h9]; rfl) rfl) ?_
                      refine XR.rde rfl rfl rfl rfl (Reads.load_agg_rd (vs := (x.h k).cs) k53 z53 rfl ha1 (fun i v hi => vec_rd (e := 53) hV (by simp) hk3 (by rw [← hxk]; exact hi))) (List.Sublist.cons _ (List.Sublist.refl _)) ?_
                      refine XR.buildL [.agg (x.h k).cs.toArray] (x.h k).cs rfl rfl rfl Tryd.underlying35 el53 rfl (by simp) ⟨rfl, rfl, trivial⟩ rfl rfl (List.Sublist.cons _ (List.Sublist.refl _)) (fun bu => ?_)
                      refine XR.append (V := (⟨blk, x.hs.length, cp⟩ : Vec)) (news := (x.h k).cs) 1 rfl rfl rfl Tryd.underlying35 el53 rfl rfl hV rfl (.slice Tryd.underlying35 (.inr (.inr ⟨bu, 0, rfl, fun j v hj => ⟨(x.h k).cs.toArray, 53, (0, 0), by simp, by simpa using hj⟩⟩)) rfl (by simp [Value.oneCell'])) (by simp only; omega) (by simp only; omega) ?_
                      intro V3 hV3 _
                      have hV4 : V3.Is 3 (handC (x.hs ++ [x.h k])) := by rw [handC_append]; simpa [handC] using hV3
                      refine ⟨.inr (List.Sublist.cons _ (List.Sublist.cons _ (List.Sublist.refl _))), ?_⟩
                      refine XR.rd rfl rfl rfl (fa37_1 rfl) ?_
                      refine XR.store 2 rfl rfl z35 rfl rfl rfl rfl (by simp) (.inl rfl) ?_
                      refine XR.nil ?_
                      refine XQ.block_normal ?_
                      refine XQ.then_normal ?_
                      refine XC.seq ?_
                      refine XC.region ?_
                      refine XO.rd rfl rfl rfl (Reads.load_whole k37 z37 rfl (by first | exact WholeAt.of 0 rfl | exact WholeAt.of 1 rfl | exact WholeAt.of 2 rfl | exact WholeAt.of 3 rfl | exact WholeAt.of 4 rfl | exact WholeAt.of 5 rfl) (by rfl)) ?_
                      first | (refine XO.store_agg (vs := [.int .i64 n, .int .i64 x.d.b, .int .i64 x.d.t, .int .i64 x.d.n, (⟨blk, x.hs.length, cp⟩ : Vec).val]) 2 rfl z37 rfl rfl (by simp [Value.oneCell']) rfl (by simp) ?_) | (refine XO.store_agg (vs := [.int .i64 x.d.a, .int .i64 n, .int .i64 x.d.t, .int .i64 x.d.n, (⟨blk, x.hs.length, cp⟩ : Vec).val]) 2 rfl z37 rfl rfl (by simp [Value.oneCell']) rfl (by simp) ?_) | (refine XO.store_agg (vs := [.int .i64 x.d.a, .int .i64 x.d.b, .int .i64 n, .int .i64 x.d.n, (⟨blk, x.hs.length, cp⟩ : Vec).val]) 2 rfl z37 rfl rfl (by simp [Value.oneCell']) rfl (by simp) ?_) | (refine XO.store_agg (vs := [.int .i64 x.d.a, .int .i64 x.d.b, .int .i64 x.d.t, .int .i64 n, (⟨blk, x.hs.length, cp⟩ : Vec).val]) 2 rfl z37 rfl rfl (by simp [Value.oneCell']) rfl (by simp) ?_) | (refine XO.store_agg (vs := [.int .i64 x.d.a, .int .i64 x.d.b, .int .i64 x.d.t, .int .i64 x.d.n, (⟨blk, x.hs.length, cp⟩ : Vec).val]) 2 rfl z37 rfl rfl (by simp [Value.oneCell']) rfl (by simp) ?_) | (refine XO.store_agg (vs := [.int .i64 x.d.a, .int .i64 x.d.b, .int .i64 x.d.t, .int .i64 x.d.n, .slice b11 (x.hs.take k ++ x.hs.drop (k + 1)).length c11]) 1 rfl z37 rfl rfl (by simp [Value.oneCell']) rfl (by simp) ?_) | (refine XO.store_agg (vs := [.int .i64 x.d.a, .int .i64 x.d.b, .int .i64 x.d.t, .int .i64 x.d.n, V3.val]) 3 rfl z37 rfl rfl (by simp [Value.oneCell']) rfl (by simp) ?_) | (refine XO.store_agg (vs := [.int .i64 x.d.a, .int .i64 x.d.b, .int .i64 x.d.t, .int .i64 x.d.n, V3.val]) 2 rfl z37 rfl rfl (by simp [Value.oneCell']) rfl (by simp) ?_)
                      refine XO.nil ?_
                      refine XQ.then_normal ?_
                      refine XC.ret ?_
                      have hbe : bent x how n at_ = ⟨x.d, x.hs ++ [x.h k]⟩ := by unfold bent bentK; rw [hkk]; rw [if_neg (by omega)]; rw [if_neg (by omega)]; rw [if_neg (by omega)]; rw [if_neg (by omega)]; rw [if_neg (by omega)]; rw [if_neg (by omega)]; rw [if_neg (by omega)]; rw [if_neg (by omega)]; rfl
                      refine XQ.dropn 1 ?_
                      refine XQ.give_vec (fun hb => ?_)
                      refine XQ.done1ca [] 3 rfl k37 z37 rfl (WholeAt.of 1 rfl) rfl rfl (Im.le_trans hI (Vec.le_give hb)) ?_
                      obtain ⟨a9, c9, h91, h92, h93⟩ := (Vec.sl (e := 53) (α := Hand) (by decide) hV4 (flat_hand _ _) hb).2.ex
                      rw [hbe]
                      exact ⟨rfl, a9, c9, congrArg (fun z => Value.agg #[.int .i64 x.d.a, .int .i64 x.d.b, .int .i64 x.d.t, .int .i64 x.d.n, z]) h91, h92, h93⟩

end Go.Proofs.YtmlliafhpbfdbaaDoor
