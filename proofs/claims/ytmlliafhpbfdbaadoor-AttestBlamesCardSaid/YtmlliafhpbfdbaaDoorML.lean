/- Walk: an attestation that is passed on, hand by hand. Walk: the strings that are hashed. Walk: a level that is changed, sealed rightly. -/
import Derived.Test.YtmlliafhpbfdbaaDoorMJ
import Derived.Test.YtmlliafhpbfdbaaDoorMH
import Derived.Test.YtmlliafhpbfdbaaDoorMI
import Derived.Test.YtmlliafhpbfdbaaDoorMG
import Derived.Test.YtmlliafhpbfdbaaDoorMK
import Derived.Test.YtmlliafhpbfdbaaDoorMC
namespace Go.Proofs.YtmlliafhpbfdbaaDoor
open Go.Xe Go.Sh Go Go.At

set_option maxHeartbeats 1600000 in
theorem passed_any (n : Num) (a : Option Addr) (cap : Nat) (I : Im) (hn : n.In) (hC : Arr I a n.cars) (hcl : n.cars.length ≤ 9223372036854775807) (hG : Glob I) : FC Tryd.prog 42 [.agg (n.cs a cap).toArray] I (fun u I' => ∃ a c, u = .tuple #[.agg (n.made.cs a c).toArray, .bool true] ∧ n.made.hs.length ≤ c ∧ Arr I' a n.made.hs) := by
  have hI := Im.le_refl I
  have hr0 := n.car_range 0
  refine FSo.intro (n := 81) Tryd.func42 rfl rfl rfl (fun K Lf => ?_)
  refine XC.seq ?_
  refine XC.region ?_
  refine XO.box_agg rfl rfl rfl (fun b1 => ?_)
  refine XO.alloc (cs := #[.int .i64 0, .int .i64 0, .int .i64 0, .int .i64 0, .slice none 0 0]) rfl rfl zo37 rfl (fun b2 => ?_)
  refine XO.rd rfl rfl rfl (Reads.assign rfl) ?_
  refine XO.nil ?_
  refine XQ.then_normal ?_
  refine XC.seq ?_
  refine XC.region ?_
  refine XO.call rfl rfl en15 (all_any _) trivial ?_
  rintro u J47 hle47 hr
  replace hI := Im.le_trans hI hle47
  replace hG := hG.mono hle47
  replace hC := hC.mono hle47
  obtain ⟨ak, ck, rfl, hck, hK⟩ := hr.ex
  refine XO.rd rfl rfl rfl (Reads.assign rfl) ?_
  refine XO.nil ?_
  refine XQ.then_normal ?_
  refine XC.seq ?_
  refine XC.region ?_
  refine XO.rd rfl rfl rfl (Reads.load_whole k26 z26 rfl (by first | exact WholeAt.of 0 rfl | exact WholeAt.of 1 rfl | exact WholeAt.of 2 rfl | exact WholeAt.of 3 rfl | exact WholeAt.of 4 rfl | exact WholeAt.of 5 rfl) (by rfl)) ?_
  refine XO.call rfl rfl en22 (knows_any n a cap _ hn) ⟨rfl, trivial⟩ ?_
  rintro u J48 hle48 hr
  replace hI := Im.le_trans hI hle48
  replace hG := hG.mono hle48
  replace hC := hC.mono hle48
  replace hK := hK.mono hle48
  obtain ⟨aw, cw, rfl, hcw, hKn⟩ := hr.ex
  refine XO.rd rfl rfl rfl (Reads.assign rfl) ?_
  refine XO.nil ?_
  refine XQ.then_normal ?_
  refine XC.seq ?_
  refine XC.region ?_
  refine XO.rd rfl rfl rfl (Reads.assign rfl) ?_
  refine XO.nil ?_
  refine XQ.then_normal ?_
  refine XC.seq ?_
  refine XC.seq ?_
  refine XC.region ?_
  refine XO.rd rfl rfl rfl (fa26_2 rfl) ?_
  refine XO.rd rfl rfl rfl (Reads.load_own (v := .slice a n.cars.length cap) k23 rfl (by first | exact OwnAt.of 0 rfl rfl | exact OwnAt.of 1 rfl rfl | exact OwnAt.of 2 rfl rfl | exact OwnAt.of 3 rfl rfl | exact OwnAt.of 4 rfl rfl)) ?_
  refine XO.rd rfl rfl rfl (Reads.len_slice Tryd.underlying23 rfl) ?_
  refine XO.rd rfl rfl rfl (Reads.cmp rfl rfl rfl) ?_
  refine XO.nil ?_
  refine XQ.then_normal ?_
  refine XC.join (ι := Int) (fun q => [(1, .pointer (some ⟨b1, 0, none⟩)), (2, .pointer (some ⟨b2, 0, none⟩)), (4, .slice ak allK.length ck), (5, .slice aw n.knows.length cw), (6, .int .i64 q)]) (fun q => J48) (fun q => some (b2, .cells #[.int .i64 0, .int .i64 0, .int .i64 0, .int .i64 0, .slice none 0 0] 37 (0, 0)) :: some (b1, .cells (n.cs a cap).toArray 26 (0, 0)) :: ([] ++ Lf)) (fun q => q = n.car 0) ?_ (fun q hq => ?_)
  · skip
    refine XC.cond rfl (fun h1 => ?_) (fun h1 => ?_)
    · skip
      simp only [cmpInt, decide_eq_true_eq] at h1
      have hc0 : pickI (n.cars.getD 0 0) 8 = n.car 0 := by rw [Num.car, if_pos (by omega)]
      refine XC.region ?_
      refine XO.rd rfl rfl rfl (fa26_2 rfl) ?_
      refine XO.rd rfl rfl rfl (Reads.load_own (v := .slice a n.cars.length cap) k23 rfl (by first | exact OwnAt.of 0 rfl rfl | exact OwnAt.of 1 rfl rfl | exact OwnAt.of 2 rfl rfl | exact OwnAt.of 3 rfl rfl | exact OwnAt.of 4 rfl rfl)) ?_
      refine XO.rd rfl rfl rfl (Reads.index_slot (q := 0) Tryd.underlying23 z3 rfl rfl (by omega) (hC.isSome (by decide) (by omega)) rfl) ?_
      refine XO.rd rfl rfl rfl (Reads.load_at (v := .int .i64 (n.cars.getD 0 0)) k3 rfl (by rw [List.getD_eq_getElem?_getD, List.getElem?_eq_getElem (by omega : 0 < n.cars.length)]; exact hC.int (j := 0) (by omega))) ?_
      refine XO.callp rfl rfl en16 (pickL_any _ 8 _ (getD64 hn.cars) (by decide)) ⟨rfl, rfl, trivial⟩ ?_
      refine XO.rd rfl rfl rfl (Reads.assign rfl) ?_
      refine XO.nil ?_
      refine XQ.joined (pickI (n.cars.getD 0 0) 8) hc0 ⟨rfl, rfl, rfl, rfl, rfl, trivial⟩ rfl (List.Perm.refl _)
    · skip
      simp only [cmpInt, decide_eq_false_iff_not] at h1
      have hc0 : (0 : Int) = n.car 0 := by rw [Num.car, if_neg (by omega)]
      refine XC.skip ?_
      refine XQ.joined 0 hc0 ⟨rfl, rfl, rfl, rfl, rfl, trivial⟩ rfl (List.Perm.refl _)
  · skip
    subst hq
    refine XQ.then_normal ?_
    refine XC.seq ?_
    refine XC.join (ι := Im × Option Addr × Nat × Nat) (fun q => [(1, .pointer (some ⟨b1, 0, none⟩)), (2, .pointer (some ⟨b2, 0, none⟩)), (4, .slice ak allK.length ck), (5, .slice aw n.knows.length cw), (6, .int .i64 (n.car 0)), (7, .pointer (some ⟨q.2.2.2, 0, none⟩)), (8, .int .i64 0)]) (fun q => q.1) (fun q => some (q.2.2.2, .cells ((n.madeN 0).cs q.2.1 q.2.2.1).toArray 37 (0, 0)) :: some (b2, .cells #[.int .i64 0, .int .i64 0, .int .i64 0, .int .i64 0, .slice none 0 0] 37 (0, 0)) :: some (b1, .cells (n.cs a cap).toArray 26 (0, 0)) :: ([] ++ Lf)) (fun q => I.le q.1 ∧ Arr q.1 a n.cars ∧ Glob q.1 ∧ Arr q.1 ak allK ∧ Arr q.1 aw n.knows ∧ (n.madeN 0).hs.length ≤ q.2.2.1 ∧ Arr q.1 q.2.1 (n.madeN 0).hs) ?_ (fun q hq => ?_)
    · skip
      refine XC.draw m_mixed none (.pure 0 (.pure 1 (.pure 2 (.pure 3 (.pure 4 (.pure 5 (.pure 7 (.pure 8 (.pure 9 (.alt 6 (.alt 10 (.alt 11 (.pure 12 (.pure 13 (.pure 14 (.eff 15 (.eff 16 (.pure 17 (.done))))))) (.eff 15 (.eff 11 (.pure 12 (.pure 13 (.pure 14 (.eff 16 (.pure 17 (.done))))))))) (.eff 15 (.eff 10 (.eff 11 (.pure 12 (.pure 13 (.pure 14 (.eff 16 (.pure 17 (.done)))))))))) (.eff 15 (.eff 6 (.eff 10 (.eff 11 (.pure 12 (.pure 13 (.pure 14 (.eff 16 (.pure 17 (.done)))))))))))))))))))) _ (by kernel_rfl) (List.Sublist.refl _) ?_
      refine XR.rd rfl rfl rfl (Reads.move rfl) ?_
      refine XR.rd rfl rfl rfl (Reads.move rfl) ?_
      refine XR.rd rfl rfl rfl (Reads.index_slot (q := (n.car 0).toNat) Tryd.underlying29 z9 rfl rfl (by rw [allK_len]; omega) (hK.isSome (by decide) (by rw [allK_len]; omega)) (by omega)) ?_
      refine XR.rd rfl rfl rfl (Reads.load_at (v := .string (keyC (n.car 0).toNat)) k9 rfl (by rw [← allK_get (i := (n.car 0).toNat) (by omega)]; exact hK.str_at (by rw [allK_len]; omega) rfl)) ?_
      refine XR.rd rfl rfl rfl (fa26_0 rfl) ?_
      refine XR.rd rfl rfl rfl (Reads.load_agg_own (vs := [.int .i64 n.d0, .int .i64 n.d1, .int .i64 n.d2, .int .i64 n.d3]) k22 z22 rfl (fun j v hj => OwnAt.of 1 rfl (num_dial hj))) ?_
      refine XR.rd rfl rfl rfl (Reads.move rfl) ?_
      refine XR.rd rfl rfl rfl (fa26_1 rfl) ?_
      refine XR.rd rfl rfl rfl (Reads.load_own (v := .int .i64 n.lv) k3 rfl (by first | exact OwnAt.of 0 rfl rfl | exact OwnAt.of 1 rfl rfl | exact OwnAt.of 2 rfl rfl)) ?_
      refine XR.alt ?_ ?_
      · skip
        refine XR.callp rfl rfl rfl en37 (dial_any _ _ _ _ _ hn.d0 hn.d1 hn.d2 hn.d3) ⟨rfl, trivial⟩ (List.Sublist.refl _) ?_
        refine XR.alt ?_ ?_
        · skip
          refine XR.callp rfl rfl rfl en16 (pickL_any _ 4 _ hn.lv (by decide)) ⟨rfl, rfl, trivial⟩ (List.Sublist.refl _) ?_
          refine XR.alt ?_ ?_
          · skip
            refine XR.call rfl rfl rfl en38 (begin_any (keyC (n.car 0).toNat) n.dial (n.car 0) (pickI n.lv 4) _ (by rw [keyC_size]; decide) hG) ⟨rfl, rfl, rfl, rfl, trivial⟩ (List.Sublist.refl _) ?_
            rintro u J49 hle49 hr
            replace hI := Im.le_trans hI hle49
            replace hG := hG.mono hle49
            replace hC := hC.mono hle49
            replace hK := hK.mono hle49
            replace hKn := hKn.mono hle49
            rw [n.madeN_begin] at hr
            obtain ⟨v9, e9, rfl, hy9, _⟩ := hr
            obtain ⟨rfl, a0, c0, rfl, hcp0, hA0⟩ := hy9 _ rfl
            refine XR.rd rfl rfl rfl (Reads.move rfl) ?_
            refine XR.rd rfl rfl rfl (Reads.extract rfl rfl) ?_
            refine XR.rd rfl rfl rfl (Reads.extract rfl rfl) ?_
            refine XR.alloc (cs := #[.int .i64 0, .int .i64 0, .int .i64 0, .int .i64 0, .slice none 0 0]) rfl rfl rfl zo37 rfl (List.Sublist.refl _) (fun b6 => ?_)
            refine XR.store_agg (vs := (n.madeN 0).cs a0 c0) 0 rfl rfl z37 rfl rfl (by simp [Value.oneCell']) rfl (by simp) (.inr (List.Sublist.cons _ (List.Sublist.refl _))) ?_
            refine XR.rd rfl rfl rfl (Reads.assign rfl) ?_
            refine XR.nil ?_
            refine XQ.joined (_, a0, c0, b6) ⟨hI, hC, hG, hK, hKn, hcp0, hA0⟩ ⟨rfl, rfl, rfl, rfl, rfl, rfl, rfl, trivial⟩ rfl (List.Perm.refl _)
          · skip
            refine XR.alloc (cs := #[.int .i64 0, .int .i64 0, .int .i64 0, .int .i64 0, .slice none 0 0]) rfl rfl rfl zo37 rfl (List.Sublist.refl _) (fun b6 => ?_)
            refine XR.call rfl rfl rfl en38 (begin_any (keyC (n.car 0).toNat) n.dial (n.car 0) (pickI n.lv 4) _ (by rw [keyC_size]; decide) hG) ⟨rfl, rfl, rfl, rfl, trivial⟩ (List.Sublist.cons _ (List.Sublist.refl _)) ?_
            rintro u J50 hle50 hr
            replace hI := Im.le_trans hI hle50
            replace hG := hG.mono hle50
            replace hC := hC.mono hle50
            replace hK := hK.mono hle50
            replace hKn := hKn.mono hle50
            rw [n.madeN_begin] at hr
            obtain ⟨v9, e9, rfl, hy9, _⟩ := hr
            obtain ⟨rfl, a0, c0, rfl, hcp0, hA0⟩ := hy9 _ rfl
            refine XR.rd rfl rfl rfl (Reads.move rfl) ?_
            refine XR.rd rfl rfl rfl (Reads.extract rfl rfl) ?_
            refine XR.rd rfl rfl rfl (Reads.extract rfl rfl) ?_
            refine XR.store_agg (vs := (n.madeN 0).cs a0 c0) 0 rfl rfl z37 rfl rfl (by simp [Value.oneCell']) rfl (by simp) (.inr (List.Sublist.cons _ (List.Sublist.refl _))) ?_
            refine XR.rd rfl rfl rfl (Reads.assign rfl) ?_
            refine XR.nil ?_
            refine XQ.joined (_, a0, c0, b6) ⟨hI, hC, hG, hK, hKn, hcp0, hA0⟩ ⟨rfl, rfl, rfl, rfl, rfl, rfl, rfl, trivial⟩ rfl (List.Perm.refl _)
        · skip
          refine XR.alloc (cs := #[.int .i64 0, .int .i64 0, .int .i64 0, .int .i64 0, .slice none 0 0]) rfl rfl rfl zo37 rfl (List.Sublist.refl _) (fun b6 => ?_)
          refine XR.callp rfl rfl rfl en16 (pickL_any _ 4 _ hn.lv (by decide)) ⟨rfl, rfl, trivial⟩ (List.Sublist.cons _ (List.Sublist.refl _)) ?_
          refine XR.call rfl rfl rfl en38 (begin_any (keyC (n.car 0).toNat) n.dial (n.car 0) (pickI n.lv 4) _ (by rw [keyC_size]; decide) hG) ⟨rfl, rfl, rfl, rfl, trivial⟩ (List.Sublist.cons _ (List.Sublist.refl _)) ?_
          rintro u J51 hle51 hr
          replace hI := Im.le_trans hI hle51
          replace hG := hG.mono hle51
          replace hC := hC.mono hle51
          replace hK := hK.mono hle51
          replace hKn := hKn.mono hle51
          rw [n.madeN_begin] at hr
          obtain ⟨v9, e9, rfl, hy9, _⟩ := hr
          obtain ⟨rfl, a0, c0, rfl, hcp0, hA0⟩ := hy9 _ rfl
          refine XR.rd rfl rfl rfl (Reads.move rfl) ?_
          refine XR.rd rfl rfl rfl (Reads.extract rfl rfl) ?_
          refine XR.rd rfl rfl rfl (Reads.extract rfl rfl) ?_
          refine XR.store_agg (vs := (n.madeN 0).cs a0 c0) 0 rfl rfl z37 rfl rfl (by simp [Value.oneCell']) rfl (by simp) (.inr (List.Sublist.cons _ (List.Sublist.refl _))) ?_
          refine XR.rd rfl rfl rfl (Reads.assign rfl) ?_
          refine XR.nil ?_
          refine XQ.joined (_, a0, c0, b6) ⟨hI, hC, hG, hK, hKn, hcp0, hA0⟩ ⟨rfl, rfl, rfl, rfl, rfl, rfl, rfl, trivial⟩ rfl (List.Perm.refl _)
      · skip
        refine XR.alloc (cs := #[.int .i64 0, .int .i64 0, .int .i64 0, .int .i64 0, .slice none 0 0]) rfl rfl rfl zo37 rfl (List.Sublist.refl _) (fun b6 => ?_)
        refine XR.callp rfl rfl rfl en37 (dial_any _ _ _ _ _ hn.d0 hn.d1 hn.d2 hn.d3) ⟨rfl, trivial⟩ (List.Sublist.cons _ (List.Sublist.refl _)) ?_
        refine XR.callp rfl rfl rfl en16 (pickL_any _ 4 _ hn.lv (by decide)) ⟨rfl, rfl, trivial⟩ (List.Sublist.cons _ (List.Sublist.refl _)) ?_
        refine XR.call rfl rfl rfl en38 (begin_any (keyC (n.car 0).toNat) n.dial (n.car 0) (pickI n.lv 4) _ (by rw [keyC_size]; decide) hG) ⟨rfl, rfl, rfl, rfl, trivial⟩ (List.Sublist.cons _ (List.Sublist.refl _)) ?_
        rintro u J52 hle52 hr
        replace hI := Im.le_trans hI hle52
        replace hG := hG.mono hle52
        replace hC := hC.mono hle52
        replace hK := hK.mono hle52
        replace hKn := hKn.mono hle52
        rw [n.madeN_begin] at hr
        obtain ⟨v9, e9, rfl, hy9, _⟩ := hr
        obtain ⟨rfl, a0, c0, rfl, hcp0, hA0⟩ := hy9 _ rfl
        refine XR.rd rfl rfl rfl (Reads.move rfl) ?_
        refine XR.rd rfl rfl rfl (Reads.extract rfl rfl) ?_
        refine XR.rd rfl rfl rfl (Reads.extract rfl rfl) ?_
        refine XR.store_agg (vs := (n.madeN 0).cs a0 c0) 0 rfl rfl z37 rfl rfl (by simp [Value.oneCell']) rfl (by simp) (.inr (List.Sublist.cons _ (List.Sublist.refl _))) ?_
        refine XR.rd rfl rfl rfl (Reads.assign rfl) ?_
        refine XR.nil ?_
        refine XQ.joined (_, a0, c0, b6) ⟨hI, hC, hG, hK, hKn, hcp0, hA0⟩ ⟨rfl, rfl, rfl, rfl, rfl, rfl, rfl, trivial⟩ rfl (List.Perm.refl _)
    · skip
      obtain ⟨M0, a0, c0, b6⟩ := q
      obtain ⟨hI, hC, hG, hK, hKn, hcp0, hA0⟩ := hq
      simp only at hI hC hK hKn hcp0 hA0 ⊢
      refine XQ.then_normal ?_
      refine XC.seq ?_
      refine XC.seq ?_
      refine XC.region ?_
      refine XO.rd rfl rfl rfl (Reads.assign rfl) ?_
      refine XO.nil ?_
      refine XQ.then_normal ?_
      refine XC.block ?_
      refine XC.loop (ι := Nat × Im × Option Addr × Nat) (fun q => [(1, .pointer (some ⟨b1, 0, none⟩)), (2, .pointer (some ⟨b2, 0, none⟩)), (4, .slice ak allK.length ck), (5, .slice aw n.knows.length cw), (6, .int .i64 (n.car q.1)), (7, .pointer (some ⟨b6, 0, none⟩)), (8, .int .i64 0), (9, .int .i64 ((q.1 : Int) + 1))]) (fun q => q.2.1) (fun q => some (b6, .cells ((n.madeN q.1).cs q.2.2.1 q.2.2.2).toArray 37 (0, 0)) :: some (b2, .cells #[.int .i64 0, .int .i64 0, .int .i64 0, .int .i64 0, .slice none 0 0] 37 (0, 0)) :: some (b1, .cells (n.cs a cap).toArray 26 (0, 0)) :: ([] ++ Lf)) (fun q => I.le q.2.1 ∧ Arr q.2.1 a n.cars ∧ Glob q.2.1 ∧ Arr q.2.1 ak allK ∧ Arr q.2.1 aw n.knows ∧ (n.madeN q.1).hs.length ≤ q.2.2.2 ∧ Arr q.2.1 q.2.2.1 (n.madeN q.1).hs ∧ q.1 ≤ 5 ∧ (q.1 = 0 ∨ q.1 < n.cars.length)) (fun q => 5 - q.1) (0, M0, a0, c0) ⟨hI, hC, hG, hK, hKn, hcp0, hA0, Nat.zero_le _, .inl rfl⟩ ⟨rfl, rfl, rfl, rfl, rfl, rfl, rfl, rfl, trivial⟩ rfl (List.Perm.refl _) (fun q hq => ?_)
      obtain ⟨i, J, aq, cq⟩ := q
      obtain ⟨hI, hC, hG, hK, hKn, hcq, hAq, hi5, hi0⟩ := hq
      simp only at hI hC hK hKn hcq hAq hi5 hi0 ⊢
      have hri := n.car_range i
      have hri1 := n.car_range (i + 1)
      have hp7 := pickI_range (c := n.cars.getD (i + 1) 0) (n := 7) (by decide)
      refine XC.seq ?_
      refine XC.seq ?_
      refine XC.region ?_
      refine XO.rd rfl rfl rfl (Reads.move rfl) ?_
      refine XO.rd rfl rfl rfl (fa26_2 rfl) ?_
      refine XO.rd rfl rfl rfl (Reads.load_own (v := .slice a n.cars.length cap) k23 rfl (by first | exact OwnAt.of 0 rfl rfl | exact OwnAt.of 1 rfl rfl | exact OwnAt.of 2 rfl rfl | exact OwnAt.of 3 rfl rfl | exact OwnAt.of 4 rfl rfl)) ?_
      refine XO.rd rfl rfl rfl (Reads.len_slice Tryd.underlying23 rfl) ?_
      refine XO.rd rfl rfl rfl (Reads.cmp rfl rfl rfl) ?_
      refine XO.rd rfl rfl rfl (Reads.move rfl) ?_
      refine XO.split (d := 42) rfl (fun h2 => ?_) (fun h2 => ?_)
      · skip
        simp only [cmpInt, decide_eq_true_eq] at h2
        have hm1 : i + 1 < n.cars.length := by omega
        refine XO.rd (wg rfl rfl rfl) rfl rfl (Reads.move rfl) ?_
        refine XO.rd (wg rfl rfl rfl) rfl rfl (Reads.cmp rfl rfl rfl) ?_
        refine XO.rd rfl rfl rfl (Reads.pick_true rfl rfl) ?_
        refine XO.rd rfl rfl rfl (Reads.move rfl) ?_
        refine XO.split (d := 46) rfl (fun h3 => ?_) (fun h3 => ?_)
        · skip
          simp only [cmpInt, decide_eq_true_eq] at h3
          have hi6 : i + 1 < 6 := by omega
          refine XO.rd (wg rfl rfl rfl) rfl rfl (Reads.move rfl) ?_
          refine XO.rd (wg rfl rfl rfl) rfl rfl (Reads.cmp_yes rfl rfl rfl rfl) ?_
          refine XO.rd rfl rfl rfl (Reads.pick_true rfl rfl) ?_
          refine XO.nil ?_
          refine XQ.then_normal ?_
          refine XC.cond rfl (fun _ => ?_) (fun hx => by cases hx)
          refine XC.skip ?_
          refine XQ.then_normal ?_
          refine XC.seq ?_
          refine XC.block ?_
          refine XC.seq ?_
          refine XC.region ?_
          refine XO.rd rfl rfl rfl (Reads.move rfl) ?_
          refine XO.rd rfl rfl rfl (Reads.add rfl rfl (by omega)) ?_
          refine XO.rd rfl rfl rfl (fa26_2 rfl) ?_
          refine XO.rd rfl rfl rfl (Reads.load_own (v := .slice a n.cars.length cap) k23 rfl (by first | exact OwnAt.of 0 rfl rfl | exact OwnAt.of 1 rfl rfl | exact OwnAt.of 2 rfl rfl | exact OwnAt.of 3 rfl rfl | exact OwnAt.of 4 rfl rfl)) ?_
          refine XO.rd rfl rfl rfl (Reads.move rfl) ?_
          refine XO.rd rfl rfl rfl (Reads.index_slot (q := i + 1) Tryd.underlying23 z3 rfl rfl (by omega) (hC.isSome (by decide) (by omega)) (by omega)) ?_
          refine XO.rd rfl rfl rfl (Reads.load_at (v := .int .i64 (n.cars.getD (i + 1) 0)) k3 rfl (by rw [List.getD_eq_getElem?_getD, List.getElem?_eq_getElem (by omega : i + 1 < n.cars.length)]; have h9 := hC.int (j := i + 1) (by omega); rw [Nat.mul_one] at h9; exact h9)) ?_
          refine XO.callp rfl rfl en16 (pickL_any _ 7 _ (getD64 hn.cars) (by decide)) ⟨rfl, rfl, trivial⟩ ?_
          refine XO.rd rfl rfl rfl (Reads.add rfl rfl (by omega)) ?_
          refine XO.rd rfl rfl rfl (Reads.rem rfl rfl (by omega) (by decide)) ?_
          rw [show (n.car i + 1 + pickI (n.cars.getD (i + 1) 0) 7) % 8 = n.car (i + 1) from rfl]
          refine XO.rd rfl rfl rfl (Reads.assign rfl) ?_
          refine XO.nil ?_
          refine XQ.then_normal ?_
          refine XC.draw m_mixed none (.pure 0 (.pure 1 (.pure 2 (.pure 3 (.pure 4 (.pure 5 (.pure 6 (.pure 7 (.pure 8 (.pure 11 (.alt 9 (.eff 10 (.eff 12 (.pure 13 (.pure 14 (.pure 15 (.eff 16 (.pure 17 (.done)))))))) (.eff 10 (.eff 9 (.eff 12 (.pure 13 (.pure 14 (.pure 15 (.eff 16 (.pure 17 (.done)))))))))))))))))))) _ (by kernel_rfl) (List.Sublist.cons _ (List.Sublist.refl _)) ?_
          refine XR.rd rfl rfl rfl (Reads.move rfl) ?_
          refine XR.rd rfl rfl rfl (Reads.move rfl) ?_
          refine XR.rd rfl rfl rfl (Reads.index_slot (q := (n.car (i + 1)).toNat) Tryd.underlying29 z9 rfl rfl (by rw [allK_len]; omega) (hK.isSome (by decide) (by rw [allK_len]; omega)) (by omega)) ?_
          refine XR.rd rfl rfl rfl (Reads.load_at (v := .string (keyC (n.car (i + 1)).toNat)) k9 rfl (by rw [← allK_get (i := (n.car (i + 1)).toNat) (by omega)]; exact hK.str_at (by rw [allK_len]; omega) rfl)) ?_
          refine XR.rd rfl rfl rfl (Reads.move rfl) ?_
          refine XR.rd rfl rfl rfl (Reads.move rfl) ?_
          refine XR.rd rfl rfl rfl (Reads.move rfl) ?_
          refine XR.rd rfl rfl rfl (Reads.index_slot (q := (n.car (i + 1)).toNat) Tryd.underlying23 z3 rfl rfl (by rw [n.knows_len]; omega) (hKn.isSome (by decide) (by rw [n.knows_len]; omega)) (by omega)) ?_
          refine XR.rd rfl rfl rfl (Reads.load_at (v := .int .i64 (n.set (n.car (i + 1)) : Int)) k3 rfl (by rw [num_set n (n.car_range (i + 1))]; have h9 := hKn.int (j := (n.car (i + 1)).toNat) (by rw [n.knows_len]; omega); rw [Nat.mul_one] at h9; exact h9)) ?_
          refine XR.rd rfl rfl rfl (Reads.move rfl) ?_
          refine XR.alt ?_ ?_
          · skip
            refine XR.call rfl rfl rfl en14 (known_any ak ck allK (n.set (n.car (i + 1))) _ hK (by rw [allK_len]; decide)) ⟨rfl, rfl, trivial⟩ (List.Sublist.cons _ (List.Sublist.refl _)) ?_
            rintro u J53 hle53 hr
            replace hI := Im.le_trans hI hle53
            replace hG := hG.mono hle53
            replace hC := hC.mono hle53
            replace hK := hK.mono hle53
            replace hKn := hKn.mono hle53
            replace hAq := hAq.mono hle53
            obtain ⟨ks, cks, rfl, hcks, hKs⟩ := hr.ex
            refine XR.rde rfl rfl rfl rfl (Reads.load_whole (c := ((n.madeN i).cs aq cq).toArray) k37 z37 rfl (WholeAt.of 0 rfl) (by rfl)) (List.Sublist.cons _ (List.Sublist.refl _)) ?_
            refine XR.call rfl rfl rfl en40 (pass_any (keyC (n.car (i + 1)).toNat) (n.madeN i) aq ks cq cks (known allK (n.set (n.car (i + 1)))) (n.car (i + 1)) _ hAq (by rw [n.madeN_len]; omega) hKs (by rw [known_len, allK_len]; decide) (by rw [keyC_size]; decide) hG) ⟨rfl, rfl, rfl, rfl, trivial⟩ (List.Sublist.cons _ (List.Sublist.refl _)) ?_
            rintro u J54 hle54 hr
            replace hI := Im.le_trans hI hle54
            replace hG := hG.mono hle54
            replace hC := hC.mono hle54
            replace hK := hK.mono hle54
            replace hKn := hKn.mono hle54
            replace hAq := hAq.mono hle54
            replace hKs := hKs.mono hle54
            rw [n.madeN_pass (by omega)] at hr
            obtain ⟨v9, e9, rfl, hy9, _⟩ := hr
            obtain ⟨rfl, a1, c1, rfl, hcp1, hA1⟩ := hy9 _ rfl
            refine XR.rd rfl rfl rfl (Reads.move rfl) ?_
            refine XR.rd rfl rfl rfl (Reads.extract rfl rfl) ?_
            refine XR.rd rfl rfl rfl (Reads.extract rfl rfl) ?_
            refine XR.store_agg (vs := (n.madeN (i + 1)).cs a1 c1) 0 rfl rfl z37 rfl rfl (by simp [Value.oneCell']) rfl (by simp) (.inr (List.Sublist.cons _ (List.Sublist.refl _))) ?_
            refine XR.rd rfl rfl rfl (Reads.assign rfl) ?_
            refine XR.nil ?_
            refine XQ.block_normal ?_
            refine XQ.then_normal ?_
            refine XC.weaken (E' := [(1, _), (2, _), (4, _), (5, _), (6, _), (7, _), (8, _), (9, _)]) ⟨rfl, rfl, rfl, rfl, rfl, rfl, rfl, rfl, trivial⟩ ?_
            refine XC.region ?_
            refine XO.rd rfl rfl rfl (Reads.move rfl) ?_
            refine XO.rd rfl rfl rfl (Reads.add rfl rfl (by omega)) ?_
            refine XO.rd rfl rfl rfl (Reads.assign rfl) ?_
            refine XO.nil ?_
            refine XQ.back (i + 1, _, a1, c1) ⟨hI, hC, hG, hK, hKn, hcp1, hA1, by simp only; omega, .inr (by simp only; omega)⟩ (by simp only; omega) ⟨rfl, rfl, rfl, rfl, rfl, rfl, rfl, rfl, trivial⟩ rfl (List.Perm.refl _)
          · skip
            refine XR.rde rfl rfl rfl rfl (Reads.load_whole (c := ((n.madeN i).cs aq cq).toArray) k37 z37 rfl (WholeAt.of 0 rfl) (by rfl)) (List.Sublist.cons _ (List.Sublist.refl _)) ?_
            refine XR.call rfl rfl rfl en14 (known_any ak ck allK (n.set (n.car (i + 1))) _ hK (by rw [allK_len]; decide)) ⟨rfl, rfl, trivial⟩ (List.Sublist.cons _ (List.Sublist.refl _)) ?_
            rintro u J55 hle55 hr
            replace hI := Im.le_trans hI hle55
            replace hG := hG.mono hle55
            replace hC := hC.mono hle55
            replace hK := hK.mono hle55
            replace hKn := hKn.mono hle55
            replace hAq := hAq.mono hle55
            obtain ⟨ks, cks, rfl, hcks, hKs⟩ := hr.ex
            refine XR.call rfl rfl rfl en40 (pass_any (keyC (n.car (i + 1)).toNat) (n.madeN i) aq ks cq cks (known allK (n.set (n.car (i + 1)))) (n.car (i + 1)) _ hAq (by rw [n.madeN_len]; omega) hKs (by rw [known_len, allK_len]; decide) (by rw [keyC_size]; decide) hG) ⟨rfl, rfl, rfl, rfl, trivial⟩ (List.Sublist.cons _ (List.Sublist.refl _)) ?_
            rintro u J56 hle56 hr
            replace hI := Im.le_trans hI hle56
            replace hG := hG.mono hle56
            replace hC := hC.mono hle56
            replace hK := hK.mono hle56
            replace hKn := hKn.mono hle56
            replace hAq := hAq.mono hle56
            replace hKs := hKs.mono hle56
            rw [n.madeN_pass (by omega)] at hr
            obtain ⟨v9, e9, rfl, hy9, _⟩ := hr
            obtain ⟨rfl, a1, c1, rfl, hcp1, hA1⟩ := hy9 _ rfl
            refine XR.rd rfl rfl rfl (Reads.move rfl) ?_
            refine XR.rd rfl rfl rfl (Reads.extract rfl rfl) ?_
            refine XR.rd rfl rfl rfl (Reads.extract rfl rfl) ?_
            refine XR.store_agg (vs := (n.madeN (i + 1)).cs a1 c1) 0 rfl rfl z37 rfl rfl (by simp [Value.oneCell']) rfl (by simp) (.inr (List.Sublist.cons _ (List.Sublist.refl _))) ?_
            refine XR.rd rfl rfl rfl (Reads.assign rfl) ?_
            refine XR.nil ?_
            refine XQ.block_normal ?_
            refine XQ.then_normal ?_
            refine XC.weaken (E' := [(1, _), (2, _), (4, _), (5, _), (6, _), (7, _), (8, _), (9, _)]) ⟨rfl, rfl, rfl, rfl, rfl, rfl, rfl, rfl, trivial⟩ ?_
            refine XC.region ?_
            refine XO.rd rfl rfl rfl (Reads.move rfl) ?_
            refine XO.rd rfl rfl rfl (Reads.add rfl rfl (by omega)) ?_
            refine XO.rd rfl rfl rfl (Reads.assign rfl) ?_
            refine XO.nil ?_
            refine XQ.back (i + 1, _, a1, c1) ⟨hI, hC, hG, hK, hKn, hcp1, hA1, by simp only; omega, .inr (by simp only; omega)⟩ (by simp only; omega) ⟨rfl, rfl, rfl, rfl, rfl, rfl, rfl, rfl, trivial⟩ rfl (List.Perm.refl _)
        · skip
          simp only [cmpInt, decide_eq_false_iff_not] at h3
          have hi6 : ¬ i + 1 < 6 := by omega
          refine XO.s (wg rfl rfl rfl) rfl ?_
          refine XO.s (wg rfl rfl rfl) rfl ?_
          refine XO.rd rfl rfl rfl (Reads.pick_false rfl rfl) ?_
          refine XO.nil ?_
          refine XQ.then_normal ?_
          refine XC.cond rfl (fun hx => by cases hx) (fun _ => ?_)
          refine XC.exit ?_
          refine XQ.then_exit ?_
          refine XQ.then_exit ?_
          refine XQ.block_exit ?_
          refine XQ.then_normal ?_
          refine XC.seq ?_
          refine XC.region ?_
          refine XO.rd rfl rfl rfl (Reads.load_whole k37 z37 rfl (by first | exact WholeAt.of 0 rfl | exact WholeAt.of 1 rfl | exact WholeAt.of 2 rfl | exact WholeAt.of 3 rfl | exact WholeAt.of 4 rfl | exact WholeAt.of 5 rfl) (by rfl)) ?_
          refine XO.rd rfl rfl rfl (Reads.move rfl) ?_
          refine XO.rd rfl rfl rfl (Reads.cmp_yes rfl rfl rfl rfl) ?_
          refine XO.store_agg (vs := (n.madeN i).cs aq cq) 1 rfl z37 rfl rfl (by simp [Value.oneCell']) rfl (by simp) ?_
          refine XO.rd rfl rfl rfl (Reads.assign rfl) ?_
          refine XO.nil ?_
          refine XQ.then_normal ?_
          refine XC.ret ?_
          refine XQ.done2ca [] 3 rfl k37 z37 rfl rfl (WholeAt.of 1 rfl) rfl rfl hI ?_
          exact ⟨rfl, aq, cq, by rw [Num.made, show n.cnt = i by unfold Num.cnt; omega]; rfl, by rw [Num.made, show n.cnt = i by unfold Num.cnt; omega]; exact hcq, by rw [Num.made, show n.cnt = i by unfold Num.cnt; omega]; exact hAq⟩
      · skip
        simp only [cmpInt, decide_eq_false_iff_not] at h2
        have hm2 : ¬ i + 1 < n.cars.length := by omega
        refine XO.s (wg rfl rfl rfl) rfl ?_
        refine XO.s (wg rfl rfl rfl) rfl ?_
        refine XO.rd rfl rfl rfl (Reads.pick_false rfl rfl) ?_
        refine XO.rd rfl rfl rfl (Reads.move rfl) ?_
        refine XO.s (wg rfl rfl rfl) rfl ?_
        refine XO.s (wg rfl rfl rfl) rfl ?_
        refine XO.rd rfl rfl rfl (Reads.pick_false rfl rfl) ?_
        refine XO.nil ?_
        refine XQ.then_normal ?_
        refine XC.cond rfl (fun hx => by cases hx) (fun _ => ?_)
        refine XC.exit ?_
        refine XQ.then_exit ?_
        refine XQ.then_exit ?_
        refine XQ.block_exit ?_
        refine XQ.then_normal ?_
        refine XC.seq ?_
        refine XC.region ?_
        refine XO.rd rfl rfl rfl (Reads.load_whole k37 z37 rfl (by first | exact WholeAt.of 0 rfl | exact WholeAt.of 1 rfl | exact WholeAt.of 2 rfl | exact WholeAt.of 3 rfl | exact WholeAt.of 4 rfl | exact WholeAt.of 5 rfl) (by rfl)) ?_
        refine XO.rd rfl rfl rfl (Reads.move rfl) ?_
        refine XO.rd rfl rfl rfl (Reads.cmp_yes rfl rfl rfl rfl) ?_
        refine XO.store_agg (vs := (n.madeN i).cs aq cq) 1 rfl z37 rfl rfl (by simp [Value.oneCell']) rfl (by simp) ?_
        refine XO.rd rfl rfl rfl (Reads.assign rfl) ?_
        refine XO.nil ?_
        refine XQ.then_normal ?_
        refine XC.ret ?_
        refine XQ.done2ca [] 3 rfl k37 z37 rfl rfl (WholeAt.of 1 rfl) rfl rfl hI ?_
        exact ⟨rfl, aq, cq, by rw [Num.made, show n.cnt = i by unfold Num.cnt; omega]; rfl, by rw [Num.made, show n.cnt = i by unfold Num.cnt; omega]; exact hcq, by rw [Num.made, show n.cnt = i by unfold Num.cnt; omega]; exact hAq⟩

end Go.Proofs.YtmlliafhpbfdbaaDoor
namespace Go.Proofs.YtmlliafhpbfdbaaDoor
open Go.Xe Go.Sh Go Go.At Go.RowKit

set_option maxHeartbeats 800000 in
theorem hashed_any (x : Att) (a ak : Option Addr) (cap ck k : Nat) (keys : List ByteArray) (I : Im) (hA : Arr I a x.hs) (hn : x.hs.length ≤ 1000) (hsz : ∀ i, i < x.hs.length → (x.h i).s.size ≤ 40) (hK : Arr I ak keys) (hk8 : keys.length = 8) (hks : ∀ k ∈ keys, k.size ≤ 1000) (hcc : ∀ i, i < x.hs.length → 0 ≤ (x.h i).c ∧ (x.h i).c ≤ 7) (hk : k < x.hs.length) : FC Tryd.prog 27 [.slice ak keys.length ck, .agg (x.cs a cap).toArray, .int .i64 (k : Int)] I (fun u I' => Sl I' u (hashA keys x (k + 1))) := by
  refine FSo.intro (n := 44) Tryd.func27 rfl rfl rfl (fun K Lf => ?_)
  refine XC.seq ?_
  refine XC.region ?_
  refine XO.box_agg rfl rfl rfl (fun b4 => ?_)
  refine XO.rd rfl rfl rfl (Reads.assign rfl) ?_
  refine XO.nil ?_
  refine XQ.then_normal ?_
  refine XC.seq ?_
  refine XC.region ?_
  refine XO.rd rfl rfl rfl (Reads.assign rfl) ?_
  refine XO.nil ?_
  refine XQ.then_normal ?_
  refine XC.seq ?_
  refine XC.seq ?_
  refine XC.region ?_
  refine XO.rd rfl rfl rfl (Reads.assign rfl) ?_
  refine XO.nil ?_
  refine XQ.then_normal ?_
  refine XC.block ?_
  refine XC.vec0 9 ?_
  refine XC.loop (ι := Nat × Vec) (fun q => [(0, .slice ak keys.length ck), (2, .int .i64 (k : Int)), (4, .pointer (some ⟨b4, 0, none⟩)), (7, q.2.val), (8, .int .i64 q.1)]) (fun q => I) (fun q => q.2.ent 9 :: some (b4, .cells (x.cs a cap).toArray 37 (0, 0)) :: ([] ++ Lf)) (fun q => q.1 ≤ k + 1 ∧ q.2.Is 1 (strC (hashA keys x q.1))) (fun q => k + 1 - q.1) (0, Vec.nil) ⟨Nat.zero_le _, Vec.nil_is 1⟩ ⟨rfl, rfl, rfl, rfl, rfl, trivial⟩ rfl (List.Perm.refl _) (fun q hq => ?_)
  obtain ⟨i, V⟩ := q
  obtain ⟨hi1, hV⟩ := hq
  simp only at hi1 hV ⊢
  have hVl : V.len = 2 * i := by have h9 := hV.len; rw [strC_len, hashA_len] at h9; omega
  refine XC.seq ?_
  refine XC.seq ?_
  refine XC.region ?_
  refine XO.rd rfl rfl rfl (Reads.move rfl) ?_
  refine XO.rd rfl rfl rfl (Reads.move rfl) ?_
  refine XO.rd rfl rfl rfl (Reads.cmp rfl rfl rfl) ?_
  refine XO.rd rfl rfl rfl (Reads.move rfl) ?_
  refine XO.split (d := 13) rfl (fun h1 => ?_) (fun h1 => ?_)
  · skip
    simp only [cmpInt, decide_eq_true_eq] at h1
    have hi3 : i < x.hs.length := by omega
    have hci := hcc i hi3
    have hc8 : (x.h i).c.toNat < keys.length := by omega
    have hct := content_size x i
    have hbs := before_size hsz hi3
    have hk9 := keyAt_le hk8 hks hci
    refine XO.rd (wg rfl rfl rfl) rfl rfl (Reads.move rfl) ?_
    refine XO.rd (wg rfl rfl rfl) rfl rfl (fa37_1 rfl) ?_
    refine XO.rd (wg rfl rfl rfl) rfl rfl (Reads.load_own k35 rfl (by first | exact OwnAt.of 0 rfl rfl | exact OwnAt.of 1 rfl rfl | exact OwnAt.of 2 rfl rfl | exact OwnAt.of 3 rfl rfl | exact OwnAt.of 4 rfl rfl)) ?_
    refine XO.rd (wg rfl rfl rfl) rfl rfl (Reads.len_slice Tryd.underlying35 rfl) ?_
    refine XO.rd (wg rfl rfl rfl) rfl rfl (Reads.cmp_yes rfl rfl rfl (decide_eq_true (by omega))) ?_
    refine XO.rd rfl rfl rfl (Reads.pick_true rfl rfl) ?_
    refine XO.nil ?_
    refine XQ.then_normal ?_
    refine XC.cond rfl (fun _ => ?_) (fun hx => by cases hx)
    refine XC.skip ?_
    refine XQ.then_normal ?_
    refine XC.seq ?_
    refine XC.block ?_
    refine XC.seq ?_
    refine XC.region ?_
    refine XO.rd rfl rfl rfl (Reads.load_whole k37 z37 rfl (by first | exact WholeAt.of 0 rfl | exact WholeAt.of 1 rfl | exact WholeAt.of 2 rfl | exact WholeAt.of 3 rfl | exact WholeAt.of 4 rfl) (by rfl)) ?_
    refine XO.rd rfl rfl rfl (Reads.move rfl) ?_
    refine XO.callp rfl rfl en44 (rcontent_any x a cap i _ hA hi3 hn hsz) ⟨rfl, rfl, trivial⟩ ?_
    refine XO.rd rfl rfl rfl (Reads.assign rfl) ?_
    refine XO.nil ?_
    refine XQ.then_normal ?_
    refine XC.draw m_mixed none (.pure 0 (.pure 1 (.pure 2 (.pure 3 (.pure 4 (.pure 5 (.pure 6 (.pure 7 (.pure 8 (.pure 9 (.pure 10 (.pure 11 (.pure 12 (.pure 13 (.eff 14 (.pure 15 (.eff 16 (.eff 17 (.pure 18 (.done)))))))))))))))))))) [some (b4, .cells (x.cs a cap).toArray 37 (0, 0))] (by kernel_rfl) (List.Sublist.cons _ (List.Sublist.cons_cons _ (List.nil_sublist _))) ?_
    refine XR.rd rfl rfl rfl (Reads.move rfl) ?_
    refine XR.rd rfl rfl rfl (Reads.move rfl) ?_
    refine XR.rd rfl rfl rfl (Reads.sadd rfl rfl (by show 1 + (content x i).size ≤ 9223372036854775807; omega)) ?_
    refine XR.rd rfl rfl rfl (Reads.move rfl) ?_
    refine XR.rd rfl rfl rfl (fa37_1 rfl) ?_
    refine XR.rd rfl rfl rfl (Reads.load_own k35 rfl (by first | exact OwnAt.of 0 rfl rfl | exact OwnAt.of 1 rfl rfl | exact OwnAt.of 2 rfl rfl | exact OwnAt.of 3 rfl rfl | exact OwnAt.of 4 rfl rfl)) ?_
    refine XR.rd rfl rfl rfl (Reads.move rfl) ?_
    refine XR.rd rfl rfl rfl (Reads.index_slot (q := (i) * 3) Tryd.underlying35 z53 rfl rfl (by omega) (hA.isSome (by decide) (by omega)) rfl) ?_
    refine XR.rd rfl rfl rfl (fs53_0 rfl (hA.addr (by decide) (by omega))) ?_
    refine XR.rd rfl rfl rfl (Reads.load_at (v := .int .i64 (x.h (i)).c) k3 rfl (by rw [x.h_get hi3]; exact hA.hand hi3 0 _ rfl)) ?_
    refine XR.rd rfl rfl rfl (Reads.index_slot (q := (x.h i).c.toNat) Tryd.underlying29 z9 rfl rfl (by omega) (hK.isSome (by decide) (by omega)) (by omega)) ?_
    refine XR.rd rfl rfl rfl (Reads.load_at (v := .string (keyAt keys x i)) k9 rfl (by rw [keyAt_get hk8 hci]; have h9 := hK.str (j := (x.h i).c.toNat) (by omega); rw [Nat.mul_one] at h9; exact h9)) ?_
    refine XR.rd rfl rfl rfl (Reads.sadd rfl rfl (by show 1 + (keyAt keys x i).size ≤ 9223372036854775807; omega)) ?_
    refine XR.rd rfl rfl rfl (Reads.move rfl) ?_
    refine XR.callp rfl rfl rfl en62 (rleaf_all (content x i) _ (by omega)) ⟨rfl, trivial⟩ (List.Sublist.cons _ (List.Sublist.cons_cons _ (List.nil_sublist _))) ?_
    refine XR.rd rfl rfl rfl (Reads.sadd rfl rfl (by rw [ByteArray.size_append, leaf, sha_size]; show 1 + (keyAt keys x i).size + 32 ≤ 9223372036854775807; omega)) ?_
    refine XR.buildL [.string (⟨#[0]⟩ ++ content x i), .string (⟨#[1]⟩ ++ keyAt keys x i ++ leaf (content x i))] [.string (⟨#[0]⟩ ++ content x i), .string (⟨#[1]⟩ ++ keyAt keys x i ++ leaf (content x i))] rfl rfl rfl Tryd.underlying29 el9 rfl (by simp) ⟨rfl, rfl, rfl, rfl, trivial⟩ rfl rfl (List.Sublist.cons _ (List.Sublist.cons_cons _ (List.nil_sublist _))) (fun bu => ?_)
    refine XR.append (V := V) (news := strC [(⟨#[0]⟩ ++ content x i), (⟨#[1]⟩ ++ keyAt keys x i ++ leaf (content x i))]) 1 rfl rfl rfl Tryd.underlying29 el9 rfl rfl hV rfl (.slice Tryd.underlying29 (readable_row 0 rfl rfl) rfl (strC_one _)) (by omega) (by omega) ?_
    intro V' hV' hVl'
    refine ⟨.inr (List.Sublist.cons _ (List.Sublist.cons _ (List.Sublist.cons_cons _ (List.nil_sublist _)))), ?_⟩
    refine XR.rd rfl rfl rfl (Reads.assign rfl) ?_
    refine XR.nil ?_
    refine XQ.block_normal ?_
    refine XQ.then_normal ?_
    refine XC.region ?_
    refine XO.rd rfl rfl rfl (Reads.move rfl) ?_
    refine XO.rd rfl rfl rfl (Reads.add rfl rfl (by omega)) ?_
    refine XO.rd rfl rfl rfl (Reads.assign rfl) ?_
    refine XO.nil ?_
    refine XQ.dropn 1 ?_
    refine XQ.back (i + 1, V') ⟨by simp only; omega, by simp only; rw [hashA_cells, strC_append]; exact hV'⟩ (by simp only; omega) ⟨rfl, rfl, rfl, rfl, rfl, trivial⟩ rfl (List.Perm.refl _)
  · skip
    simp only [cmpInt, decide_eq_false_iff_not] at h1
    refine XO.s (wg rfl rfl rfl) rfl ?_
    refine XO.s (wg rfl rfl rfl) rfl ?_
    refine XO.s (wg rfl rfl rfl) rfl ?_
    refine XO.s (wg rfl rfl rfl) rfl ?_
    refine XO.s (wg rfl rfl rfl) rfl ?_
    refine XO.rd rfl rfl rfl (Reads.pick_false rfl rfl) ?_
    refine XO.nil ?_
    refine XQ.then_normal ?_
    refine XC.cond rfl (fun hx => by cases hx) (fun _ => ?_)
    refine XC.exit ?_
    refine XQ.then_exit ?_
    refine XQ.then_exit ?_
    refine XQ.block_exit ?_
    refine XQ.then_normal ?_
    refine XC.seq ?_
    refine XC.region ?_
    refine XO.rd rfl rfl rfl (Reads.move rfl) ?_
    refine XO.rd rfl rfl rfl (Reads.assign rfl) ?_
    refine XO.nil ?_
    refine XQ.then_normal ?_
    refine XC.ret ?_
    have hV8 : V.Is 1 (strC (hashA keys x (k + 1))) := by rw [show i = k + 1 by omega] at hV; exact hV
    refine XQ.give_vec (fun hb => ?_)
    refine XQ.dropn 1 ?_
    refine XQ.done1 (L := []) rfl rfl (Vec.le_give hb) ?_
    exact ⟨rfl, (Vec.sl (by decide) hV8 (flat_strs _ _) hb).2⟩

end Go.Proofs.YtmlliafhpbfdbaaDoor
namespace Go.Proofs.YtmlliafhpbfdbaaDoor
open Go.Xe Go.Sh Go Go.At

set_option maxHeartbeats 3200000 in
theorem sealed_any (x : Att) (a : Option Addr) (cap : Nat) (at_ lv : Int) (I : Im) (hA : Arr I a x.hs) (hf : x.formed = true) (hat : In64 at_) (hlv : In64 lv) : FC Tryd.prog 23 [.agg (x.cs a cap).toArray, .int .i64 at_, .int .i64 lv] I (fun u I' => ∃ (k : Nat) (l : Int) (v : Value), u = .tuple #[v, .int .i64 k] ∧ k < x.hs.length ∧ AttV I' v (sealed x k l) ∧ (0 ≤ l ∧ l ≤ 3) ∧ (0 < k → l ≤ (x.h (k - 1)).l) ∧ (k + 1 < x.hs.length → (x.h (k + 1)).l ≤ l)) := by
  have hI := Im.le_refl I
  have hle8 := formed_len hf
  have hn9 : x.hs.length ≤ 9 := by omega
  have hsz := formed_sz hf
  have hin := formed_in hf
  have hdi := formed_d hf
  obtain ⟨ncs, hnf, hnw⟩ := News.arr (P := Tryd.prog) (tx := 35) (c := cap) Tryd.underlying35 (hA)
  have hne := flat_hand_eq hnf
  subst hne
  have hkr := pickI_range (c := at_) (n := (x.hs.length : Int)) (by omega)
  obtain ⟨k, hkk⟩ := Int.eq_ofNat_of_zero_le hkr.1
  have hk3 : k < x.hs.length := by omega
  have hxk := x.h_get hk3
  have hfk := formed_h hf hk3
  refine FSo.intro (n := 79) Tryd.func23 rfl rfl rfl (fun K Lf => ?_)
  refine XC.seq ?_
  refine XC.region ?_
  refine XO.box_agg rfl rfl rfl (fun b3 => ?_)
  refine XO.alloc (cs := #[.int .i64 0, .int .i64 0, .int .i64 0, .int .i64 0, .slice none 0 0]) rfl rfl zo37 rfl (fun b6 => ?_)
  refine XO.rd rfl rfl rfl (Reads.assign rfl) ?_
  refine XO.nil ?_
  refine XQ.then_normal ?_
  refine XC.seq ?_
  refine XC.join (ι := Vec × Nat) (fun q => [(1, .int .i64 at_), (2, .int .i64 lv), (6, .pointer (some ⟨b6, 0, none⟩)), (8, .pointer (some ⟨q.2, 0, none⟩))]) (fun q => I) (fun q => q.1.ent 53 :: some (q.2, .cells #[.int .i64 x.d.a, .int .i64 x.d.b, .int .i64 x.d.t, .int .i64 x.d.n, q.1.val] 37 (0, 0)) :: some (b6, .cells #[.int .i64 0, .int .i64 0, .int .i64 0, .int .i64 0, .slice none 0 0] 37 (0, 0)) :: some (b3, .cells (x.cs a cap).toArray 37 (0, 0)) :: ([] ++ Lf)) (fun q => q.1.Is 3 (handC x.hs)) ?_ (fun q hq => ?_)
  · skip
    refine XC.draw m_mixed (some 8) (.pure 0 (.pure 1 (.pure 3 (.pure 4 (.alt 2 (.alt 5 (.pure 6 (.eff 7 (.eff 8 (.done)))) (.eff 7 (.eff 5 (.pure 6 (.eff 8 (.done)))))) (.eff 7 (.eff 2 (.eff 5 (.pure 6 (.eff 8 (.done))))))))))) _ (by kernel_rfl) (List.Sublist.refl _) ?_
    refine XR.rd rfl rfl rfl (fa37_0 rfl) ?_
    refine XR.rd rfl rfl rfl (Reads.load_agg_own (vs := x.d.cs) k34 z34 rfl (fun j v hj => OwnAt.of 1 rfl (by rw [Nat.zero_add]; exact dial_at x a cap hj))) ?_
    refine XR.rd rfl rfl rfl (fa37_1 rfl) ?_
    refine XR.rd rfl rfl rfl (Reads.load_own k35 rfl (by first | exact OwnAt.of 0 rfl rfl | exact OwnAt.of 1 rfl rfl | exact OwnAt.of 2 rfl rfl | exact OwnAt.of 3 rfl rfl | exact OwnAt.of 4 rfl rfl | exact OwnAt.of 5 rfl rfl)) ?_
    refine XR.alt ?_ ?_
    · skip
      refine XR.buildL [] [] rfl rfl rfl Tryd.underlying35 el53 rfl (by simp) trivial rfl rfl (List.Sublist.refl _) (fun b14 => ?_)
      refine XR.alt ?_ ?_
      · skip
        refine XR.append (V := ⟨some (b14, #[]), 0, 0⟩) 0 rfl rfl rfl Tryd.underlying35 el53 rfl rfl (vec_zero b14 3) rfl (hnw _) (by simp only; omega) (by simp only; omega) ?_
        intro V1 hV1 _
        refine ⟨.inr (List.Sublist.cons _ (List.Sublist.refl _)), ?_⟩
        refine XR.rd rfl rfl rfl (bd37v x.d V1.val ⟨_, _, _, rfl⟩ ⟨rfl, rfl, rfl, rfl, trivial⟩) ?_
        refine XR.alloc (cs := #[.int .i64 0, .int .i64 0, .int .i64 0, .int .i64 0, .slice none 0 0]) rfl rfl rfl zo37 rfl (List.Sublist.cons _ (List.Sublist.refl _)) (fun b8 => ?_)
        refine XR.store_agg (vs := [.int .i64 x.d.a, .int .i64 x.d.b, .int .i64 x.d.t, .int .i64 x.d.n, V1.val]) 0 rfl rfl z37 rfl rfl (by simp [Value.oneCell']) rfl (by simp) (.inr (List.Sublist.cons _ (List.Sublist.cons _ (List.Sublist.refl _)))) ?_
        refine XR.nil ?_
        refine XQ.perm (perm_take [1]) ?_
        refine XQ.joined (V1, b8) (by simpa using hV1) ⟨rfl, rfl, rfl, rfl, trivial⟩ rfl (List.Perm.refl _)
      · skip
        refine XR.alloc (cs := #[.int .i64 0, .int .i64 0, .int .i64 0, .int .i64 0, .slice none 0 0]) rfl rfl rfl zo37 rfl (List.Sublist.cons _ (List.Sublist.refl _)) (fun b8 => ?_)
        refine XR.append (V := ⟨some (b14, #[]), 0, 0⟩) 1 rfl rfl rfl Tryd.underlying35 el53 rfl rfl (vec_zero b14 3) rfl (hnw _) (by simp only; omega) (by simp only; omega) ?_
        intro V1 hV1 _
        refine ⟨.inr (List.Sublist.cons _ (List.Sublist.cons _ (List.Sublist.refl _))), ?_⟩
        refine XR.rd rfl rfl rfl (bd37v x.d V1.val ⟨_, _, _, rfl⟩ ⟨rfl, rfl, rfl, rfl, trivial⟩) ?_
        refine XR.store_agg (vs := [.int .i64 x.d.a, .int .i64 x.d.b, .int .i64 x.d.t, .int .i64 x.d.n, V1.val]) 0 rfl rfl z37 rfl rfl (by simp [Value.oneCell']) rfl (by simp) (.inr (List.Sublist.cons _ (List.Sublist.cons _ (List.Sublist.refl _)))) ?_
        refine XR.nil ?_
        refine XQ.perm (perm_take [1]) ?_
        refine XQ.joined (V1, b8) (by simpa using hV1) ⟨rfl, rfl, rfl, rfl, trivial⟩ rfl (List.Perm.refl _)
    · skip
      refine XR.alloc (cs := #[.int .i64 0, .int .i64 0, .int .i64 0, .int .i64 0, .slice none 0 0]) rfl rfl rfl zo37 rfl (List.Sublist.refl _) (fun b8 => ?_)
      refine XR.buildL [] [] rfl rfl rfl Tryd.underlying35 el53 rfl (by simp) trivial rfl rfl (List.Sublist.cons _ (List.Sublist.refl _)) (fun b14 => ?_)
      refine XR.append (V := ⟨some (b14, #[]), 0, 0⟩) 0 rfl rfl rfl Tryd.underlying35 el53 rfl rfl (vec_zero b14 3) rfl (hnw _) (by simp only; omega) (by simp only; omega) ?_
      intro V1 hV1 _
      refine ⟨.inr (List.Sublist.cons _ (List.Sublist.cons _ (List.Sublist.refl _))), ?_⟩
      refine XR.rd rfl rfl rfl (bd37v x.d V1.val ⟨_, _, _, rfl⟩ ⟨rfl, rfl, rfl, rfl, trivial⟩) ?_
      refine XR.store_agg (vs := [.int .i64 x.d.a, .int .i64 x.d.b, .int .i64 x.d.t, .int .i64 x.d.n, V1.val]) 1 rfl rfl z37 rfl rfl (by simp [Value.oneCell']) rfl (by simp) (.inr (List.Sublist.cons _ (List.Sublist.cons _ (List.Sublist.refl _)))) ?_
      refine XR.nil ?_
      refine XQ.joined (V1, b8) (by simpa using hV1) ⟨rfl, rfl, rfl, rfl, trivial⟩ rfl (List.Perm.refl _)
  · skip
    obtain ⟨⟨blk, n0, cp⟩, b8⟩ := q
    have hVl : n0 = x.hs.length := by have h9 := hq.len; rw [handC_len] at h9; simp only at h9; omega
    subst hVl
    have hV : (⟨blk, x.hs.length, cp⟩ : Vec).Is 3 (handC x.hs) := hq
    have hcp : x.hs.length ≤ cp := hV.le
    simp only
    have ha1 := vec_addr3 hV (by omega)
    refine XQ.then_normal ?_
    refine XC.seq ?_
    refine XC.region ?_
    refine XO.rd rfl rfl rfl (Reads.move rfl) ?_
    refine XO.rd rfl rfl rfl (fa37_1 rfl) ?_
    refine XO.rd rfl rfl rfl (Reads.load_own k35 rfl (by first | exact OwnAt.of 0 rfl rfl | exact OwnAt.of 1 rfl rfl | exact OwnAt.of 2 rfl rfl | exact OwnAt.of 3 rfl rfl | exact OwnAt.of 4 rfl rfl | exact OwnAt.of 5 rfl rfl)) ?_
    refine XO.rd (v := .int .i64 (x.hs.length : Int)) rfl rfl rfl (Reads.len_slice Tryd.underlying35 rfl) ?_
    refine XO.callp rfl rfl en46 (pickR_any at_ (x.hs.length : Int) _ hat (by omega)) ⟨rfl, rfl, trivial⟩ ?_
    rw [hkk]
    refine XO.rd rfl rfl rfl (Reads.assign rfl) ?_
    refine XO.nil ?_
    refine XQ.then_normal ?_
    refine XC.seq ?_
    refine XC.region ?_
    refine XO.rd rfl rfl rfl (Reads.assign rfl) ?_
    refine XO.nil ?_
    refine XQ.then_normal ?_
    refine XC.seq ?_
    refine XC.seq ?_
    refine XC.region ?_
    refine XO.rd rfl rfl rfl (Reads.move rfl) ?_
    refine XO.rd rfl rfl rfl (Reads.cmp rfl rfl rfl) ?_
    refine XO.nil ?_
    refine XQ.then_normal ?_
    refine XC.join (ι := Int) (fun q => [(2, .int .i64 lv), (6, .pointer (some ⟨b6, 0, none⟩)), (8, .pointer (some ⟨b8, 0, none⟩)), (9, .int .i64 (k : Int)), (10, .int .i64 q)]) (fun q => I) (fun q => (⟨blk, x.hs.length, cp⟩ : Vec).ent 53 :: some (b8, .cells #[.int .i64 x.d.a, .int .i64 x.d.b, .int .i64 x.d.t, .int .i64 x.d.n, (⟨blk, x.hs.length, cp⟩ : Vec).val] 37 (0, 0)) :: some (b6, .cells #[.int .i64 0, .int .i64 0, .int .i64 0, .int .i64 0, .slice none 0 0] 37 (0, 0)) :: some (b3, .cells (x.cs a cap).toArray 37 (0, 0)) :: ([] ++ Lf)) (fun q => (0 ≤ q ∧ q ≤ 3) ∧ (0 < k → q = (x.h (k - 1)).l) ∧ (k = 0 → q = 3)) ?_ (fun mo hmo => ?_)
    · skip
      refine XC.cond rfl (fun h1 => ?_) (fun h1 => ?_)
      · skip
        simp only [cmpInt, decide_eq_true_eq] at h1
        refine XC.region ?_
        refine XO.rd rfl rfl rfl (fa37_1 rfl) ?_
        refine XO.rd rfl rfl rfl (Reads.load_own k35 rfl (by first | exact OwnAt.of 0 rfl rfl | exact OwnAt.of 1 rfl rfl | exact OwnAt.of 2 rfl rfl | exact OwnAt.of 3 rfl rfl | exact OwnAt.of 4 rfl rfl | exact OwnAt.of 5 rfl rfl)) ?_
        refine XO.rd rfl rfl rfl (Reads.move rfl) ?_
        refine XO.rd rfl rfl rfl (Reads.sub rfl rfl (by omega)) ?_
        rw [show (k : Int) - 1 = ((k - 1 : Nat) : Int) by omega]
        refine XO.rd rfl rfl rfl (Reads.index_slot (q := (k - 1) * 3) Tryd.underlying35 z53 rfl rfl (by (try simp only); omega) (by obtain ⟨_, _, h9⟩ := ha1; rw [h9]; rfl) (by (try simp only); omega)) ?_
        refine XO.rd rfl rfl rfl (fs53_1 rfl ha1) ?_
        refine XO.rd rfl rfl rfl (Reads.load_vecs (V := (⟨blk, x.hs.length, cp⟩ : Vec)) (k := (k - 1) * 3 + 1) (v := .int .i64 (x.h (k - 1)).l) k3 (by obtain ⟨_, _, h9⟩ := ha1; rw [h9]; rfl) hV (e := 53) (by simp) (by rw [x.h_get (by omega)]; exact handC_at x.hs (by omega) 1 _ rfl)) ?_
        refine XO.rd rfl rfl rfl (Reads.assign rfl) ?_
        refine XO.nil ?_
        refine XQ.joined (x.h (k - 1)).l ⟨(formed_h hf (i := k - 1) (by omega)).2.1, fun _ => rfl, fun h9 => absurd h9 (by omega)⟩ ⟨rfl, rfl, rfl, rfl, rfl, trivial⟩ rfl (List.Perm.refl _)
      · skip
        simp only [cmpInt, decide_eq_false_iff_not] at h1
        refine XC.skip ?_
        refine XQ.joined 3 ⟨by decide, fun h9 => absurd h9 (by omega), fun _ => rfl⟩ ⟨rfl, rfl, rfl, rfl, rfl, trivial⟩ rfl (List.Perm.refl _)
    · skip
      obtain ⟨hmo1, hmo2, hmo3⟩ := hmo
      refine XQ.then_normal ?_
      refine XC.seq ?_
      refine XC.region ?_
      refine XO.rd rfl rfl rfl (Reads.assign rfl) ?_
      refine XO.nil ?_
      refine XQ.then_normal ?_
      refine XC.seq ?_
      refine XC.seq ?_
      refine XC.region ?_
      refine XO.rd rfl rfl rfl (Reads.move rfl) ?_
      refine XO.rd rfl rfl rfl (Reads.add rfl rfl (by omega)) ?_
      rw [show (k : Int) + 1 = ((k + 1 : Nat) : Int) by omega]
      refine XO.rd rfl rfl rfl (fa37_1 rfl) ?_
      refine XO.rd rfl rfl rfl (Reads.load_own k35 rfl (by first | exact OwnAt.of 0 rfl rfl | exact OwnAt.of 1 rfl rfl | exact OwnAt.of 2 rfl rfl | exact OwnAt.of 3 rfl rfl | exact OwnAt.of 4 rfl rfl | exact OwnAt.of 5 rfl rfl)) ?_
      refine XO.rd (v := .int .i64 (x.hs.length : Int)) rfl rfl rfl (Reads.len_slice Tryd.underlying35 rfl) ?_
      refine XO.rd rfl rfl rfl (Reads.cmp rfl rfl rfl) ?_
      refine XO.nil ?_
      refine XQ.then_normal ?_
      refine XC.join (ι := Int) (fun q => [(2, .int .i64 lv), (6, .pointer (some ⟨b6, 0, none⟩)), (8, .pointer (some ⟨b8, 0, none⟩)), (9, .int .i64 (k : Int)), (10, .int .i64 mo), (11, .int .i64 q)]) (fun q => I) (fun q => (⟨blk, x.hs.length, cp⟩ : Vec).ent 53 :: some (b8, .cells #[.int .i64 x.d.a, .int .i64 x.d.b, .int .i64 x.d.t, .int .i64 x.d.n, (⟨blk, x.hs.length, cp⟩ : Vec).val] 37 (0, 0)) :: some (b6, .cells #[.int .i64 0, .int .i64 0, .int .i64 0, .int .i64 0, .slice none 0 0] 37 (0, 0)) :: some (b3, .cells (x.cs a cap).toArray 37 (0, 0)) :: ([] ++ Lf)) (fun q => 0 ≤ q ∧ q ≤ mo ∧ (k + 1 < x.hs.length → q = (x.h (k + 1)).l)) ?_ (fun le hle => ?_)
      · skip
        refine XC.cond rfl (fun h2 => ?_) (fun h2 => ?_)
        · skip
          simp only [cmpInt, decide_eq_true_eq] at h2
          refine XC.region ?_
          refine XO.rd rfl rfl rfl (fa37_1 rfl) ?_
          refine XO.rd rfl rfl rfl (Reads.load_own k35 rfl (by first | exact OwnAt.of 0 rfl rfl | exact OwnAt.of 1 rfl rfl | exact OwnAt.of 2 rfl rfl | exact OwnAt.of 3 rfl rfl | exact OwnAt.of 4 rfl rfl | exact OwnAt.of 5 rfl rfl)) ?_
          refine XO.rd rfl rfl rfl (Reads.move rfl) ?_
          refine XO.rd rfl rfl rfl (Reads.add rfl rfl (by omega)) ?_
          rw [show (k : Int) + 1 = ((k + 1 : Nat) : Int) by omega]
          refine XO.rd rfl rfl rfl (Reads.index_slot (q := (k + 1) * 3) Tryd.underlying35 z53 rfl rfl (by (try simp only); omega) (by obtain ⟨_, _, h9⟩ := ha1; rw [h9]; rfl) (by (try simp only); omega)) ?_
          refine XO.rd rfl rfl rfl (fs53_1 rfl ha1) ?_
          refine XO.rd rfl rfl rfl (Reads.load_vecs (V := (⟨blk, x.hs.length, cp⟩ : Vec)) (k := (k + 1) * 3 + 1) (v := .int .i64 (x.h (k + 1)).l) k3 (by obtain ⟨_, _, h9⟩ := ha1; rw [h9]; rfl) hV (e := 53) (by simp) (by rw [x.h_get (by omega)]; exact handC_at x.hs (by omega) 1 _ rfl)) ?_
          refine XO.rd rfl rfl rfl (Reads.assign rfl) ?_
          refine XO.nil ?_
          have hfn := formed_h hf (i := k + 1) (by omega)
          have hfn2 := hfn.2.2.2.resolve_left (by omega)
          rw [Nat.add_sub_cancel] at hfn2
          have hlem : (x.h (k + 1)).l ≤ mo := by
            rcases Nat.eq_zero_or_pos k with h9 | h9
            · have := hmo3 h9; omega
            · have := hmo2 h9; have := (hfk.2.2.2.resolve_left (by omega)).2; omega
          refine XQ.joined (x.h (k + 1)).l ⟨hfn.2.1.1, hlem, fun _ => rfl⟩ ⟨rfl, rfl, rfl, rfl, rfl, rfl, trivial⟩ rfl (List.Perm.refl _)
        · skip
          simp only [cmpInt, decide_eq_false_iff_not] at h2
          refine XC.skip ?_
          refine XQ.joined 0 ⟨Int.le_refl _, hmo1.1, fun h9 => absurd h9 (by omega)⟩ ⟨rfl, rfl, rfl, rfl, rfl, rfl, trivial⟩ rfl (List.Perm.refl _)
      · skip
        obtain ⟨hle1, hle2, hle3⟩ := hle
        have hplv := pickI_range (c := lv) (n := mo - le + 1) (by omega)
        refine XQ.then_normal ?_
        refine XC.seq ?_
        refine XC.draw m_mixed (some 13) (.pure 0 (.pure 1 (.pure 2 (.pure 3 (.pure 4 (.pure 5 (.pure 6 (.pure 7 (.pure 8 (.eff 9 (.pure 10 (.pure 11 (.pure 12 (.eff 13 (.done))))))))))))))) _ (by kernel_rfl) (List.Sublist.refl _) ?_
        refine XR.rd rfl rfl rfl (fa37_1 rfl) ?_
        refine XR.rd rfl rfl rfl (Reads.load_own k35 rfl (by first | exact OwnAt.of 0 rfl rfl | exact OwnAt.of 1 rfl rfl | exact OwnAt.of 2 rfl rfl | exact OwnAt.of 3 rfl rfl | exact OwnAt.of 4 rfl rfl | exact OwnAt.of 5 rfl rfl)) ?_
        refine XR.rd rfl rfl rfl (Reads.move rfl) ?_
        refine XR.rd rfl rfl rfl (Reads.move rfl) ?_
        refine XR.rd rfl rfl rfl (Reads.move rfl) ?_
        refine XR.rd rfl rfl rfl (Reads.move rfl) ?_
        refine XR.rd rfl rfl rfl (Reads.move rfl) ?_
        refine XR.rd rfl rfl rfl (Reads.sub rfl rfl (by omega)) ?_
        refine XR.rd rfl rfl rfl (Reads.add rfl rfl (by omega)) ?_
        refine XR.callp rfl rfl rfl en46 (pickR_any lv (mo - le + 1) _ hlv (by omega)) ⟨rfl, rfl, trivial⟩ (List.Sublist.refl _) ?_
        refine XR.rd rfl rfl rfl (Reads.add rfl rfl (by omega)) ?_
        obtain ⟨l, hl⟩ : ∃ l, l = le + pickI lv (mo - le + 1) := ⟨_, rfl⟩
        rw [← hl]
        refine XR.rd rfl rfl rfl (Reads.index_slot (q := k * 3) Tryd.underlying35 z53 rfl rfl (by simp only; omega) (by obtain ⟨_, _, h9⟩ := ha1; rw [h9]; rfl) rfl) ?_
        refine XR.rd rfl rfl rfl (fs53_1 rfl ha1) ?_
        refine XR.store_vecs (V := (⟨blk, x.hs.length, cp⟩ : Vec)) (e := 53) (k := k * 3 + 1) (v0 := .int .i64 x.hs[k].l) 0 rfl rfl z3 rfl rfl rfl hV rfl (handC_at x.hs hk3 1 _ rfl) rfl ?_
        intro V3 hV3 hval
        have hV4 : V3.Is 3 (handC (x.put k ((x.h k).wl l)).hs) := by have h9 := handC_setg x.hs (j := k) (i := 1) (v := .int .i64 l) (h' := (x.h k).wl l) hk3 (by decide) (by rw [hxk]; rfl); show V3.Is 3 (handC (x.hs.set k ((x.h k).wl l))); rw [← h9]; exact hV3
        rw [← hval]
        obtain ⟨blk1, n1, cp1⟩ := V3
        have hn1 : n1 = (x.put k ((x.h k).wl l)).hs.length := by have h9 := hV4.len; rw [handC_len] at h9; exact (Nat.eq_of_mul_eq_mul_right (by decide) h9).symm
        subst hn1
        have hyl : (x.put k ((x.h k).wl l)).hs.length = x.hs.length := put_len
        have hyk : (x.put k ((x.h k).wl l)).h k = (x.h k).wl l := put_eq hk3
        have hyk3 : k < (x.put k ((x.h k).wl l)).hs.length := by rw [hyl]; exact hk3
        have ha2 := vec_addr3 hV4 (by omega)
        have hysz : ∀ i, i < (x.put k ((x.h k).wl l)).hs.length → ((x.put k ((x.h k).wl l)).h i).s.size ≤ 40 := fun i hi => by rw [hyl] at hi; by_cases e : i = k; subst e; rw [hyk]; exact hsz i hi; rw [put_ne e]; exact hsz i hi
        have hct := content_size (x.put k ((x.h k).wl l)) k
        have hbf := before_size hysz hyk3
        have hlr : 0 ≤ l ∧ l ≤ 3 ∧ l ≤ mo ∧ le ≤ l := by omega
        refine XR.nil ?_
        refine XQ.then_normal ?_
        refine XC.seq ?_
        refine XC.draw m_mixed (some 18) (.pure 0 (.pure 1 (.pure 2 (.pure 4 (.pure 5 (.pure 6 (.pure 7 (.pure 8 (.pure 9 (.pure 12 (.pure 13 (.eff 3 (.pure 10 (.pure 11 (.eff 14 (.eff 15 (.pure 16 (.pure 17 (.eff 18 (.done)))))))))))))))))))) _ (by kernel_rfl) (List.Sublist.refl _) ?_
        refine XR.rd rfl rfl rfl (fa37_1 rfl) ?_
        refine XR.rd rfl rfl rfl (Reads.load_own k35 rfl (by first | exact OwnAt.of 0 rfl rfl | exact OwnAt.of 1 rfl rfl | exact OwnAt.of 2 rfl rfl | exact OwnAt.of 3 rfl rfl | exact OwnAt.of 4 rfl rfl | exact OwnAt.of 5 rfl rfl)) ?_
        refine XR.rd rfl rfl rfl (Reads.move rfl) ?_
        refine XR.rd rfl rfl rfl (fa37_1 rfl) ?_
        refine XR.rd rfl rfl rfl (Reads.load_own k35 rfl (by first | exact OwnAt.of 0 rfl rfl | exact OwnAt.of 1 rfl rfl | exact OwnAt.of 2 rfl rfl | exact OwnAt.of 3 rfl rfl | exact OwnAt.of 4 rfl rfl | exact OwnAt.of 5 rfl rfl)) ?_
        refine XR.rd rfl rfl rfl (Reads.move rfl) ?_
        refine XR.rd rfl rfl rfl (Reads.index_slot (q := k * 3) Tryd.underlying35 z53 rfl rfl (show 0 ≤ (k : Int) ∧ (k : Int) < (((x.put k ((x.h k).wl l)).hs.length : Nat) : Int) by omega) (by obtain ⟨_, _, h9⟩ := ha2; rw [h9]; rfl) rfl) ?_
        refine XR.rd rfl rfl rfl (fs53_0 rfl ha2) ?_
        refine XR.rd rfl rfl rfl (Reads.load_vecs (V := (⟨blk1, (x.put k ((x.h k).wl l)).hs.length, cp1⟩ : Vec)) (k := k * 3) (v := .int .i64 (x.h k).c) k3 (by obtain ⟨_, _, h9⟩ := ha2; rw [h9]; rfl) hV4 (e := 53) (by simp) (by have h9 := handC_at (x.put k ((x.h k).wl l)).hs hyk3 0 (.int .i64 (x.h k).c) (by rw [← Att.h_get _ hyk3, hyk]; rfl); exact h9)) ?_
        refine XR.rd rfl rfl rfl (Reads.load_whole k37 z37 rfl (by first | exact WholeAt.of 0 rfl | exact WholeAt.of 1 rfl | exact WholeAt.of 2 rfl | exact WholeAt.of 3 rfl | exact WholeAt.of 4 rfl | exact WholeAt.of 5 rfl) (by rfl)) ?_
        refine XR.rd rfl rfl rfl (Reads.move rfl) ?_
        refine XR.call rfl rfl rfl en15 (all_any _) trivial (List.Sublist.refl _) ?_
        rintro u J68 hle68 hr
        replace hI := Im.le_trans hI hle68
        obtain ⟨ak, ck, rfl, hck, hK⟩ := hr.ex
        refine XR.rd rfl rfl rfl (Reads.index_slot (q := (x.h k).c.toNat) Tryd.underlying29 z9 rfl rfl (by rw [allK_len]; omega) (hK.isSome (by decide) (by rw [allK_len]; omega)) (by omega)) ?_
        refine XR.rd rfl rfl rfl (Reads.load_at (v := .string (keyC (x.h k).c.toNat)) k9 rfl (by rw [← allK_get (i := (x.h k).c.toNat) (by omega)]; exact hK.str_at (by rw [allK_len]; omega) rfl)) ?_
        refine XR.callo (vs := [_, _]) (L1 := [(⟨blk1, (x.put k ((x.h k).wl l)).hs.length, cp1⟩ : Vec).ent 53]) rfl rfl rfl rfl en44 ⟨rfl, rfl, trivial⟩ (FSo.lendA (α := Hand) (by decide) hV4 (flat_hand _ _) (fun J hle hA2 => rcontent_any (x.put k ((x.h k).wl l)) (⟨blk1, (x.put k ((x.h k).wl l)).hs.length, cp1⟩ : Vec).addr cp1 k J hA2 hyk3 (by omega) hysz)) (List.Perm.refl _) ?_
        rintro v' J' L' _ ⟨rfl, hJ', rfl⟩
        replace hJ' := hJ'.symm
        subst hJ'
        refine ⟨.inr (List.Sublist.refl _), ?_⟩
        refine XR.callp rfl rfl rfl en43 (rseal_any (keyC (x.h k).c.toNat) (content (x.put k ((x.h k).wl l)) k) _ (by omega) (by rw [keyC_size]; decide)) ⟨rfl, rfl, trivial⟩ (List.Sublist.refl _) ?_
        refine XR.rd rfl rfl rfl (Reads.index_slot (q := k * 3) Tryd.underlying35 z53 rfl rfl (show 0 ≤ (k : Int) ∧ (k : Int) < (((x.put k ((x.h k).wl l)).hs.length : Nat) : Int) by omega) (by obtain ⟨_, _, h9⟩ := ha2; rw [h9]; rfl) rfl) ?_
        refine XR.rd rfl rfl rfl (fs53_2 rfl ha2) ?_
        refine XR.store_vecs (V := (⟨blk1, (x.put k ((x.h k).wl l)).hs.length, cp1⟩ : Vec)) (e := 53) (k := k * 3 + 2) (v0 := .string (x.put k ((x.h k).wl l)).hs[k].s) 0 rfl rfl z9 rfl rfl rfl hV4 rfl (handC_at (x.put k ((x.h k).wl l)).hs hyk3 2 _ rfl) rfl ?_
        intro V5 hV5 hval2
        have hV6 : V5.Is 3 (handC (sealed x k l).hs) := by
          have h9 := handC_setg (x.put k ((x.h k).wl l)).hs (j := k) (i := 2) (v := .string (sealOf (keyC (x.h k).c.toNat) (content (x.put k ((x.h k).wl l)) k))) (h' := ⟨(x.h k).c, l, sealOf (keyC (x.h k).c.toNat) (content (x.put k ((x.h k).wl l)) k)⟩) hyk3 (by decide) (by rw [← Att.h_get _ hyk3, hyk]; rfl)
          have h8 : (sealed x k l).hs = (x.put k ((x.h k).wl l)).hs.set k ⟨(x.h k).c, l, sealOf (keyC (x.h k).c.toNat) (content (x.put k ((x.h k).wl l)) k)⟩ := by simp [sealed, Att.put, List.set_set]
          rw [h8, ← h9]; exact hV5
        rw [← hval2]
        refine XR.nil ?_
        refine XQ.then_normal ?_
        refine XC.seq ?_
        refine XC.region ?_
        refine XO.rd rfl rfl rfl (Reads.load_whole k37 z37 rfl (by first | exact WholeAt.of 0 rfl | exact WholeAt.of 1 rfl | exact WholeAt.of 2 rfl | exact WholeAt.of 3 rfl | exact WholeAt.of 4 rfl | exact WholeAt.of 5 rfl) (by rfl)) ?_
        refine XO.rd rfl rfl rfl (Reads.move rfl) ?_
        refine XO.store_agg (vs := [.int .i64 x.d.a, .int .i64 x.d.b, .int .i64 x.d.t, .int .i64 x.d.n, V5.val]) 2 rfl z37 rfl rfl (by simp [Value.oneCell']) rfl (by simp) ?_
        refine XO.rd rfl rfl rfl (Reads.assign rfl) ?_
        refine XO.nil ?_
        refine XQ.then_normal ?_
        refine XC.ret ?_
        refine XQ.give_vec (fun hb => ?_)
        refine XQ.done2ca [] 3 rfl k37 z37 rfl rfl (WholeAt.of 1 rfl) rfl rfl (Im.le_trans hI (Vec.le_give hb)) ?_
        obtain ⟨a9, c9, h91, h92, h93⟩ := (Vec.sl (e := 53) (α := Hand) (by decide) hV6 (flat_hand _ _) hb).2.ex
        exact ⟨rfl, k, l, _, rfl, hk3, ⟨a9, c9, congrArg (fun z => Value.agg #[.int .i64 x.d.a, .int .i64 x.d.b, .int .i64 x.d.t, .int .i64 x.d.n, z]) h91, h92, h93⟩, ⟨hlr.1, hlr.2.1⟩, fun h9 => by rw [← hmo2 h9]; exact hlr.2.2.1, fun h9 => by rw [← hle3 h9]; exact hlr.2.2.2⟩

end Go.Proofs.YtmlliafhpbfdbaaDoor
