/- Walk: AttestKeys. -/
import Derived.Test.YtmlliafhpbfdbaaDoorMJ
import Derived.Test.YtmlliafhpbfdbaaDoorMI
import Derived.Test.YtmlliafhpbfdbaaDoorMK
namespace Go.Proofs.YtmlliafhpbfdbaaDoor
open Go.Xe Go.Sh Go Go.At

set_option maxHeartbeats 1600000 in
theorem attestKeys_any (n : Num) (a0 : Option Addr) (c0 : Nat) (bd : Q3) (st mo : Int) (I : Im) (hn : n.In) (hC : Arr I a0 n.cars) (hcl : n.cars.length ≤ 9223372036854775807) (hG : Glob I) (hbd : bd.In) (hst : In64 st) (hmo : In64 mo) : FC Tryd.prog 10 [.agg (n.cs a0 c0).toArray, .agg bd.cells.toArray, .int .i64 st, .int .i64 mo] I (fun u _I' => u = .bool true) := by
  have hI := Im.le_refl I
  obtain ⟨s1, hs1, hs9⟩ := pick_nat st (n := 256) (by decide)
  obtain ⟨s2, hs2, hs8⟩ := pick_nat mo (n := 256) (by decide)
  obtain ⟨x, hx⟩ : ∃ x : Att, x = (bent n.made bd.a bd.b bd.c) := ⟨_, rfl⟩
  have hxl := bent_len n.made bd.a bd.b bd.c
  rw [← hx] at hxl
  have hml := n.made_len
  refine FSo.intro (n := 83) Tryd.func10 rfl rfl rfl (fun K Lf => ?_)
  refine XC.seq ?_
  refine XC.region ?_
  refine XO.box_agg rfl rfl rfl (fun b4 => ?_)
  refine XO.box_agg rfl rfl rfl (fun b5 => ?_)
  refine XO.rd rfl rfl rfl (Reads.assign rfl) ?_
  refine XO.nil ?_
  refine XQ.then_normal ?_
  refine XC.seq ?_
  refine XC.seq ?_
  refine XC.region ?_
  refine XO.callp rfl rfl en13 (FC.pure (sane_any _ hG)) trivial ?_
  refine XO.rd rfl rfl rfl (Reads.not rfl) ?_
  refine XO.nil ?_
  refine XQ.then_normal ?_
  refine XC.cond rfl (fun hx => by cases hx) (fun _ => ?_)
  refine XC.skip ?_
  refine XQ.then_normal ?_
  refine XC.seq ?_
  refine XC.region ?_
  refine XO.call rfl rfl en15 (all_any _) trivial ?_
  rintro u J39 hle39 hr
  replace hI := Im.le_trans hI hle39
  replace hG := hG.mono hle39
  replace hC := hC.mono hle39
  obtain ⟨ak, ck, rfl, hc_hK, hK⟩ := hr.ex
  refine XO.rd rfl rfl rfl (Reads.assign rfl) ?_
  refine XO.nil ?_
  refine XQ.then_normal ?_
  refine XC.seq ?_
  refine XC.join (ι := Im × Option Addr × Nat × Nat) (fun q => [(2, .int .i64 st), (3, .int .i64 mo), (9, .slice ak allK.length ck), (10, .pointer (some ⟨q.2.2.2, 0, none⟩))]) (fun q => q.1) (fun q => some (q.2.2.2, .cells ((x).cs q.2.1 q.2.2.1).toArray 37 (0, 0)) :: some (b5, .cells bd.cells.toArray 27 (0, 0)) :: some (b4, .cells (n.cs a0 c0).toArray 26 (0, 0)) :: ([] ++ Lf)) (fun q => I.le q.1 ∧ x.hs.length ≤ q.2.2.1 ∧ Arr q.1 q.2.1 x.hs ∧ Glob q.1 ∧ Arr q.1 ak allK) ?_ (fun qj hqj => ?_)
  · skip
    refine XC.draw m_mixed (some 10) (.pure 0 (.pure 2 (.pure 3 (.pure 4 (.pure 5 (.pure 6 (.pure 7 (.alt 1 (.alt 8 (.eff 9 (.eff 10 (.done))) (.eff 9 (.eff 8 (.eff 10 (.done))))) (.eff 9 (.eff 1 (.eff 8 (.eff 10 (.done))))))))))))) _ (by kernel_rfl) (List.Sublist.refl _) ?_
    refine XR.rd rfl rfl rfl (Reads.load_whole k26 z26 rfl (by first | exact WholeAt.of 0 rfl | exact WholeAt.of 1 rfl | exact WholeAt.of 2 rfl | exact WholeAt.of 3 rfl) (by rfl)) ?_
    refine XR.rd rfl rfl rfl (Reads.index_arr_own (q := 0) Tryd.underlying27 z3 rfl rfl (by decide) rfl) ?_
    refine XR.rd rfl rfl rfl (Reads.load_own k3 rfl (by first | exact OwnAt.of 0 rfl rfl | exact OwnAt.of 1 rfl rfl | exact OwnAt.of 2 rfl rfl | exact OwnAt.of 3 rfl rfl)) ?_
    refine XR.rd rfl rfl rfl (Reads.index_arr_own (q := 1) Tryd.underlying27 z3 rfl rfl (by decide) rfl) ?_
    refine XR.rd rfl rfl rfl (Reads.load_own k3 rfl (by first | exact OwnAt.of 0 rfl rfl | exact OwnAt.of 1 rfl rfl | exact OwnAt.of 2 rfl rfl | exact OwnAt.of 3 rfl rfl)) ?_
    refine XR.rd rfl rfl rfl (Reads.index_arr_own (q := 2) Tryd.underlying27 z3 rfl rfl (by decide) rfl) ?_
    refine XR.rd rfl rfl rfl (Reads.load_own k3 rfl (by first | exact OwnAt.of 0 rfl rfl | exact OwnAt.of 1 rfl rfl | exact OwnAt.of 2 rfl rfl | exact OwnAt.of 3 rfl rfl)) ?_
    refine XR.alt ?_ ?_
    · skip
      refine XR.call rfl rfl rfl en18 (made_any n a0 c0 _ hn hC hcl) ⟨rfl, trivial⟩ (List.Sublist.refl _) ?_
      rintro u J40 hle40 hr
      replace hI := Im.le_trans hI hle40
      replace hG := hG.mono hle40
      replace hC := hC.mono hle40
      replace hK := hK.mono hle40
      obtain ⟨am, cm, rfl, hcp_hM, hM⟩ := hr
      refine XR.alt ?_ ?_
      · skip
        refine XR.call rfl rfl rfl en17 (bent_any n.made am cm bd.a bd.b bd.c _ hM (by omega) (by omega) hbd.a hbd.b hbd.c) ⟨rfl, rfl, rfl, rfl, trivial⟩ (List.Sublist.refl _) ?_
        rintro u J41 hle41 hr
        replace hI := Im.le_trans hI hle41
        replace hG := hG.mono hle41
        replace hC := hC.mono hle41
        replace hK := hK.mono hle41
        replace hM := hM.mono hle41
        rw [← hx] at hr
        obtain ⟨ab, cb, rfl, hcp_hB, hB⟩ := hr
        refine XR.alloc (cs := #[.int .i64 0, .int .i64 0, .int .i64 0, .int .i64 0, .slice none 0 0]) rfl rfl rfl zo37 rfl (List.Sublist.refl _) (fun b10 => ?_)
        refine XR.store_agg (vs := (x).cs ab cb) 0 rfl rfl z37 rfl rfl (by simp [Value.oneCell']) rfl (by simp) (.inl rfl) ?_
        refine XR.nil ?_
        refine XQ.joined (_, ab, cb, b10) ⟨hI, hcp_hB, hB, hG, hK⟩ ⟨rfl, rfl, rfl, rfl, trivial⟩ rfl (List.Perm.refl _)
      · skip
        refine XR.alloc (cs := #[.int .i64 0, .int .i64 0, .int .i64 0, .int .i64 0, .slice none 0 0]) rfl rfl rfl zo37 rfl (List.Sublist.refl _) (fun b10 => ?_)
        refine XR.call rfl rfl rfl en17 (bent_any n.made am cm bd.a bd.b bd.c _ hM (by omega) (by omega) hbd.a hbd.b hbd.c) ⟨rfl, rfl, rfl, rfl, trivial⟩ (List.Sublist.cons _ (List.Sublist.refl _)) ?_
        rintro u J42 hle42 hr
        replace hI := Im.le_trans hI hle42
        replace hG := hG.mono hle42
        replace hC := hC.mono hle42
        replace hK := hK.mono hle42
        replace hM := hM.mono hle42
        rw [← hx] at hr
        obtain ⟨ab, cb, rfl, hcp_hB, hB⟩ := hr
        refine XR.store_agg (vs := (x).cs ab cb) 0 rfl rfl z37 rfl rfl (by simp [Value.oneCell']) rfl (by simp) (.inl rfl) ?_
        refine XR.nil ?_
        refine XQ.joined (_, ab, cb, b10) ⟨hI, hcp_hB, hB, hG, hK⟩ ⟨rfl, rfl, rfl, rfl, trivial⟩ rfl (List.Perm.refl _)
    · skip
      refine XR.alloc (cs := #[.int .i64 0, .int .i64 0, .int .i64 0, .int .i64 0, .slice none 0 0]) rfl rfl rfl zo37 rfl (List.Sublist.refl _) (fun b10 => ?_)
      refine XR.call rfl rfl rfl en18 (made_any n a0 c0 _ hn hC hcl) ⟨rfl, trivial⟩ (List.Sublist.cons _ (List.Sublist.refl _)) ?_
      rintro u J43 hle43 hr
      replace hI := Im.le_trans hI hle43
      replace hG := hG.mono hle43
      replace hC := hC.mono hle43
      replace hK := hK.mono hle43
      obtain ⟨am, cm, rfl, hcp_hM, hM⟩ := hr
      refine XR.call rfl rfl rfl en17 (bent_any n.made am cm bd.a bd.b bd.c _ hM (by omega) (by omega) hbd.a hbd.b hbd.c) ⟨rfl, rfl, rfl, rfl, trivial⟩ (List.Sublist.cons _ (List.Sublist.refl _)) ?_
      rintro u J44 hle44 hr
      replace hI := Im.le_trans hI hle44
      replace hG := hG.mono hle44
      replace hC := hC.mono hle44
      replace hK := hK.mono hle44
      replace hM := hM.mono hle44
      rw [← hx] at hr
      obtain ⟨ab, cb, rfl, hcp_hB, hB⟩ := hr
      refine XR.store_agg (vs := (x).cs ab cb) 0 rfl rfl z37 rfl rfl (by simp [Value.oneCell']) rfl (by simp) (.inl rfl) ?_
      refine XR.nil ?_
      refine XQ.joined (_, ab, cb, b10) ⟨hI, hcp_hB, hB, hG, hK⟩ ⟨rfl, rfl, rfl, rfl, trivial⟩ rfl (List.Perm.refl _)
  · skip
    obtain ⟨MM, ab, cb, b10⟩ := qj
    obtain ⟨hI, hcp_hB, hB, hG, hK⟩ := hqj
    simp only at hI hcp_hB hB hG hK ⊢
    refine XQ.then_normal ?_
    refine XC.seq ?_
    refine XC.region ?_
    refine XO.rd rfl rfl rfl (Reads.move rfl) ?_
    refine XO.callp rfl rfl en16 (pickL_any st 256 _ hst (by decide)) ⟨rfl, rfl, trivial⟩ ?_
    rw [hs1]
    refine XO.rd rfl rfl rfl (Reads.assign rfl) ?_
    refine XO.nil ?_
    refine XQ.then_normal ?_
    refine XC.seq ?_
    refine XC.draw m_mixed none (.pure 0 (.pure 1 (.pure 3 (.eff 2 (.eff 4 (.pure 5 (.pure 6 (.pure 7 (.pure 8 (.pure 9 (.pure 10 (.pure 11 (.done))))))))))))) _ (by kernel_rfl) (List.Sublist.refl _) ?_
    refine XR.rd rfl rfl rfl (Reads.move rfl) ?_
    refine XR.rd rfl rfl rfl (Reads.move rfl) ?_
    refine XR.rd rfl rfl rfl (Reads.load_whole k37 z37 rfl (by first | exact WholeAt.of 0 rfl | exact WholeAt.of 1 rfl | exact WholeAt.of 2 rfl | exact WholeAt.of 3 rfl) (by rfl)) ?_
    refine XR.call rfl rfl rfl en14 (known_any ak ck allK s1 _ hK (by rw [allK_len]; decide)) ⟨rfl, rfl, trivial⟩ (List.Sublist.refl _) ?_
    rintro u J45 hle45 hr
    replace hI := Im.le_trans hI hle45
    replace hG := hG.mono hle45
    replace hK := hK.mono hle45
    replace hB := hB.mono hle45
    obtain ⟨ak1, ck1, rfl, hc_hK1, hK1⟩ := hr.ex
    refine XR.callp rfl rfl rfl en19 (check_any x ab ak1 cb ck1 (known allK s1) _ hB (by omega) hK1 (by rw [known_len, allK_len]; decide) hG) ⟨rfl, rfl, trivial⟩ (List.Sublist.refl _) ?_
    refine XR.rd rfl rfl rfl (Reads.move rfl) ?_
    refine XR.rd rfl rfl rfl (Reads.extract rfl rfl) ?_
    refine XR.rd rfl rfl rfl (Reads.extract rfl rfl) ?_
    refine XR.rd rfl rfl rfl (Reads.extract rfl rfl) ?_
    refine XR.rd rfl rfl rfl (Reads.assign rfl) ?_
    refine XR.rd rfl rfl rfl (Reads.assign rfl) ?_
    refine XR.rd rfl rfl rfl (Reads.assign rfl) ?_
    refine XR.nil ?_
    refine XQ.then_normal ?_
    refine XC.seq ?_
    refine XC.draw m_mixed none (.pure 0 (.pure 1 (.pure 2 (.pure 6 (.eff 3 (.pure 4 (.eff 5 (.eff 7 (.pure 8 (.pure 9 (.pure 10 (.pure 11 (.pure 12 (.pure 13 (.pure 14 (.done)))))))))))))))) _ (by kernel_rfl) (List.Sublist.refl _) ?_
    refine XR.rd rfl rfl rfl (Reads.move rfl) ?_
    refine XR.rd rfl rfl rfl (Reads.move rfl) ?_
    refine XR.rd rfl rfl rfl (Reads.move rfl) ?_
    refine XR.rd rfl rfl rfl (Reads.load_whole k37 z37 rfl (by first | exact WholeAt.of 0 rfl | exact WholeAt.of 1 rfl | exact WholeAt.of 2 rfl | exact WholeAt.of 3 rfl) (by rfl)) ?_
    refine XR.callp rfl rfl rfl en16 (pickL_any mo 256 _ hmo (by decide)) ⟨rfl, rfl, trivial⟩ (List.Sublist.refl _) ?_
    rw [hs2]
    refine XR.rd rfl rfl rfl (Reads.ior (m := s1) (n := s2) rfl rfl (by omega) (by omega)) ?_
    refine XR.call rfl rfl rfl en14 (known_any ak ck allK (s1 ||| s2) _ hK (by rw [allK_len]; decide)) ⟨rfl, rfl, trivial⟩ (List.Sublist.refl _) ?_
    rintro u J46 hle46 hr
    replace hI := Im.le_trans hI hle46
    replace hG := hG.mono hle46
    replace hK := hK.mono hle46
    replace hB := hB.mono hle46
    replace hK1 := hK1.mono hle46
    obtain ⟨ak2, ck2, rfl, hc_hK2, hK2⟩ := hr.ex
    refine XR.callp rfl rfl rfl en19 (check_any x ab ak2 cb ck2 (known allK (s1 ||| s2)) _ hB (by omega) hK2 (by rw [known_len, allK_len]; decide) hG) ⟨rfl, rfl, trivial⟩ (List.Sublist.refl _) ?_
    refine XR.rd rfl rfl rfl (Reads.move rfl) ?_
    refine XR.rd rfl rfl rfl (Reads.extract rfl rfl) ?_
    refine XR.rd rfl rfl rfl (Reads.extract rfl rfl) ?_
    refine XR.rd rfl rfl rfl (Reads.extract rfl rfl) ?_
    refine XR.rd rfl rfl rfl (Reads.assign rfl) ?_
    refine XR.rd rfl rfl rfl (Reads.assign rfl) ?_
    refine XR.rd rfl rfl rfl (Reads.assign rfl) ?_
    refine XR.nil ?_
    refine XQ.then_normal ?_
    refine XC.seq ?_
    refine XC.seq ?_
    refine XC.region ?_
    refine XO.rd rfl rfl rfl (Reads.move rfl) ?_
    refine XO.rd rfl rfl rfl (Reads.cmp rfl rfl rfl) ?_
    refine XO.nil ?_
    refine XQ.then_normal ?_
    refine XC.cond rfl (fun h1 => ?_) (fun h1 => ?_)
    · skip
      simp only [cmpInt, bne_iff_ne, ne_eq] at h1
      have hnf := check_bad (ok_known _) h1
      refine XC.seq ?_
      refine XC.region ?_
      refine XO.rd rfl rfl rfl (Reads.move rfl) ?_
      refine XO.rd rfl rfl rfl (Reads.move rfl) ?_
      refine XO.rd rfl rfl rfl (Reads.cmp_yes rfl rfl rfl (by rw [check_no hnf, check_no hnf]; rfl)) ?_
      refine XO.rd rfl rfl rfl (Reads.move rfl) ?_
      refine XO.rd (wg rfl rfl rfl) rfl rfl (Reads.load_whole k37 z37 rfl (by first | exact WholeAt.of 0 rfl | exact WholeAt.of 1 rfl | exact WholeAt.of 2 rfl | exact WholeAt.of 3 rfl) (by rfl)) ?_
      refine XO.callp (wg rfl rfl rfl) rfl en20 (shown_is hnf (formed_any x ab cb _ hB (by omega))) ⟨rfl, trivial⟩ ?_
      refine XO.rd (wg rfl rfl rfl) rfl rfl (Reads.not rfl) ?_
      refine XO.rd rfl rfl rfl (Reads.pick_true rfl rfl) ?_
      refine XO.rd rfl rfl rfl (Reads.assign rfl) ?_
      refine XO.nil ?_
      refine XQ.then_normal ?_
      refine XC.ret ?_
      refine XQ.then_ret ?_
      refine XQ.dropn 3 ?_
      refine XQ.done1 (L := []) rfl rfl hI ?_
      exact ⟨rfl, rfl⟩
    · skip
      simp only [cmpInt, bne_eq_false_iff_eq] at h1
      have hf := check_ok (ok_known _) h1
      have hcm := check_more (s := s1) (t := s2) hf
      refine XC.skip ?_
      refine XQ.then_normal ?_
      refine XC.seq ?_
      refine XC.region ?_
      refine XO.rd rfl rfl rfl (Reads.move rfl) ?_
      refine XO.rd rfl rfl rfl (Reads.cmp_yes rfl rfl rfl (by rw [check_yes hf (ok_known _)]; rfl)) ?_
      refine XO.rd rfl rfl rfl (Reads.move rfl) ?_
      refine XO.rd (wg rfl rfl rfl) rfl rfl (Reads.move rfl) ?_
      refine XO.rd (wg rfl rfl rfl) rfl rfl (Reads.move rfl) ?_
      refine XO.rd (wg rfl rfl rfl) rfl rfl (Reads.cmp_yes rfl rfl rfl (decide_eq_true hcm.1)) ?_
      refine XO.rd rfl rfl rfl (Reads.pick_true rfl rfl) ?_
      refine XO.rd rfl rfl rfl (Reads.move rfl) ?_
      refine XO.rd (wg rfl rfl rfl) rfl rfl (Reads.move rfl) ?_
      refine XO.rd (wg rfl rfl rfl) rfl rfl (Reads.cmp rfl rfl rfl) ?_
      refine XO.rd (wg rfl rfl rfl) rfl rfl (Reads.move rfl) ?_
      refine XO.split (d := 73) rfl (fun h2 => ?_) (fun h2 => ?_)
      · skip
        refine XO.s (wg rfl rfl rfl) rfl ?_
        refine XO.s (wg rfl rfl rfl) rfl ?_
        refine XO.s (wg rfl rfl rfl) rfl ?_
        refine XO.s (wgu rfl rfl) rfl ?_
        refine XO.s (wgu rfl rfl) rfl ?_
        refine XO.s (wgu rfl rfl) rfl ?_
        refine XO.s (wg rfl rfl rfl) rfl ?_
        refine XO.rd (wg rfl rfl rfl) rfl rfl (Reads.pick_true rfl rfl) ?_
        refine XO.rd rfl rfl rfl (Reads.pick_true rfl rfl) ?_
        refine XO.rd rfl rfl rfl (Reads.assign rfl) ?_
        refine XO.nil ?_
        refine XQ.then_normal ?_
        refine XC.ret ?_
        refine XQ.dropn 3 ?_
        refine XQ.done1 (L := []) rfl rfl hI ?_
        exact ⟨rfl, rfl⟩
      · skip
        simp only [cmpInt, decide_eq_false_iff_not] at h2
        have hneg := h2
        refine XO.rd (wg rfl rfl rfl) rfl rfl (Reads.move rfl) ?_
        refine XO.rd (wg rfl rfl rfl) rfl rfl (Reads.cmp_yes rfl rfl rfl (decide_eq_true (hcm.2.resolve_left hneg).1)) ?_
        refine XO.rd (wg rfl rfl rfl) rfl rfl (Reads.move rfl) ?_
        refine XO.rd (wg rfl rfl rfl) rfl rfl (Reads.move rfl) ?_
        refine XO.rd (wg rfl rfl rfl) rfl rfl (Reads.move rfl) ?_
        refine XO.rd (wg rfl rfl rfl) rfl rfl (Reads.cmp_yes rfl rfl rfl (decide_eq_true (hcm.2.resolve_left hneg).2)) ?_
        refine XO.rd (wg rfl rfl rfl) rfl rfl (Reads.pick_true rfl rfl) ?_
        refine XO.rd (wg rfl rfl rfl) rfl rfl (Reads.pick_false rfl rfl) ?_
        refine XO.rd rfl rfl rfl (Reads.pick_true rfl rfl) ?_
        refine XO.rd rfl rfl rfl (Reads.assign rfl) ?_
        refine XO.nil ?_
        refine XQ.then_normal ?_
        refine XC.ret ?_
        refine XQ.dropn 3 ?_
        refine XQ.done1 (L := []) rfl rfl hI ?_
        exact ⟨rfl, rfl⟩

end Go.Proofs.YtmlliafhpbfdbaaDoor
