/- Walk: AttestCuts. -/
import Derived.Test.YtmlliafhpbfdbaaDoorMJ
import Derived.Test.YtmlliafhpbfdbaaDoorMI
import Derived.Test.YtmlliafhpbfdbaaDoorMK
namespace Go.Proofs.YtmlliafhpbfdbaaDoor
open Go.Xe Go.Sh Go Go.At

set_option maxHeartbeats 1600000 in
theorem attestCuts_any (n : Num) (a0 : Option Addr) (c0 : Nat) (bd : Q3) (st nn : Int) (I : Im) (hn : n.In) (hC : Arr I a0 n.cars) (hcl : n.cars.length ≤ 9223372036854775807) (hG : Glob I) (hbd : bd.In) (hst : In64 st) (hnn : In64 nn) : FC Tryd.prog 3 [.agg (n.cs a0 c0).toArray, .agg bd.cells.toArray, .int .i64 st, .int .i64 nn] I (fun u _I' => u = .bool true) := by
  have hI := Im.le_refl I
  obtain ⟨s1, hs1, hs9⟩ := pick_nat st (n := 256) (by decide)
  obtain ⟨x, hx⟩ : ∃ x : Att, x = (bent n.made bd.a bd.b bd.c) := ⟨_, rfl⟩
  have hxl := bent_len n.made bd.a bd.b bd.c
  rw [← hx] at hxl
  have hml := n.made_len
  refine FSo.intro (n := 105) Tryd.func3 rfl rfl rfl (fun K Lf => ?_)
  refine XC.seq ?_
  refine XC.region ?_
  refine XO.box_agg rfl rfl rfl (fun b4 => ?_)
  refine XO.box_agg rfl rfl rfl (fun b5 => ?_)
  refine XO.rd rfl rfl rfl (Reads.assign rfl) ?_
  refine XO.nil ?_
  refine XQ.then_normal ?_
  refine XC.seq ?_
  refine XC.seq ?_
  refine XC.region ?_
  refine XO.callp rfl rfl en13 (FC.pure (sane_any _ hG)) trivial ?_
  refine XO.rd rfl rfl rfl (Reads.not rfl) ?_
  refine XO.nil ?_
  refine XQ.then_normal ?_
  refine XC.cond rfl (fun hx => by cases hx) (fun _ => ?_)
  refine XC.skip ?_
  refine XQ.then_normal ?_
  refine XC.seq ?_
  refine XC.region ?_
  refine XO.call rfl rfl en15 (all_any _) trivial ?_
  rintro u J57 hle57 hr
  replace hI := Im.le_trans hI hle57
  replace hG := hG.mono hle57
  replace hC := hC.mono hle57
  obtain ⟨ak, ck, rfl, hc_hK, hK⟩ := hr.ex
  refine XO.rd rfl rfl rfl (Reads.move rfl) ?_
  refine XO.callp rfl rfl en16 (pickL_any st 256 _ hst (by decide)) ⟨rfl, rfl, trivial⟩ ?_
  rw [hs1]
  refine XO.call rfl rfl en14 (known_any ak ck allK s1 _ hK (by rw [allK_len]; decide)) ⟨rfl, rfl, trivial⟩ ?_
  rintro u J58 hle58 hr
  replace hI := Im.le_trans hI hle58
  replace hG := hG.mono hle58
  replace hC := hC.mono hle58
  replace hK := hK.mono hle58
  obtain ⟨ak1, ck1, rfl, hc_hK1, hK1⟩ := hr.ex
  refine XO.rd rfl rfl rfl (Reads.assign rfl) ?_
  refine XO.nil ?_
  refine XQ.then_normal ?_
  refine XC.seq ?_
  refine XC.join (ι := Im × Option Addr × Nat × Nat) (fun q => [(3, .int .i64 nn), (9, .slice ak1 (known allK s1).length ck1), (10, .pointer (some ⟨q.2.2.2, 0, none⟩))]) (fun q => q.1) (fun q => some (q.2.2.2, .cells ((x).cs q.2.1 q.2.2.1).toArray 37 (0, 0)) :: some (b5, .cells bd.cells.toArray 27 (0, 0)) :: some (b4, .cells (n.cs a0 c0).toArray 26 (0, 0)) :: ([] ++ Lf)) (fun q => I.le q.1 ∧ x.hs.length ≤ q.2.2.1 ∧ Arr q.1 q.2.1 x.hs ∧ Glob q.1 ∧ Arr q.1 ak1 (known allK s1)) ?_ (fun qj hqj => ?_)
  · skip
    refine XC.draw m_mixed (some 10) (.pure 0 (.pure 2 (.pure 3 (.pure 4 (.pure 5 (.pure 6 (.pure 7 (.alt 1 (.alt 8 (.eff 9 (.eff 10 (.done))) (.eff 9 (.eff 8 (.eff 10 (.done))))) (.eff 9 (.eff 1 (.eff 8 (.eff 10 (.done))))))))))))) _ (by kernel_rfl) (List.Sublist.refl _) ?_
    refine XR.rd rfl rfl rfl (Reads.load_whole k26 z26 rfl (by first | exact WholeAt.of 0 rfl | exact WholeAt.of 1 rfl | exact WholeAt.of 2 rfl | exact WholeAt.of 3 rfl) (by rfl)) ?_
    refine XR.rd rfl rfl rfl (Reads.index_arr_own (q := 0) Tryd.underlying27 z3 rfl rfl (by decide) rfl) ?_
    refine XR.rd rfl rfl rfl (Reads.load_own k3 rfl (by first | exact OwnAt.of 0 rfl rfl | exact OwnAt.of 1 rfl rfl | exact OwnAt.of 2 rfl rfl | exact OwnAt.of 3 rfl rfl)) ?_
    refine XR.rd rfl rfl rfl (Reads.index_arr_own (q := 1) Tryd.underlying27 z3 rfl rfl (by decide) rfl) ?_
    refine XR.rd rfl rfl rfl (Reads.load_own k3 rfl (by first | exact OwnAt.of 0 rfl rfl | exact OwnAt.of 1 rfl rfl | exact OwnAt.of 2 rfl rfl | exact OwnAt.of 3 rfl rfl)) ?_
    refine XR.rd rfl rfl rfl (Reads.index_arr_own (q := 2) Tryd.underlying27 z3 rfl rfl (by decide) rfl) ?_
    refine XR.rd rfl rfl rfl (Reads.load_own k3 rfl (by first | exact OwnAt.of 0 rfl rfl | exact OwnAt.of 1 rfl rfl | exact OwnAt.of 2 rfl rfl | exact OwnAt.of 3 rfl rfl)) ?_
    refine XR.alt ?_ ?_
    · skip
      refine XR.call rfl rfl rfl en18 (made_any n a0 c0 _ hn hC hcl) ⟨rfl, trivial⟩ (List.Sublist.refl _) ?_
      rintro u J59 hle59 hr
      replace hI := Im.le_trans hI hle59
      replace hG := hG.mono hle59
      replace hC := hC.mono hle59
      replace hK := hK.mono hle59
      replace hK1 := hK1.mono hle59
      obtain ⟨am, cm, rfl, hcp_hM, hM⟩ := hr
      refine XR.alt ?_ ?_
      · skip
        refine XR.call rfl rfl rfl en17 (bent_any n.made am cm bd.a bd.b bd.c _ hM (by omega) (by omega) hbd.a hbd.b hbd.c) ⟨rfl, rfl, rfl, rfl, trivial⟩ (List.Sublist.refl _) ?_
        rintro u J60 hle60 hr
        replace hI := Im.le_trans hI hle60
        replace hG := hG.mono hle60
        replace hC := hC.mono hle60
        replace hK := hK.mono hle60
        replace hK1 := hK1.mono hle60
        replace hM := hM.mono hle60
        rw [← hx] at hr
        obtain ⟨ab, cb, rfl, hcp_hB, hB⟩ := hr
        refine XR.alloc (cs := #[.int .i64 0, .int .i64 0, .int .i64 0, .int .i64 0, .slice none 0 0]) rfl rfl rfl zo37 rfl (List.Sublist.refl _) (fun b10 => ?_)
        refine XR.store_agg (vs := (x).cs ab cb) 0 rfl rfl z37 rfl rfl (by simp [Value.oneCell']) rfl (by simp) (.inl rfl) ?_
        refine XR.nil ?_
        refine XQ.joined (_, ab, cb, b10) ⟨hI, hcp_hB, hB, hG, hK1⟩ ⟨rfl, rfl, rfl, trivial⟩ rfl (List.Perm.refl _)
      · skip
        refine XR.alloc (cs := #[.int .i64 0, .int .i64 0, .int .i64 0, .int .i64 0, .slice none 0 0]) rfl rfl rfl zo37 rfl (List.Sublist.refl _) (fun b10 => ?_)
        refine XR.call rfl rfl rfl en17 (bent_any n.made am cm bd.a bd.b bd.c _ hM (by omega) (by omega) hbd.a hbd.b hbd.c) ⟨rfl, rfl, rfl, rfl, trivial⟩ (List.Sublist.cons _ (List.Sublist.refl _)) ?_
        rintro u J61 hle61 hr
        replace hI := Im.le_trans hI hle61
        replace hG := hG.mono hle61
        replace hC := hC.mono hle61
        replace hK := hK.mono hle61
        replace hK1 := hK1.mono hle61
        replace hM := hM.mono hle61
        rw [← hx] at hr
        obtain ⟨ab, cb, rfl, hcp_hB, hB⟩ := hr
        refine XR.store_agg (vs := (x).cs ab cb) 0 rfl rfl z37 rfl rfl (by simp [Value.oneCell']) rfl (by simp) (.inl rfl) ?_
        refine XR.nil ?_
        refine XQ.joined (_, ab, cb, b10) ⟨hI, hcp_hB, hB, hG, hK1⟩ ⟨rfl, rfl, rfl, trivial⟩ rfl (List.Perm.refl _)
    · skip
      refine XR.alloc (cs := #[.int .i64 0, .int .i64 0, .int .i64 0, .int .i64 0, .slice none 0 0]) rfl rfl rfl zo37 rfl (List.Sublist.refl _) (fun b10 => ?_)
      refine XR.call rfl rfl rfl en18 (made_any n a0 c0 _ hn hC hcl) ⟨rfl, trivial⟩ (List.Sublist.cons _ (List.Sublist.refl _)) ?_
      rintro u J62 hle62 hr
      replace hI := Im.le_trans hI hle62
      replace hG := hG.mono hle62
      replace hC := hC.mono hle62
      replace hK := hK.mono hle62
      replace hK1 := hK1.mono hle62
      obtain ⟨am, cm, rfl, hcp_hM, hM⟩ := hr
      refine XR.call rfl rfl rfl en17 (bent_any n.made am cm bd.a bd.b bd.c _ hM (by omega) (by omega) hbd.a hbd.b hbd.c) ⟨rfl, rfl, rfl, rfl, trivial⟩ (List.Sublist.cons _ (List.Sublist.refl _)) ?_
      rintro u J63 hle63 hr
      replace hI := Im.le_trans hI hle63
      replace hG := hG.mono hle63
      replace hC := hC.mono hle63
      replace hK := hK.mono hle63
      replace hK1 := hK1.mono hle63
      replace hM := hM.mono hle63
      rw [← hx] at hr
      obtain ⟨ab, cb, rfl, hcp_hB, hB⟩ := hr
      refine XR.store_agg (vs := (x).cs ab cb) 0 rfl rfl z37 rfl rfl (by simp [Value.oneCell']) rfl (by simp) (.inl rfl) ?_
      refine XR.nil ?_
      refine XQ.joined (_, ab, cb, b10) ⟨hI, hcp_hB, hB, hG, hK1⟩ ⟨rfl, rfl, rfl, trivial⟩ rfl (List.Perm.refl _)
  · skip
    obtain ⟨MM, ab, cb, b10⟩ := qj
    obtain ⟨hI, hcp_hB, hB, hG, hK1⟩ := hqj
    simp only at hI hcp_hB hB hG hK1 ⊢
    refine XQ.then_normal ?_
    refine XC.seq ?_
    refine XC.region ?_
    refine XO.rd rfl rfl rfl (Reads.move rfl) ?_
    refine XO.rd rfl rfl rfl (Reads.load_whole k37 z37 rfl (by first | exact WholeAt.of 0 rfl | exact WholeAt.of 1 rfl | exact WholeAt.of 2 rfl | exact WholeAt.of 3 rfl) (by rfl)) ?_
    refine XO.callp rfl rfl en19 (check_any x ab ak1 cb ck1 (known allK s1) _ hB (by omega) hK1 (by rw [known_len, allK_len]; decide) hG) ⟨rfl, rfl, trivial⟩ ?_
    refine XO.rd rfl rfl rfl (Reads.move rfl) ?_
    refine XO.rd rfl rfl rfl (Reads.extract rfl rfl) ?_
    refine XO.rd rfl rfl rfl (Reads.extract rfl rfl) ?_
    refine XO.rd rfl rfl rfl (Reads.extract rfl rfl) ?_
    refine XO.rd rfl rfl rfl (Reads.assign rfl) ?_
    refine XO.rd rfl rfl rfl (Reads.assign rfl) ?_
    refine XO.rd rfl rfl rfl (Reads.assign rfl) ?_
    refine XO.nil ?_
    refine XQ.then_normal ?_
    refine XC.seq ?_
    refine XC.seq ?_
    refine XC.region ?_
    refine XO.rd rfl rfl rfl (Reads.move rfl) ?_
    refine XO.rd rfl rfl rfl (Reads.cmp rfl rfl rfl) ?_
    refine XO.nil ?_
    refine XQ.then_normal ?_
    refine XC.cond rfl (fun h1 => ?_) (fun h1 => ?_)
    · skip
      simp only [cmpInt, bne_iff_ne, ne_eq] at h1
      have hnf := check_bad (ok_known _) h1
      refine XC.seq ?_
      refine XC.region ?_
      refine XO.rd rfl rfl rfl (Reads.load_whole k37 z37 rfl (by first | exact WholeAt.of 0 rfl | exact WholeAt.of 1 rfl | exact WholeAt.of 2 rfl | exact WholeAt.of 3 rfl) (by rfl)) ?_
      refine XO.callp rfl rfl en20 (shown_is hnf (formed_any x ab cb _ hB (by omega))) ⟨rfl, trivial⟩ ?_
      refine XO.rd rfl rfl rfl (Reads.not rfl) ?_
      refine XO.rd rfl rfl rfl (Reads.assign rfl) ?_
      refine XO.nil ?_
      refine XQ.then_normal ?_
      refine XC.ret ?_
      refine XQ.then_ret ?_
      refine XQ.dropn 3 ?_
      refine XQ.done1 (L := []) rfl rfl hI ?_
      exact ⟨rfl, rfl⟩
    · skip
      simp only [cmpInt, bne_eq_false_iff_eq] at h1
      have hf := check_ok (ok_known _) h1
      have hle8 := formed_len hf
      obtain ⟨k, hk, hk9⟩ := pick_nat nn (n := (x.hs.length : Int)) (by omega)
      have hpl := pre_len (x := x) (m := k + 1) (by omega)
      have hfp := pre_formed hf (m := k + 1) (by omega) (by omega)
      have hcc := check_cut (m := k + 1) hf (ok_known s1) (by omega) (by omega)
      refine XC.skip ?_
      refine XQ.then_normal ?_
      refine XC.seq ?_
      refine XC.region ?_
      refine XO.rd rfl rfl rfl (Reads.move rfl) ?_
      refine XO.rd rfl rfl rfl (fa37_1 rfl) ?_
      refine XO.rd rfl rfl rfl (Reads.load_own k35 rfl (by first | exact OwnAt.of 0 rfl rfl | exact OwnAt.of 1 rfl rfl | exact OwnAt.of 2 rfl rfl | exact OwnAt.of 3 rfl rfl)) ?_
      refine XO.rd rfl rfl rfl (Reads.len_slice Tryd.underlying35 rfl) ?_
      refine XO.callp rfl rfl en16 (pickL_any nn (x.hs.length : Int) _ hnn (by omega)) ⟨rfl, rfl, trivial⟩ ?_
      rw [hk]
      refine XO.rd rfl rfl rfl (Reads.add rfl rfl (by omega)) ?_
      rw [show (1 : Int) + (k : Int) = ((k + 1 : Nat) : Int) by omega]
      refine XO.rd rfl rfl rfl (Reads.assign rfl) ?_
      refine XO.nil ?_
      refine XQ.then_normal ?_
      refine XC.seq ?_
      refine XC.region ?_
      refine XO.rd rfl rfl rfl (Reads.load_whole k37 z37 rfl (by first | exact WholeAt.of 0 rfl | exact WholeAt.of 1 rfl | exact WholeAt.of 2 rfl | exact WholeAt.of 3 rfl) (by rfl)) ?_
      refine XO.rd rfl rfl rfl (Reads.move rfl) ?_
      refine XO.call rfl rfl en21 (cut_any x ab cb ((k + 1 : Nat) : Int) _ hB (by omega) hcp_hB) ⟨rfl, rfl, trivial⟩ ?_
      rintro u J64 hle64 hr
      replace hI := Im.le_trans hI hle64
      replace hG := hG.mono hle64
      replace hK1 := hK1.mono hle64
      replace hB := hB.mono hle64
      rw [cut_yes hf (by omega) (by omega)] at hr
      obtain ⟨v9, e9, rfl, hy9, _⟩ := hr
      obtain ⟨rfl, ac, cc, rfl, hcp_hCu, hCu⟩ := hy9 _ rfl
      refine XO.rd rfl rfl rfl (Reads.move rfl) ?_
      refine XO.rd rfl rfl rfl (Reads.extract rfl rfl) ?_
      refine XO.rd rfl rfl rfl (Reads.extract rfl rfl) ?_
      refine XO.alloc (cs := #[.int .i64 0, .int .i64 0, .int .i64 0, .int .i64 0, .slice none 0 0]) rfl rfl zo37 rfl (fun b15 => ?_)
      refine XO.store_agg (vs := ((x.pre (k + 1))).cs ac cc) 0 rfl z37 rfl rfl (by simp [Value.oneCell']) rfl (by simp) ?_
      refine XO.rd rfl rfl rfl (Reads.assign rfl) ?_
      refine XO.nil ?_
      refine XQ.then_normal ?_
      refine XC.seq ?_
      refine XC.region ?_
      refine XO.rd rfl rfl rfl (Reads.move rfl) ?_
      refine XO.rd rfl rfl rfl (Reads.load_whole k37 z37 rfl (by first | exact WholeAt.of 0 rfl | exact WholeAt.of 1 rfl | exact WholeAt.of 2 rfl | exact WholeAt.of 3 rfl) (by rfl)) ?_
      refine XO.callp rfl rfl en19 (check_any (x.pre (k + 1)) ac ak1 cc ck1 (known allK s1) _ hCu (by omega) hK1 (by rw [known_len, allK_len]; decide) hG) ⟨rfl, rfl, trivial⟩ ?_
      refine XO.rd rfl rfl rfl (Reads.move rfl) ?_
      refine XO.rd rfl rfl rfl (Reads.extract rfl rfl) ?_
      refine XO.rd rfl rfl rfl (Reads.extract rfl rfl) ?_
      refine XO.rd rfl rfl rfl (Reads.extract rfl rfl) ?_
      refine XO.rd rfl rfl rfl (Reads.assign rfl) ?_
      refine XO.rd rfl rfl rfl (Reads.assign rfl) ?_
      refine XO.rd rfl rfl rfl (Reads.assign rfl) ?_
      refine XO.nil ?_
      refine XQ.then_normal ?_
      refine XC.seq ?_
      refine XC.seq ?_
      refine XC.region ?_
      refine XO.rd rfl rfl rfl (Reads.move rfl) ?_
      refine XO.rd rfl rfl rfl (Reads.cmp_no rfl rfl rfl rfl) ?_
      refine XO.rd rfl rfl rfl (Reads.move rfl) ?_
      refine XO.rd (wg rfl rfl rfl) rfl rfl (Reads.move rfl) ?_
      refine XO.rd (wg rfl rfl rfl) rfl rfl (Reads.cmp_no rfl rfl rfl (by rw [check_yes hfp (ok_known _)]; rfl)) ?_
      refine XO.rd rfl rfl rfl (Reads.pick_false rfl rfl) ?_
      refine XO.rd rfl rfl rfl (Reads.move rfl) ?_
      refine XO.rd (wg rfl rfl rfl) rfl rfl (fa37_1 rfl) ?_
      refine XO.rd (wg rfl rfl rfl) rfl rfl (Reads.load_own k35 rfl (by first | exact OwnAt.of 0 rfl rfl | exact OwnAt.of 1 rfl rfl | exact OwnAt.of 2 rfl rfl | exact OwnAt.of 3 rfl rfl)) ?_
      refine XO.rd (wg rfl rfl rfl) rfl rfl (Reads.len_slice Tryd.underlying35 rfl) ?_
      refine XO.rd (wg rfl rfl rfl) rfl rfl (Reads.move rfl) ?_
      refine XO.rd (wg rfl rfl rfl) rfl rfl (Reads.cmp_no rfl rfl rfl (by rw [pre_len (by omega)]; simp [cmpInt])) ?_
      refine XO.rd rfl rfl rfl (Reads.pick_false rfl rfl) ?_
      refine XO.rd rfl rfl rfl (Reads.move rfl) ?_
      refine XO.rd (wg rfl rfl rfl) rfl rfl (Reads.load_whole k37 z37 rfl (by first | exact WholeAt.of 0 rfl | exact WholeAt.of 1 rfl | exact WholeAt.of 2 rfl | exact WholeAt.of 3 rfl) (by rfl)) ?_
      refine XO.callp (wg rfl rfl rfl) rfl en20 (shown_is hfp (formed_any (x.pre (k + 1)) ac cc _ hCu (by omega))) ⟨rfl, trivial⟩ ?_
      refine XO.rd (wg rfl rfl rfl) rfl rfl (Reads.not rfl) ?_
      refine XO.rd rfl rfl rfl (Reads.pick_false rfl rfl) ?_
      refine XO.nil ?_
      refine XQ.then_normal ?_
      refine XC.cond rfl (fun hx => by cases hx) (fun _ => ?_)
      refine XC.skip ?_
      refine XQ.then_normal ?_
      refine XC.seq ?_
      refine XC.seq ?_
      refine XC.weaken (E' := [(11, _), (12, _), (14, _), (17, _), (18, _)]) ⟨rfl, rfl, rfl, rfl, rfl, trivial⟩ ?_
      refine XC.region ?_
      refine XO.rd rfl rfl rfl (Reads.move rfl) ?_
      refine XO.rd rfl rfl rfl (Reads.cmp rfl rfl rfl) ?_
      refine XO.rd rfl rfl rfl (Reads.move rfl) ?_
      refine XO.split (d := 86) rfl (fun h2 => ?_) (fun h2 => ?_)
      · skip
        simp only [cmpInt, decide_eq_true_eq] at h2
        have hge := h2
        refine XO.rd (wg rfl rfl rfl) rfl rfl (Reads.move rfl) ?_
        refine XO.rd (wg rfl rfl rfl) rfl rfl (Reads.move rfl) ?_
        refine XO.rd (wg rfl rfl rfl) rfl rfl (Reads.cmp rfl rfl rfl) ?_
        refine XO.rd rfl rfl rfl (Reads.pick_true rfl rfl) ?_
        refine XO.nil ?_
        refine XQ.then_normal ?_
        refine XC.cond rfl (fun h3 => ?_) (fun h3 => ?_)
        · skip
          simp only [cmpInt, decide_eq_true_eq] at h3
          have hps := And.intro hge h3
          refine XC.seq ?_
          refine XC.region ?_
          refine XO.rd rfl rfl rfl (Reads.move rfl) ?_
          refine XO.rd rfl rfl rfl (Reads.move rfl) ?_
          refine XO.rd rfl rfl rfl (Reads.cmp_yes rfl rfl rfl (by rw [hcc, if_pos hps]; simp [cmpInt])) ?_
          refine XO.rd rfl rfl rfl (Reads.move rfl) ?_
          refine XO.rd (wg rfl rfl rfl) rfl rfl (Reads.move rfl) ?_
          refine XO.rd (wg rfl rfl rfl) rfl rfl (Reads.move rfl) ?_
          refine XO.rd (wg rfl rfl rfl) rfl rfl (Reads.cmp_yes rfl rfl rfl (by rw [hcc, if_pos hps]; simp [cmpInt])) ?_
          refine XO.rd rfl rfl rfl (Reads.pick_true rfl rfl) ?_
          refine XO.rd rfl rfl rfl (Reads.assign rfl) ?_
          refine XO.nil ?_
          refine XQ.then_normal ?_
          refine XC.ret ?_
          refine XQ.then_ret ?_
          refine XQ.dropn 4 ?_
          refine XQ.done1 (L := []) rfl rfl hI ?_
          exact ⟨rfl, rfl⟩
        · skip
          simp only [cmpInt, decide_eq_false_iff_not] at h3
          have hng := fun h9 : 0 ≤ (check (known allK s1) x).2.1 ∧ (check (known allK s1) x).2.1 < ((k + 1 : Nat) : Int) => h3 h9.2
          refine XC.skip ?_
          refine XQ.then_normal ?_
          refine XC.seq ?_
          refine XC.region ?_
          refine XO.rd rfl rfl rfl (Reads.move rfl) ?_
          refine XO.rd rfl rfl rfl (Reads.cmp_yes rfl rfl rfl (by rw [hcc, if_neg hng]; rfl)) ?_
          refine XO.rd rfl rfl rfl (Reads.move rfl) ?_
          refine XO.rd (wg rfl rfl rfl) rfl rfl (Reads.move rfl) ?_
          refine XO.rd (wg rfl rfl rfl) rfl rfl (Reads.cmp_yes rfl rfl rfl (by rw [hcc, if_neg hng]; rfl)) ?_
          refine XO.rd rfl rfl rfl (Reads.pick_true rfl rfl) ?_
          refine XO.rd rfl rfl rfl (Reads.assign rfl) ?_
          refine XO.nil ?_
          refine XQ.then_normal ?_
          refine XC.ret ?_
          refine XQ.dropn 4 ?_
          refine XQ.done1 (L := []) rfl rfl hI ?_
          exact ⟨rfl, rfl⟩
      · skip
        simp only [cmpInt, decide_eq_false_iff_not] at h2
        have hng := fun h9 : 0 ≤ (check (known allK s1) x).2.1 ∧ (check (known allK s1) x).2.1 < ((k + 1 : Nat) : Int) => h2 h9.1
        refine XO.s (wg rfl rfl rfl) rfl ?_
        refine XO.s (wg rfl rfl rfl) rfl ?_
        refine XO.s (wg rfl rfl rfl) rfl ?_
        refine XO.rd rfl rfl rfl (Reads.pick_false rfl rfl) ?_
        refine XO.nil ?_
        refine XQ.then_normal ?_
        refine XC.cond rfl (fun hx => by cases hx) (fun _ => ?_)
        refine XC.skip ?_
        refine XQ.then_normal ?_
        refine XC.seq ?_
        refine XC.region ?_
        refine XO.rd rfl rfl rfl (Reads.move rfl) ?_
        refine XO.rd rfl rfl rfl (Reads.cmp_yes rfl rfl rfl (by rw [hcc, if_neg hng]; rfl)) ?_
        refine XO.rd rfl rfl rfl (Reads.move rfl) ?_
        refine XO.rd (wg rfl rfl rfl) rfl rfl (Reads.move rfl) ?_
        refine XO.rd (wg rfl rfl rfl) rfl rfl (Reads.cmp_yes rfl rfl rfl (by rw [hcc, if_neg hng]; rfl)) ?_
        refine XO.rd rfl rfl rfl (Reads.pick_true rfl rfl) ?_
        refine XO.rd rfl rfl rfl (Reads.assign rfl) ?_
        refine XO.nil ?_
        refine XQ.then_normal ?_
        refine XC.ret ?_
        refine XQ.dropn 4 ?_
        refine XQ.done1 (L := []) rfl rfl hI ?_
        exact ⟨rfl, rfl⟩

end Go.Proofs.YtmlliafhpbfdbaaDoor
