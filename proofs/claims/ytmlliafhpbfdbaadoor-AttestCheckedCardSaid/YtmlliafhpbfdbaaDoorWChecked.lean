/- Walk: AttestChecked. -/
import Derived.Test.YtmlliafhpbfdbaaDoorMJ
import Derived.Test.YtmlliafhpbfdbaaDoorMH
import Derived.Test.YtmlliafhpbfdbaaDoorMI
import Derived.Test.YtmlliafhpbfdbaaDoorK9
namespace Go.Proofs.YtmlliafhpbfdbaaDoor
open Go.Xe Go.Sh Go Go.At

set_option maxHeartbeats 1600000 in
theorem attestChecked_any (n : Num) (a0 : Option Addr) (c0 : Nat) (bd : Q3) (st : Int) (I : Im) (hn : n.In) (hC : Arr I a0 n.cars) (hcl : n.cars.length ≤ 9223372036854775807) (hG : Glob I) (hbd : bd.In) (hst : In64 st) : FC Tryd.prog 8 [.agg (n.cs a0 c0).toArray, .agg bd.cells.toArray, .int .i64 st] I (fun u _I' => u = .bool true) := by
  have hI := Im.le_refl I
  obtain ⟨s1, hs1, hs9⟩ := pick_nat st (n := 256) (by decide)
  obtain ⟨x, hx⟩ : ∃ x : Att, x = n.made := ⟨_, rfl⟩
  have hch := n.made_chain
  have hml := n.made_len
  rw [← hx] at hch hml
  have hf := hch.f
  have hsz := formed_sz hf
  obtain ⟨y, hy⟩ : ∃ y : Att, y = bent x bd.a bd.b bd.c := ⟨_, rfl⟩
  have hyl := bent_len x bd.a bd.b bd.c
  rw [← hy] at hyl
  refine FSo.intro (n := 129) Tryd.func8 rfl rfl rfl (fun K Lf => ?_)
  refine XC.seq ?_
  refine XC.region ?_
  refine XO.box_agg rfl rfl rfl (fun b3 => ?_)
  refine XO.box_agg rfl rfl rfl (fun b4 => ?_)
  refine XO.rd rfl rfl rfl (Reads.assign rfl) ?_
  refine XO.nil ?_
  refine XQ.then_normal ?_
  refine XC.seq ?_
  refine XC.seq ?_
  refine XC.region ?_
  refine XO.callp rfl rfl en13 (FC.pure (sane_any _ hG)) trivial ?_
  refine XO.rd rfl rfl rfl (Reads.not rfl) ?_
  refine XO.nil ?_
  refine XQ.then_normal ?_
  refine XC.cond rfl (fun hx => by cases hx) (fun _ => ?_)
  refine XC.skip ?_
  refine XQ.then_normal ?_
  refine XC.seq ?_
  refine XC.region ?_
  refine XO.call rfl rfl en15 (all_any _) trivial ?_
  rintro u J78 hle78 hr
  replace hI := Im.le_trans hI hle78
  replace hG := hG.mono hle78
  replace hC := hC.mono hle78
  obtain ⟨ak, ck, rfl, hc_hK, hK⟩ := hr.ex
  refine XO.rd rfl rfl rfl (Reads.assign rfl) ?_
  refine XO.nil ?_
  refine XQ.then_normal ?_
  refine XC.seq ?_
  refine XC.region ?_
  refine XO.rd rfl rfl rfl (Reads.load_whole k26 z26 rfl (by first | exact WholeAt.of 0 rfl | exact WholeAt.of 1 rfl | exact WholeAt.of 2 rfl | exact WholeAt.of 3 rfl | exact WholeAt.of 4 rfl | exact WholeAt.of 5 rfl) (by rfl)) ?_
  refine XO.call rfl rfl en22 (knows_any n a0 c0 _ hn) ⟨rfl, trivial⟩ ?_
  rintro u J79 hle79 hr
  replace hI := Im.le_trans hI hle79
  replace hG := hG.mono hle79
  replace hC := hC.mono hle79
  replace hK := hK.mono hle79
  obtain ⟨aw, cw, rfl, hcw, hKn⟩ := hr.ex
  refine XO.rd rfl rfl rfl (Reads.assign rfl) ?_
  refine XO.nil ?_
  refine XQ.then_normal ?_
  refine XC.seq ?_
  refine XC.region ?_
  refine XO.rd rfl rfl rfl (Reads.load_whole k26 z26 rfl (by first | exact WholeAt.of 0 rfl | exact WholeAt.of 1 rfl | exact WholeAt.of 2 rfl | exact WholeAt.of 3 rfl | exact WholeAt.of 4 rfl | exact WholeAt.of 5 rfl) (by rfl)) ?_
  refine XO.call rfl rfl en18 (made_any n a0 c0 _ hn hC hcl) ⟨rfl, trivial⟩ ?_
  rintro u J80 hle80 hr
  replace hI := Im.le_trans hI hle80
  replace hG := hG.mono hle80
  replace hC := hC.mono hle80
  replace hK := hK.mono hle80
  replace hKn := hKn.mono hle80
  rw [← hx] at hr
  obtain ⟨ab, cb, rfl, hcp_hA, hA⟩ := hr
  refine XO.alloc (cs := #[.int .i64 0, .int .i64 0, .int .i64 0, .int .i64 0, .slice none 0 0]) rfl rfl zo37 rfl (fun b9 => ?_)
  refine XO.store_agg (vs := (x).cs ab cb) 0 rfl z37 rfl rfl (by simp [Value.oneCell']) rfl (by simp) ?_
  refine XO.nil ?_
  refine XQ.then_normal ?_
  refine XC.seq ?_
  refine XC.seq ?_
  refine XC.draw m_mixed none (.pure 0 (.pure 1 (.pure 2 (.pure 3 (.pure 4 (.pure 5 (.pure 6 (.pure 7 (.pure 11 (.eff 8 (.eff 9 (.pure 10 (.done))))))))))))) _ (by kernel_rfl) (List.Sublist.refl _) ?_
  refine XR.rd rfl rfl rfl (Reads.load_whole k37 z37 rfl (by first | exact WholeAt.of 0 rfl | exact WholeAt.of 1 rfl | exact WholeAt.of 2 rfl | exact WholeAt.of 3 rfl | exact WholeAt.of 4 rfl | exact WholeAt.of 5 rfl) (by rfl)) ?_
  refine XR.rd rfl rfl rfl (Reads.load_whole k37 z37 rfl (by first | exact WholeAt.of 0 rfl | exact WholeAt.of 1 rfl | exact WholeAt.of 2 rfl | exact WholeAt.of 3 rfl | exact WholeAt.of 4 rfl | exact WholeAt.of 5 rfl) (by rfl)) ?_
  refine XR.rd rfl rfl rfl (Reads.index_arr_own (q := 0) Tryd.underlying27 z3 rfl rfl (by decide) rfl) ?_
  refine XR.rd rfl rfl rfl (Reads.load_own k3 rfl (by first | exact OwnAt.of 0 rfl rfl | exact OwnAt.of 1 rfl rfl | exact OwnAt.of 2 rfl rfl | exact OwnAt.of 3 rfl rfl | exact OwnAt.of 4 rfl rfl | exact OwnAt.of 5 rfl rfl)) ?_
  refine XR.rd rfl rfl rfl (Reads.index_arr_own (q := 1) Tryd.underlying27 z3 rfl rfl (by decide) rfl) ?_
  refine XR.rd rfl rfl rfl (Reads.load_own k3 rfl (by first | exact OwnAt.of 0 rfl rfl | exact OwnAt.of 1 rfl rfl | exact OwnAt.of 2 rfl rfl | exact OwnAt.of 3 rfl rfl | exact OwnAt.of 4 rfl rfl | exact OwnAt.of 5 rfl rfl)) ?_
  refine XR.rd rfl rfl rfl (Reads.index_arr_own (q := 2) Tryd.underlying27 z3 rfl rfl (by decide) rfl) ?_
  refine XR.rd rfl rfl rfl (Reads.load_own k3 rfl (by first | exact OwnAt.of 0 rfl rfl | exact OwnAt.of 1 rfl rfl | exact OwnAt.of 2 rfl rfl | exact OwnAt.of 3 rfl rfl | exact OwnAt.of 4 rfl rfl | exact OwnAt.of 5 rfl rfl)) ?_
  refine XR.rd rfl rfl rfl (Reads.move rfl) ?_
  refine XR.call rfl rfl rfl en17 (bent_any x ab cb bd.a bd.b bd.c _ hA (by omega) (by omega) hbd.a hbd.b hbd.c) ⟨rfl, rfl, rfl, rfl, trivial⟩ (List.Sublist.refl _) ?_
  rintro u J81 hle81 hr
  replace hI := Im.le_trans hI hle81
  replace hG := hG.mono hle81
  replace hC := hC.mono hle81
  replace hK := hK.mono hle81
  replace hKn := hKn.mono hle81
  replace hA := hA.mono hle81
  rw [← hy] at hr
  obtain ⟨a2, c2, rfl, hcp_hB, hB⟩ := hr
  refine XR.buildL [.agg (x.cs ab cb).toArray, .agg (y.cs a2 c2).toArray] (x.cs ab cb ++ y.cs a2 c2) rfl rfl rfl Tryd.underlying60 el37 rfl (by simp) ⟨rfl, rfl, rfl, rfl, trivial⟩ rfl rfl (List.Sublist.refl _) (fun b34 => ?_)
  refine XR.rd rfl rfl rfl (Reads.len_slice Tryd.underlying60 rfl) ?_
  refine XR.nil ?_
  refine XQ.then_normal ?_
  refine XC.block ?_
  refine XC.loop (ι := Nat × Im) (fun q => [(2, .int .i64 st), (7, .slice ak allK.length ck), (8, .slice aw n.knows.length cw), (34, .slice (some ⟨b34, 0, none⟩) 2 2), (35, .int .i64 2), (36, .int .i64 q.1)]) (fun q => q.2) (fun q => some (b34, .cells (x.cs ab cb ++ y.cs a2 c2).toArray 37 (0, 0)) :: some (b9, .cells ((x).cs ab cb).toArray 37 (0, 0)) :: some (b4, .cells bd.cells.toArray 27 (0, 0)) :: some (b3, .cells (n.cs a0 c0).toArray 26 (0, 0)) :: ([] ++ Lf)) (fun q => q.1 ≤ 2 ∧ I.le q.2 ∧ Glob q.2 ∧ Arr q.2 ak allK ∧ Arr q.2 aw n.knows ∧ Arr q.2 ab x.hs ∧ Arr q.2 a2 y.hs) (fun q => 2 - q.1) (0, _) ⟨Nat.zero_le _, hI, hG, hK, hKn, hA, hB⟩ ⟨rfl, rfl, rfl, rfl, rfl, rfl, trivial⟩ rfl (List.Perm.refl _) (fun q hq => ?_)
  obtain ⟨i, M⟩ := q
  obtain ⟨hi1, hI, hG, hK, hKn, hA, hB⟩ := hq
  simp only at hi1 hI hG hK hKn hA hB ⊢
  refine XC.seq ?_
  refine XC.region ?_
  refine XO.rd rfl rfl rfl (Reads.cmp rfl rfl rfl) ?_
  refine XO.nil ?_
  refine XQ.then_normal ?_
  refine XC.seq ?_
  refine XC.cond rfl (fun h1 => ?_) (fun h1 => ?_)
  · skip
    simp only [cmpInt, decide_eq_true_eq] at h1
    have hi3 : i < 2 := by omega
    obtain ⟨z, az, cz, hz, hZ, hzl, hcp_hZ, hzc⟩ := two_atts (c := cb) (e := c2) hA hB hi3 (m := 7) (by omega) (by omega) hcp_hA hcp_hB
    refine XC.skip ?_
    refine XQ.then_normal ?_
    refine XC.seq ?_
    refine XC.block ?_
    refine XC.seq ?_
    refine XC.region ?_
    refine XO.rd rfl rfl rfl (Reads.index_own (q := i * 5) Tryd.underlying60 z37 rfl rfl (by omega) (by omega)) ?_
    refine XO.rd rfl rfl rfl (Reads.load_agg_own (vs := z.cs az cz) k37 z37 rfl (fun j v hj => OwnAt.of 0 rfl (hzc j v hj))) ?_
    refine XO.alloc (cs := #[.int .i64 0, .int .i64 0, .int .i64 0, .int .i64 0, .slice none 0 0]) rfl rfl zo37 rfl (fun b11 => ?_)
    refine XO.store_agg (vs := (z).cs az cz) 0 rfl z37 rfl rfl (by simp [Value.oneCell']) rfl (by simp) ?_
    refine XO.nil ?_
    refine XQ.then_normal ?_
    refine XC.seq ?_
    refine XC.region ?_
    refine XO.rd rfl rfl rfl (Reads.move rfl) ?_
    refine XO.rd rfl rfl rfl (Reads.move rfl) ?_
    refine XO.rd rfl rfl rfl (Reads.load_whole k37 z37 rfl (by first | exact WholeAt.of 0 rfl | exact WholeAt.of 1 rfl | exact WholeAt.of 2 rfl | exact WholeAt.of 3 rfl | exact WholeAt.of 4 rfl | exact WholeAt.of 5 rfl) (by rfl)) ?_
    refine XO.callp rfl rfl en24 (blame_any z az ak aw cz ck cw allK n.knows _ hZ (by omega) hK (by rw [allK_len]; decide) hKn (by rw [n.knows_len]; decide) hG) ⟨rfl, rfl, rfl, trivial⟩ ?_
    refine XO.rd rfl rfl rfl (Reads.move rfl) ?_
    refine XO.rd rfl rfl rfl (Reads.extract rfl rfl) ?_
    refine XO.rd rfl rfl rfl (Reads.extract rfl rfl) ?_
    refine XO.rd rfl rfl rfl (Reads.assign rfl) ?_
    refine XO.rd rfl rfl rfl (Reads.assign rfl) ?_
    refine XO.nil ?_
    refine XQ.then_normal ?_
    refine XC.seq ?_
    refine XC.seq ?_
    refine XC.region ?_
    refine XO.rd rfl rfl rfl (Reads.move rfl) ?_
    refine XO.rd rfl rfl rfl (Reads.cmp rfl rfl rfl) ?_
    refine XO.rd rfl rfl rfl (Reads.move rfl) ?_
    refine XO.split (d := 49) rfl (fun h2 => ?_) (fun h2 => ?_)
    · skip
      skip
      refine XO.s (wg rfl rfl rfl) rfl ?_
      refine XO.s (wg rfl rfl rfl) rfl ?_
      refine XO.rd rfl rfl rfl (Reads.pick_true rfl rfl) ?_
      refine XO.nil ?_
      refine XQ.then_normal ?_
      refine XC.cond rfl (fun _ => ?_) (fun hx => by cases hx)
      refine XC.seq ?_
      refine XC.seq ?_
      refine XC.weaken (E' := [(2, _), (7, _), (8, _), (11, _), (13, _), (34, _), (35, _), (36, _)]) ⟨rfl, rfl, rfl, rfl, rfl, rfl, rfl, rfl, trivial⟩ ?_
      refine XC.region ?_
      refine XO.rd rfl rfl rfl (Reads.load_whole k37 z37 rfl (by first | exact WholeAt.of 0 rfl | exact WholeAt.of 1 rfl | exact WholeAt.of 2 rfl | exact WholeAt.of 3 rfl | exact WholeAt.of 4 rfl | exact WholeAt.of 5 rfl) (by rfl)) ?_
      refine XO.callp rfl rfl en20 (formed_any z az cz _ hZ (by omega)) ⟨rfl, trivial⟩ ?_
      refine XO.rd rfl rfl rfl (Reads.not rfl) ?_
      refine XO.rd rfl rfl rfl (Reads.move rfl) ?_
      refine XO.split (d := 56) rfl (fun h3 => ?_) (fun h3 => ?_)
      · skip
        have hzn : z.formed = false := by simpa using h3
        refine XO.rd (wg rfl rfl rfl) rfl rfl (Reads.move rfl) ?_
        refine XO.rd (wg rfl rfl rfl) rfl rfl (Reads.cmp_no rfl rfl rfl (by rw [blame_err hzn]; rfl)) ?_
        refine XO.rd rfl rfl rfl (Reads.pick_true rfl rfl) ?_
        refine XO.nil ?_
        refine XQ.then_normal ?_
        refine XC.cond rfl (fun hx => by cases hx) (fun _ => ?_)
        refine XC.skip ?_
        refine XQ.then_normal ?_
        refine XC.exit ?_
        refine XQ.then_exit ?_
        refine XQ.block_exit ?_
        refine XQ.then_normal ?_
        refine XC.region ?_
        refine XO.rd rfl rfl rfl (Reads.add rfl rfl (by omega)) ?_
        refine XO.rd rfl rfl rfl (Reads.move rfl) ?_
        refine XO.nil ?_
        refine XQ.dropn 1 ?_
        refine XQ.back (i + 1, _) ⟨by simp only; omega, hI, hG, hK, hKn, hA, hB⟩ (by simp only; omega) ⟨rfl, rfl, rfl, rfl, rfl, rfl, trivial⟩ rfl (List.Perm.refl _)
      · skip
        refine XO.s (wg rfl rfl rfl) rfl ?_
        refine XO.s (wg rfl rfl rfl) rfl ?_
        refine XO.rd rfl rfl rfl (Reads.pick_false rfl rfl) ?_
        refine XO.nil ?_
        refine XQ.then_normal ?_
        refine XC.cond rfl (fun hx => by cases hx) (fun _ => ?_)
        refine XC.skip ?_
        refine XQ.then_normal ?_
        refine XC.exit ?_
        refine XQ.then_exit ?_
        refine XQ.block_exit ?_
        refine XQ.then_normal ?_
        refine XC.region ?_
        refine XO.rd rfl rfl rfl (Reads.add rfl rfl (by omega)) ?_
        refine XO.rd rfl rfl rfl (Reads.move rfl) ?_
        refine XO.nil ?_
        refine XQ.dropn 1 ?_
        refine XQ.back (i + 1, _) ⟨by simp only; omega, hI, hG, hK, hKn, hA, hB⟩ (by simp only; omega) ⟨rfl, rfl, rfl, rfl, rfl, rfl, trivial⟩ rfl (List.Perm.refl _)
    · skip
      simp only [cmpInt, bne_eq_false_iff_eq] at h2
      have hb2 : (blame allK n.knows z).2 = 0 := h2
      refine XO.rd (wg rfl rfl rfl) rfl rfl (Reads.move rfl) ?_
      refine XO.rd (wg rfl rfl rfl) rfl rfl (Reads.cmp rfl rfl rfl) ?_
      refine XO.rd rfl rfl rfl (Reads.pick_false rfl rfl) ?_
      refine XO.nil ?_
      refine XQ.then_normal ?_
      refine XC.cond rfl (fun h4 => ?_) (fun h4 => ?_)
      · skip
        skip
        refine XC.seq ?_
        refine XC.seq ?_
        refine XC.weaken (E' := [(2, _), (7, _), (8, _), (11, _), (13, _), (34, _), (35, _), (36, _)]) ⟨rfl, rfl, rfl, rfl, rfl, rfl, rfl, rfl, trivial⟩ ?_
        refine XC.region ?_
        refine XO.rd rfl rfl rfl (Reads.load_whole k37 z37 rfl (by first | exact WholeAt.of 0 rfl | exact WholeAt.of 1 rfl | exact WholeAt.of 2 rfl | exact WholeAt.of 3 rfl | exact WholeAt.of 4 rfl | exact WholeAt.of 5 rfl) (by rfl)) ?_
        refine XO.callp rfl rfl en20 (formed_any z az cz _ hZ (by omega)) ⟨rfl, trivial⟩ ?_
        refine XO.rd rfl rfl rfl (Reads.not rfl) ?_
        refine XO.rd rfl rfl rfl (Reads.move rfl) ?_
        refine XO.split (d := 56) rfl (fun h5 => ?_) (fun h5 => ?_)
        · skip
          have hzn : z.formed = false := by simpa using h5
          refine XO.rd (wg rfl rfl rfl) rfl rfl (Reads.move rfl) ?_
          refine XO.rd (wg rfl rfl rfl) rfl rfl (Reads.cmp_no rfl rfl rfl (by rw [blame_err hzn]; rfl)) ?_
          refine XO.rd rfl rfl rfl (Reads.pick_true rfl rfl) ?_
          refine XO.nil ?_
          refine XQ.then_normal ?_
          refine XC.cond rfl (fun hx => by cases hx) (fun _ => ?_)
          refine XC.skip ?_
          refine XQ.then_normal ?_
          refine XC.exit ?_
          refine XQ.then_exit ?_
          refine XQ.block_exit ?_
          refine XQ.then_normal ?_
          refine XC.region ?_
          refine XO.rd rfl rfl rfl (Reads.add rfl rfl (by omega)) ?_
          refine XO.rd rfl rfl rfl (Reads.move rfl) ?_
          refine XO.nil ?_
          refine XQ.dropn 1 ?_
          refine XQ.back (i + 1, _) ⟨by simp only; omega, hI, hG, hK, hKn, hA, hB⟩ (by simp only; omega) ⟨rfl, rfl, rfl, rfl, rfl, rfl, trivial⟩ rfl (List.Perm.refl _)
        · skip
          refine XO.s (wg rfl rfl rfl) rfl ?_
          refine XO.s (wg rfl rfl rfl) rfl ?_
          refine XO.rd rfl rfl rfl (Reads.pick_false rfl rfl) ?_
          refine XO.nil ?_
          refine XQ.then_normal ?_
          refine XC.cond rfl (fun hx => by cases hx) (fun _ => ?_)
          refine XC.skip ?_
          refine XQ.then_normal ?_
          refine XC.exit ?_
          refine XQ.then_exit ?_
          refine XQ.block_exit ?_
          refine XQ.then_normal ?_
          refine XC.region ?_
          refine XO.rd rfl rfl rfl (Reads.add rfl rfl (by omega)) ?_
          refine XO.rd rfl rfl rfl (Reads.move rfl) ?_
          refine XO.nil ?_
          refine XQ.dropn 1 ?_
          refine XQ.back (i + 1, _) ⟨by simp only; omega, hI, hG, hK, hKn, hA, hB⟩ (by simp only; omega) ⟨rfl, rfl, rfl, rfl, rfl, rfl, trivial⟩ rfl (List.Perm.refl _)
      · skip
        simp only [cmpInt, bne_eq_false_iff_eq] at h4
        have hb1 : (blame allK n.knows z).1 = -1 := h4
        obtain ⟨hzf, hzb⟩ := blame_ok (pair_eq hb1 hb2)
        have hzl1 := formed_len hzf
        have hca := check_at hzf (ok_known s1)
        have hcb : -1 ≤ (check (known allK s1) z).2.1 ∧ (check (known allK s1) z).2.1 < z.hs.length ∧ ((check (known allK s1) z).2.1 < 0 → (check (known allK s1) z).1 = 0) := by rcases hca.2 with ⟨g1, g2⟩ | ⟨k, g1, g2, g3⟩; exact ⟨by omega, by omega, fun _ => g2⟩; exact ⟨by omega, by omega, fun _ => by omega⟩
        have hcz := hcb.2.2
        refine XC.skip ?_
        refine XQ.then_normal ?_
        refine XC.seq ?_
        refine XC.weaken (E' := [(2, _), (7, _), (8, _), (11, _), (34, _), (35, _), (36, _)]) ⟨rfl, rfl, rfl, rfl, rfl, rfl, rfl, trivial⟩ ?_
        refine XC.draw m_mixed none (.pure 0 (.pure 1 (.pure 4 (.eff 2 (.eff 3 (.eff 5 (.pure 6 (.pure 7 (.pure 8 (.pure 9 (.pure 10 (.pure 11 (.pure 12 (.done)))))))))))))) _ (by kernel_rfl) (List.Sublist.refl _) ?_
        refine XR.rd rfl rfl rfl (Reads.move rfl) ?_
        refine XR.rd rfl rfl rfl (Reads.move rfl) ?_
        refine XR.rd rfl rfl rfl (Reads.load_whole k37 z37 rfl (by first | exact WholeAt.of 0 rfl | exact WholeAt.of 1 rfl | exact WholeAt.of 2 rfl | exact WholeAt.of 3 rfl | exact WholeAt.of 4 rfl | exact WholeAt.of 5 rfl) (by rfl)) ?_
        refine XR.callp rfl rfl rfl en16 (pickL_any st 256 _ hst (by decide)) ⟨rfl, rfl, trivial⟩ (List.Sublist.refl _) ?_
        rw [hs1]
        refine XR.call rfl rfl rfl en14 (known_any ak ck allK s1 _ hK (by rw [allK_len]; decide)) ⟨rfl, rfl, trivial⟩ (List.Sublist.refl _) ?_
        rintro u J82 hle82 hr
        replace hI := Im.le_trans hI hle82
        replace hG := hG.mono hle82
        replace hK := hK.mono hle82
        replace hKn := hKn.mono hle82
        replace hA := hA.mono hle82
        replace hB := hB.mono hle82
        replace hZ := hZ.mono hle82
        obtain ⟨ak1, ck1, rfl, hc_hK1, hK1⟩ := hr.ex
        refine XR.callp rfl rfl rfl en19 (check_any z az ak1 cz ck1 (known allK s1) _ hZ (by omega) hK1 (by rw [known_len, allK_len]; decide) hG) ⟨rfl, rfl, trivial⟩ (List.Sublist.refl _) ?_
        refine XR.rd rfl rfl rfl (Reads.move rfl) ?_
        refine XR.rd rfl rfl rfl (Reads.extract rfl rfl) ?_
        refine XR.rd rfl rfl rfl (Reads.extract rfl rfl) ?_
        refine XR.rd rfl rfl rfl (Reads.extract rfl rfl) ?_
        refine XR.rd rfl rfl rfl (Reads.assign rfl) ?_
        refine XR.rd rfl rfl rfl (Reads.assign rfl) ?_
        refine XR.rd rfl rfl rfl (Reads.assign rfl) ?_
        refine XR.nil ?_
        refine XQ.then_normal ?_
        refine XC.seq ?_
        refine XC.seq ?_
        refine XC.join (ι := Unit) (fun q => [(2, .int .i64 st), (7, .slice ak allK.length ck), (8, .slice aw n.knows.length cw), (11, .pointer (some ⟨b11, 0, none⟩)), (14, .int .i64 (check (known allK s1) z).1), (15, .int .i64 (check (known allK s1) z).2.1), (34, .slice (some ⟨b34, 0, none⟩) 2 2), (35, .int .i64 2), (36, .int .i64 i), (99, .bool false)]) (fun q => J82) (fun q => some (b11, .cells ((z).cs az cz).toArray 37 (0, 0)) :: some (b34, .cells (x.cs ab cb ++ y.cs a2 c2).toArray 37 (0, 0)) :: some (b9, .cells ((x).cs ab cb).toArray 37 (0, 0)) :: some (b4, .cells bd.cells.toArray 27 (0, 0)) :: some (b3, .cells (n.cs a0 c0).toArray 26 (0, 0)) :: ([] ++ Lf)) (fun q => True) ?_ (fun q hq => ?_)
        · skip
          refine XC.region ?_
          refine XO.rd rfl rfl rfl (Reads.move rfl) ?_
          refine XO.rd rfl rfl rfl (Reads.cmp_no rfl rfl rfl (by rw [hca.1]; rfl)) ?_
          refine XO.rd rfl rfl rfl (Reads.move rfl) ?_
          refine XO.rd (wg rfl rfl rfl) rfl rfl (Reads.move rfl) ?_
          refine XO.rd (wg rfl rfl rfl) rfl rfl (fa37_1 rfl) ?_
          refine XO.rd (wg rfl rfl rfl) rfl rfl (Reads.load_own k35 rfl (by first | exact OwnAt.of 0 rfl rfl | exact OwnAt.of 1 rfl rfl | exact OwnAt.of 2 rfl rfl | exact OwnAt.of 3 rfl rfl | exact OwnAt.of 4 rfl rfl | exact OwnAt.of 5 rfl rfl)) ?_
          refine XO.rd (wg rfl rfl rfl) rfl rfl (Reads.index_slot (q := (0) * 3) Tryd.underlying35 z53 rfl rfl (by omega) (hZ.isSome (by decide) (by omega)) (by omega)) ?_
          refine XO.rd (wg rfl rfl rfl) rfl rfl (fs53_1 rfl (hZ.addr (by decide) (by omega))) ?_
          refine XO.rd (wg rfl rfl rfl) rfl rfl (Reads.load_at (v := .int .i64 (z.h (0)).l) k3 rfl (by rw [z.h_get (show (0) < z.hs.length by omega)]; exact hZ.hand (show (0) < z.hs.length by omega) 1 _ rfl)) ?_
          refine XO.rd (wg rfl rfl rfl) rfl rfl (Reads.cmp_no rfl rfl rfl (decide_eq_false (by have := check_le hzf (ok_known s1); omega))) ?_
          refine XO.rd rfl rfl rfl (Reads.pick_false rfl rfl) ?_
          refine XO.rd rfl rfl rfl (Reads.move rfl) ?_
          refine XO.rd (wg rfl rfl rfl) rfl rfl (Reads.move rfl) ?_
          refine XO.rd (wg rfl rfl rfl) rfl rfl (Reads.cmp_no rfl rfl rfl (decide_eq_false (by omega))) ?_
          refine XO.rd rfl rfl rfl (Reads.pick_false rfl rfl) ?_
          refine XO.rd rfl rfl rfl (Reads.move rfl) ?_
          refine XO.rd (wg rfl rfl rfl) rfl rfl (Reads.move rfl) ?_
          refine XO.rd (wg rfl rfl rfl) rfl rfl (fa37_1 rfl) ?_
          refine XO.rd (wg rfl rfl rfl) rfl rfl (Reads.load_own k35 rfl (by first | exact OwnAt.of 0 rfl rfl | exact OwnAt.of 1 rfl rfl | exact OwnAt.of 2 rfl rfl | exact OwnAt.of 3 rfl rfl | exact OwnAt.of 4 rfl rfl | exact OwnAt.of 5 rfl rfl)) ?_
          refine XO.rd (wg rfl rfl rfl) rfl rfl (Reads.len_slice Tryd.underlying35 rfl) ?_
          refine XO.rd (wg rfl rfl rfl) rfl rfl (Reads.cmp_no rfl rfl rfl (decide_eq_false (by omega))) ?_
          refine XO.rd rfl rfl rfl (Reads.pick_false rfl rfl) ?_
          refine XO.rd rfl rfl rfl (Reads.move rfl) ?_
          refine XO.rd (wg rfl rfl rfl) rfl rfl (Reads.move rfl) ?_
          refine XO.rd (wg rfl rfl rfl) rfl rfl (Reads.cmp rfl rfl rfl) ?_
          refine XO.rd (wg rfl rfl rfl) rfl rfl (Reads.move rfl) ?_
          refine XO.split (d := 95) rfl (fun h6 => ?_) (fun h6 => ?_)
          · skip
            have hneg := of_decide_eq_true h6
            refine XO.rd (wg rfl rfl rfl) rfl rfl (Reads.move rfl) ?_
            refine XO.rd (wg rfl rfl rfl) rfl rfl (Reads.cmp_no rfl rfl rfl (by rw [hcz hneg]; rfl)) ?_
            refine XO.rd (wg rfl rfl rfl) rfl rfl (Reads.pick_true rfl rfl) ?_
            refine XO.rd rfl rfl rfl (Reads.pick_false rfl rfl) ?_
            refine XO.nil ?_
            refine XQ.joined () trivial ⟨rfl, rfl, rfl, rfl, rfl, rfl, rfl, rfl, rfl, rfl, trivial⟩ rfl (List.Perm.refl _)
          · skip
            refine XO.s (wg rfl rfl rfl) rfl ?_
            refine XO.s (wg rfl rfl rfl) rfl ?_
            refine XO.rd (wg rfl rfl rfl) rfl rfl (Reads.pick_false rfl rfl) ?_
            refine XO.rd rfl rfl rfl (Reads.pick_false rfl rfl) ?_
            refine XO.nil ?_
            refine XQ.joined () trivial ⟨rfl, rfl, rfl, rfl, rfl, rfl, rfl, rfl, rfl, rfl, trivial⟩ rfl (List.Perm.refl _)
        · skip
          refine XQ.then_normal ?_
          refine XC.cond rfl (fun hx => by cases hx) (fun _ => ?_)
          refine XC.skip ?_
          refine XQ.then_normal ?_
          refine XC.seq ?_
          refine XC.region ?_
          refine XO.rd rfl rfl rfl (Reads.assign rfl) ?_
          refine XO.nil ?_
          refine XQ.then_normal ?_
          refine XC.block ?_
          refine XC.loop (ι := Nat) (fun q => [(2, .int .i64 st), (7, .slice ak allK.length ck), (8, .slice aw n.knows.length cw), (11, .pointer (some ⟨b11, 0, none⟩)), (14, .int .i64 (check (known allK s1) z).1), (15, .int .i64 (check (known allK s1) z).2.1), (17, .int .i64 q), (34, .slice (some ⟨b34, 0, none⟩) 2 2), (35, .int .i64 2), (36, .int .i64 i)]) (fun q => J82) (fun q => some (b11, .cells ((z).cs az cz).toArray 37 (0, 0)) :: some (b34, .cells (x.cs ab cb ++ y.cs a2 c2).toArray 37 (0, 0)) :: some (b9, .cells ((x).cs ab cb).toArray 37 (0, 0)) :: some (b4, .cells bd.cells.toArray 27 (0, 0)) :: some (b3, .cells (n.cs a0 c0).toArray 26 (0, 0)) :: ([] ++ Lf)) (fun q => 1 ≤ q ∧ q ≤ z.hs.length) (fun q => z.hs.length - q) 1 ⟨by omega, by omega⟩ ⟨rfl, rfl, rfl, rfl, rfl, rfl, rfl, rfl, rfl, rfl, trivial⟩ rfl (List.Perm.refl _) (fun j hj => ?_)
          obtain ⟨hj1, hj2⟩ := hj
          refine XC.seq ?_
          refine XC.seq ?_
          refine XC.region ?_
          refine XO.rd rfl rfl rfl (Reads.move rfl) ?_
          refine XO.rd rfl rfl rfl (Reads.move rfl) ?_
          refine XO.rd rfl rfl rfl (Reads.cmp rfl rfl rfl) ?_
          refine XO.nil ?_
          refine XQ.then_normal ?_
          refine XC.cond rfl (fun h7 => ?_) (fun h7 => ?_)
          · skip
            simp only [cmpInt, decide_eq_true_eq] at h7
            obtain ⟨k, hk1, hk2, hk3⟩ := hca.2.resolve_left (by omega)
            have hj3 : j < z.hs.length := by omega
            have hcj := formed_c hzf hj3
            have hcj1 := formed_c hzf (i := j - 1) (by omega)
            refine XC.skip ?_
            refine XQ.then_normal ?_
            refine XC.seq ?_
            refine XC.block ?_
            refine XC.seq ?_
            refine XC.draw m_mixed none (.pure 0 (.pure 1 (.pure 2 (.pure 3 (.pure 4 (.pure 5 (.pure 6 (.pure 7 (.pure 8 (.pure 9 (.pure 10 (.pure 11 (.pure 12 (.pure 13 (.pure 14 (.pure 15 (.pure 16 (.pure 17 (.pure 18 (.pure 19 (.pure 20 (.pure 21 (.pure 22 (.done)))))))))))))))))))))))) _ (by kernel_rfl) (List.Sublist.refl _) ?_
            refine XR.rd rfl rfl rfl (Reads.move rfl) ?_
            refine XR.rd rfl rfl rfl (Reads.cmp rfl rfl rfl) ?_
            refine XR.rd rfl rfl rfl (Reads.move rfl) ?_
            refine XR.split (d := 107) rfl (fun h8 => ?_) (fun h8 => ?_)
            · skip
              have hlv := of_decide_eq_true h8
              have hcan := checked hzf hzb (i := j) (k := k) (by omega) (by omega) hk2 (by omega)
              refine XR.rd rfl (wg rfl rfl rfl) rfl (Reads.move rfl) ?_
              refine XR.rd rfl (wg rfl rfl rfl) rfl (fa37_1 rfl) ?_
              refine XR.rd rfl (wg rfl rfl rfl) rfl (Reads.load_own k35 rfl (by first | exact OwnAt.of 0 rfl rfl | exact OwnAt.of 1 rfl rfl | exact OwnAt.of 2 rfl rfl | exact OwnAt.of 3 rfl rfl | exact OwnAt.of 4 rfl rfl | exact OwnAt.of 5 rfl rfl)) ?_
              refine XR.rd rfl (wg rfl rfl rfl) rfl (Reads.move rfl) ?_
              refine XR.rd rfl (wg rfl rfl rfl) rfl (Reads.index_slot (q := (j) * 3) Tryd.underlying35 z53 rfl rfl (by omega) (hZ.isSome (by decide) (by omega)) (by omega)) ?_
              refine XR.rd rfl (wg rfl rfl rfl) rfl (fs53_0 rfl (hZ.addr (by decide) (by omega))) ?_
              refine XR.rd rfl (wg rfl rfl rfl) rfl (Reads.load_at (v := .int .i64 (z.h (j)).c) k3 rfl (by rw [z.h_get (show (j) < z.hs.length by omega)]; exact hZ.hand (show (j) < z.hs.length by omega) 0 _ rfl)) ?_
              refine XR.rd rfl (wg rfl rfl rfl) rfl (Reads.index_slot (q := (z.h j).c.toNat) Tryd.underlying23 z3 rfl rfl (by rw [n.knows_len]; omega) (hKn.isSome (by decide) (by rw [n.knows_len]; omega)) (by omega)) ?_
              refine XR.rd rfl (wg rfl rfl rfl) rfl (Reads.load_at (v := .int .i64 (n.set ((z.h j)).c : Int)) k3 rfl (by rw [num_set n (formed_c hzf (by omega))]; have h9 := hKn.int (j := ((z.h j)).c.toNat) (by rw [n.knows_len]; have := formed_c hzf (i := j) (by omega); omega); rw [Nat.mul_one] at h9; exact h9)) ?_
              refine XR.rd rfl (wg rfl rfl rfl) rfl (fa37_1 rfl) ?_
              refine XR.rd rfl (wg rfl rfl rfl) rfl (Reads.load_own k35 rfl (by first | exact OwnAt.of 0 rfl rfl | exact OwnAt.of 1 rfl rfl | exact OwnAt.of 2 rfl rfl | exact OwnAt.of 3 rfl rfl | exact OwnAt.of 4 rfl rfl | exact OwnAt.of 5 rfl rfl)) ?_
              refine XR.rd rfl (wg rfl rfl rfl) rfl (Reads.move rfl) ?_
              refine XR.rd rfl (wg rfl rfl rfl) rfl (Reads.sub rfl rfl (by omega)) ?_
              rw [show (j : Int) - 1 = ((j - 1 : Nat) : Int) by omega]
              refine XR.rd rfl (wg rfl rfl rfl) rfl (Reads.index_slot (q := (j - 1) * 3) Tryd.underlying35 z53 rfl rfl (by omega) (hZ.isSome (by decide) (by omega)) (by omega)) ?_
              refine XR.rd rfl (wg rfl rfl rfl) rfl (fs53_0 rfl (hZ.addr (by decide) (by omega))) ?_
              refine XR.rd rfl (wg rfl rfl rfl) rfl (Reads.load_at (v := .int .i64 (((z.h (j - 1)).c.toNat : Nat) : Int)) k3 rfl (by rw [show (((z.h (j - 1)).c.toNat : Nat) : Int) = (z.h (j - 1)).c by omega, z.h_get (show (j - 1) < z.hs.length by omega)]; exact hZ.hand (show (j - 1) < z.hs.length by omega) 0 _ rfl)) ?_
              refine XR.rd rfl (wg rfl rfl rfl) rfl (Reads.shrn (m := n.set (z.h j).c) (s := (z.h (j - 1)).c.toNat) rfl rfl (by show _ ≤ 64; omega)) ?_
              refine XR.rd rfl (wg rfl rfl rfl) rfl (Reads.rem rfl rfl (Int.natCast_nonneg _) (by decide)) ?_
              refine XR.rd rfl (wg rfl rfl rfl) rfl (Reads.cmp_no rfl rfl rfl (by rw [cmp_bit0]; exact decide_eq_false (by rw [can_set, decide_eq_true_eq] at hcan; omega))) ?_
              refine XR.rd rfl rfl rfl (Reads.pick_true rfl rfl) ?_
              refine XR.nil ?_
              refine XQ.then_normal ?_
              refine XC.cond rfl (fun hx => by cases hx) (fun _ => ?_)
              refine XC.skip ?_
              refine XQ.block_normal ?_
              refine XQ.then_normal ?_
              refine XC.region ?_
              refine XO.rd rfl rfl rfl (Reads.move rfl) ?_
              refine XO.rd rfl rfl rfl (Reads.add rfl rfl (by omega)) ?_
              refine XO.rd rfl rfl rfl (Reads.assign rfl) ?_
              refine XO.nil ?_
              refine XQ.back (j + 1) ⟨by omega, by omega⟩ (by omega) ⟨rfl, rfl, rfl, rfl, rfl, rfl, rfl, rfl, rfl, rfl, trivial⟩ rfl (List.Perm.refl _)
            · skip
              refine XR.s rfl (wg rfl rfl rfl) rfl ?_
              refine XR.s rfl (wg rfl rfl rfl) rfl ?_
              refine XR.s rfl (wg rfl rfl rfl) rfl ?_
              refine XR.s rfl (wg rfl rfl rfl) rfl ?_
              refine XR.s rfl (wg rfl rfl rfl) rfl ?_
              refine XR.s rfl (wg rfl rfl rfl) rfl ?_
              refine XR.s rfl (wg rfl rfl rfl) rfl ?_
              refine XR.s rfl (wg rfl rfl rfl) rfl ?_
              refine XR.s rfl (wg rfl rfl rfl) rfl ?_
              refine XR.s rfl (wg rfl rfl rfl) rfl ?_
              refine XR.s rfl (wg rfl rfl rfl) rfl ?_
              refine XR.s rfl (wg rfl rfl rfl) rfl ?_
              refine XR.s rfl (wg rfl rfl rfl) rfl ?_
              refine XR.s rfl (wg rfl rfl rfl) rfl ?_
              refine XR.s rfl (wg rfl rfl rfl) rfl ?_
              refine XR.s rfl (wg rfl rfl rfl) rfl ?_
              refine XR.s rfl (wg rfl rfl rfl) rfl ?_
              refine XR.s rfl (wg rfl rfl rfl) rfl ?_
              refine XR.s rfl (wg rfl rfl rfl) rfl ?_
              refine XR.rd rfl rfl rfl (Reads.pick_false rfl rfl) ?_
              refine XR.nil ?_
              refine XQ.then_normal ?_
              refine XC.cond rfl (fun hx => by cases hx) (fun _ => ?_)
              refine XC.skip ?_
              refine XQ.block_normal ?_
              refine XQ.then_normal ?_
              refine XC.region ?_
              refine XO.rd rfl rfl rfl (Reads.move rfl) ?_
              refine XO.rd rfl rfl rfl (Reads.add rfl rfl (by omega)) ?_
              refine XO.rd rfl rfl rfl (Reads.assign rfl) ?_
              refine XO.nil ?_
              refine XQ.back (j + 1) ⟨by omega, by omega⟩ (by omega) ⟨rfl, rfl, rfl, rfl, rfl, rfl, rfl, rfl, rfl, rfl, trivial⟩ rfl (List.Perm.refl _)
          · skip
            simp only [cmpInt, decide_eq_false_iff_not] at h7
            refine XC.exit ?_
            refine XQ.then_exit ?_
            refine XQ.then_exit ?_
            refine XQ.block_exit ?_
            refine XQ.block_normal ?_
            refine XQ.then_normal ?_
            refine XC.region ?_
            refine XO.rd rfl rfl rfl (Reads.add rfl rfl (by omega)) ?_
            refine XO.rd rfl rfl rfl (Reads.move rfl) ?_
            refine XO.nil ?_
            refine XQ.dropn 1 ?_
            refine XQ.back (i + 1, _) ⟨by simp only; omega, hI, hG, hK, hKn, hA, hB⟩ (by simp only; omega) ⟨rfl, rfl, rfl, rfl, rfl, rfl, trivial⟩ rfl (List.Perm.refl _)
  · skip
    simp only [cmpInt, decide_eq_false_iff_not] at h1
    refine XC.exit ?_
    refine XQ.then_exit ?_
    refine XQ.then_exit ?_
    refine XQ.block_exit ?_
    refine XQ.then_normal ?_
    refine XC.seq ?_
    refine XC.region ?_
    refine XO.rd rfl rfl rfl (Reads.assign rfl) ?_
    refine XO.nil ?_
    refine XQ.then_normal ?_
    refine XC.ret ?_
    refine XQ.dropn 4 ?_
    refine XQ.done1 (L := []) rfl rfl hI ?_
    exact ⟨rfl, rfl⟩

end Go.Proofs.YtmlliafhpbfdbaaDoor
