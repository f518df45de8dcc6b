/- Walk: AttestBinds. -/
import Derived.Test.YtmlliafhpbfdbaaDoorMJ
import Derived.Test.YtmlliafhpbfdbaaDoorMI
import Derived.Test.YtmlliafhpbfdbaaDoorML
import Derived.Test.YtmlliafhpbfdbaaDoorD25
import Derived.Test.YtmlliafhpbfdbaaDoorK9
namespace Go.Proofs.YtmlliafhpbfdbaaDoor
open Go.Xe Go.Sh Go Go.At

set_option maxHeartbeats 3200000 in
theorem attestBinds_any (n : Num) (a0 : Option Addr) (c0 : Nat) (n2 : Num) (a1 : Option Addr) (c1 : Nat) (bd : Q3) (ii kk : Int) (I : Im) (hn : n.In) (hC : Arr I a0 n.cars) (hcl : n.cars.length ≤ 9223372036854775807) (hG : Glob I) (hn2 : n2.In) (hC2 : Arr I a1 n2.cars) (hcl2 : n2.cars.length ≤ 9223372036854775807) (hbd : bd.In) (hii : In64 ii) (hkk : In64 kk) : FC Tryd.prog 11 [.agg (n.cs a0 c0).toArray, .agg (n2.cs a1 c1).toArray, .agg bd.cells.toArray, .int .i64 ii, .int .i64 kk] I (fun u _I' => u = .bool true) := by
  have hI := Im.le_refl I
  obtain ⟨x, hx⟩ : ∃ x : Att, x = n.made := ⟨_, rfl⟩
  have hch := n.made_chain
  have hml := n.made_len
  rw [← hx] at hch hml
  have hf := hch.f
  have hsz := formed_sz hf
  obtain ⟨y1, hy1⟩ : ∃ y : Att, y = n2.made := ⟨_, rfl⟩
  have hml1 := n2.made_len
  rw [← hy1] at hml1
  obtain ⟨y2, hy2⟩ : ∃ y : Att, y = bent x bd.a bd.b bd.c := ⟨_, rfl⟩
  have hyl := bent_len x bd.a bd.b bd.c
  rw [← hy2] at hyl
  obtain ⟨m, hm, hm9⟩ := pick_nat ii (n := (x.hs.length : Int)) (by omega)
  have hm3 : m < x.hs.length := by omega
  have hsI := shownI_all hch hm3
  have hshx := hch.shown_all hm3
  refine FSo.intro (n := 157) Tryd.func11 rfl rfl rfl (fun K Lf => ?_)
  refine XC.seq ?_
  refine XC.region ?_
  refine XO.box_agg rfl rfl rfl (fun b5 => ?_)
  refine XO.box_agg rfl rfl rfl (fun b6 => ?_)
  refine XO.box_agg rfl rfl rfl (fun b7 => ?_)
  refine XO.rd rfl rfl rfl (Reads.assign rfl) ?_
  refine XO.nil ?_
  refine XQ.then_normal ?_
  refine XC.seq ?_
  refine XC.seq ?_
  refine XC.region ?_
  refine XO.callp rfl rfl en13 (FC.pure (sane_any _ hG)) trivial ?_
  refine XO.rd rfl rfl rfl (Reads.not rfl) ?_
  refine XO.nil ?_
  refine XQ.then_normal ?_
  refine XC.cond rfl (fun hx => by cases hx) (fun _ => ?_)
  refine XC.skip ?_
  refine XQ.then_normal ?_
  refine XC.seq ?_
  refine XC.region ?_
  refine XO.call rfl rfl en15 (all_any _) trivial ?_
  rintro u J83 hle83 hr
  replace hI := Im.le_trans hI hle83
  replace hG := hG.mono hle83
  replace hC := hC.mono hle83
  replace hC2 := hC2.mono hle83
  obtain ⟨ak, ck, rfl, hc_hK, hK⟩ := hr.ex
  refine XO.rd rfl rfl rfl (Reads.assign rfl) ?_
  refine XO.nil ?_
  refine XQ.then_normal ?_
  refine XC.seq ?_
  refine XC.region ?_
  refine XO.rd rfl rfl rfl (Reads.load_whole k26 z26 rfl (by first | exact WholeAt.of 0 rfl | exact WholeAt.of 1 rfl | exact WholeAt.of 2 rfl | exact WholeAt.of 3 rfl | exact WholeAt.of 4 rfl | exact WholeAt.of 5 rfl | exact WholeAt.of 6 rfl) (by rfl)) ?_
  refine XO.call rfl rfl en18 (made_any n a0 c0 _ hn hC hcl) ⟨rfl, trivial⟩ ?_
  rintro u J84 hle84 hr
  replace hI := Im.le_trans hI hle84
  replace hG := hG.mono hle84
  replace hC := hC.mono hle84
  replace hC2 := hC2.mono hle84
  replace hK := hK.mono hle84
  rw [← hx] at hr
  obtain ⟨ab, cb, rfl, hcp_hA, hA⟩ := hr
  refine XO.alloc (cs := #[.int .i64 0, .int .i64 0, .int .i64 0, .int .i64 0, .slice none 0 0]) rfl rfl zo37 rfl (fun b12 => ?_)
  refine XO.store_agg (vs := (x).cs ab cb) 0 rfl z37 rfl rfl (by simp [Value.oneCell']) rfl (by simp) ?_
  refine XO.nil ?_
  refine XQ.then_normal ?_
  refine XC.seq ?_
  refine XC.region ?_
  refine XO.rd rfl rfl rfl (Reads.move rfl) ?_
  refine XO.rd rfl rfl rfl (fa37_1 rfl) ?_
  refine XO.rd rfl rfl rfl (Reads.load_own k35 rfl (by first | exact OwnAt.of 0 rfl rfl | exact OwnAt.of 1 rfl rfl | exact OwnAt.of 2 rfl rfl | exact OwnAt.of 3 rfl rfl | exact OwnAt.of 4 rfl rfl | exact OwnAt.of 5 rfl rfl | exact OwnAt.of 6 rfl rfl)) ?_
  refine XO.rd rfl rfl rfl (Reads.len_slice Tryd.underlying35 rfl) ?_
  refine XO.callp rfl rfl en16 (pickL_any ii (x.hs.length : Int) _ hii (by omega)) ⟨rfl, rfl, trivial⟩ ?_
  rw [hm]
  refine XO.rd rfl rfl rfl (Reads.assign rfl) ?_
  refine XO.nil ?_
  refine XQ.then_normal ?_
  refine XC.seq ?_
  refine XC.seq ?_
  refine XC.draw m_mixed none (.pure 0 (.pure 2 (.pure 3 (.pure 4 (.pure 5 (.pure 6 (.pure 7 (.pure 8 (.pure 12 (.eff 1 (.eff 9 (.eff 10 (.pure 11 (.done)))))))))))))) _ (by kernel_rfl) (List.Sublist.refl _) ?_
  refine XR.rd rfl rfl rfl (Reads.load_whole k26 z26 rfl (by first | exact WholeAt.of 0 rfl | exact WholeAt.of 1 rfl | exact WholeAt.of 2 rfl | exact WholeAt.of 3 rfl | exact WholeAt.of 4 rfl | exact WholeAt.of 5 rfl | exact WholeAt.of 6 rfl) (by rfl)) ?_
  refine XR.rd rfl rfl rfl (Reads.load_whole k37 z37 rfl (by first | exact WholeAt.of 0 rfl | exact WholeAt.of 1 rfl | exact WholeAt.of 2 rfl | exact WholeAt.of 3 rfl | exact WholeAt.of 4 rfl | exact WholeAt.of 5 rfl | exact WholeAt.of 6 rfl) (by rfl)) ?_
  refine XR.rd rfl rfl rfl (Reads.index_arr_own (q := 0) Tryd.underlying27 z3 rfl rfl (by decide) rfl) ?_
  refine XR.rd rfl rfl rfl (Reads.load_own k3 rfl (by first | exact OwnAt.of 0 rfl rfl | exact OwnAt.of 1 rfl rfl | exact OwnAt.of 2 rfl rfl | exact OwnAt.of 3 rfl rfl | exact OwnAt.of 4 rfl rfl | exact OwnAt.of 5 rfl rfl | exact OwnAt.of 6 rfl rfl)) ?_
  refine XR.rd rfl rfl rfl (Reads.index_arr_own (q := 1) Tryd.underlying27 z3 rfl rfl (by decide) rfl) ?_
  refine XR.rd rfl rfl rfl (Reads.load_own k3 rfl (by first | exact OwnAt.of 0 rfl rfl | exact OwnAt.of 1 rfl rfl | exact OwnAt.of 2 rfl rfl | exact OwnAt.of 3 rfl rfl | exact OwnAt.of 4 rfl rfl | exact OwnAt.of 5 rfl rfl | exact OwnAt.of 6 rfl rfl)) ?_
  refine XR.rd rfl rfl rfl (Reads.index_arr_own (q := 2) Tryd.underlying27 z3 rfl rfl (by decide) rfl) ?_
  refine XR.rd rfl rfl rfl (Reads.load_own k3 rfl (by first | exact OwnAt.of 0 rfl rfl | exact OwnAt.of 1 rfl rfl | exact OwnAt.of 2 rfl rfl | exact OwnAt.of 3 rfl rfl | exact OwnAt.of 4 rfl rfl | exact OwnAt.of 5 rfl rfl | exact OwnAt.of 6 rfl rfl)) ?_
  refine XR.rd rfl rfl rfl (Reads.move rfl) ?_
  refine XR.call rfl rfl rfl en18 (made_any n2 a1 c1 _ hn2 hC2 hcl2) ⟨rfl, trivial⟩ (List.Sublist.refl _) ?_
  rintro u J85 hle85 hr
  replace hI := Im.le_trans hI hle85
  replace hG := hG.mono hle85
  replace hC := hC.mono hle85
  replace hC2 := hC2.mono hle85
  replace hK := hK.mono hle85
  replace hA := hA.mono hle85
  rw [← hy1] at hr
  obtain ⟨a3, c3, rfl, hcp_hY, hY⟩ := hr
  refine XR.call rfl rfl rfl en17 (bent_any x ab cb bd.a bd.b bd.c _ hA (by omega) (by omega) hbd.a hbd.b hbd.c) ⟨rfl, rfl, rfl, rfl, trivial⟩ (List.Sublist.refl _) ?_
  rintro u J86 hle86 hr
  replace hI := Im.le_trans hI hle86
  replace hG := hG.mono hle86
  replace hC := hC.mono hle86
  replace hC2 := hC2.mono hle86
  replace hK := hK.mono hle86
  replace hA := hA.mono hle86
  replace hY := hY.mono hle86
  rw [← hy2] at hr
  obtain ⟨a2, c2, rfl, hcp_hB, hB⟩ := hr
  refine XR.buildL [.agg (y1.cs a3 c3).toArray, .agg (y2.cs a2 c2).toArray] (y1.cs a3 c3 ++ y2.cs a2 c2) rfl rfl rfl Tryd.underlying60 el37 rfl (by simp) ⟨rfl, rfl, rfl, rfl, trivial⟩ rfl rfl (List.Sublist.refl _) (fun b38 => ?_)
  refine XR.rd rfl rfl rfl (Reads.len_slice Tryd.underlying60 rfl) ?_
  refine XR.nil ?_
  refine XQ.then_normal ?_
  refine XC.block ?_
  refine XC.loop (ι := Nat × Im) (fun q => [(4, .int .i64 kk), (11, .slice ak allK.length ck), (12, .pointer (some ⟨b12, 0, none⟩)), (13, .int .i64 (m : Int)), (38, .slice (some ⟨b38, 0, none⟩) 2 2), (39, .int .i64 2), (40, .int .i64 q.1)]) (fun q => q.2) (fun q => some (b38, .cells (y1.cs a3 c3 ++ y2.cs a2 c2).toArray 37 (0, 0)) :: some (b12, .cells ((x).cs ab cb).toArray 37 (0, 0)) :: some (b7, .cells bd.cells.toArray 27 (0, 0)) :: some (b6, .cells (n2.cs a1 c1).toArray 26 (0, 0)) :: some (b5, .cells (n.cs a0 c0).toArray 26 (0, 0)) :: ([] ++ Lf)) (fun q => q.1 ≤ 2 ∧ I.le q.2 ∧ Glob q.2 ∧ Arr q.2 ak allK ∧ Arr q.2 ab x.hs ∧ Arr q.2 a3 y1.hs ∧ Arr q.2 a2 y2.hs) (fun q => 2 - q.1) (0, _) ⟨Nat.zero_le _, hI, hG, hK, hA, hY, hB⟩ ⟨rfl, rfl, rfl, rfl, rfl, rfl, rfl, trivial⟩ rfl (List.Perm.refl _) (fun q hq => ?_)
  obtain ⟨i, M⟩ := q
  obtain ⟨hi1, hI, hG, hK, hA, hY, hB⟩ := hq
  simp only at hi1 hI hG hK hA hY hB ⊢
  refine XC.seq ?_
  refine XC.region ?_
  refine XO.rd rfl rfl rfl (Reads.cmp rfl rfl rfl) ?_
  refine XO.nil ?_
  refine XQ.then_normal ?_
  refine XC.seq ?_
  refine XC.cond rfl (fun h1 => ?_) (fun h1 => ?_)
  · skip
    simp only [cmpInt, decide_eq_true_eq] at h1
    have hi3 : i < 2 := by omega
    obtain ⟨z, az, cz, hz, hZ, hzl, hcp_hZ, hzc⟩ := two_atts (c := c3) (e := c2) hY hB hi3 (m := 7) (by omega) (by omega) hcp_hY hcp_hB
    refine XC.skip ?_
    refine XQ.then_normal ?_
    refine XC.seq ?_
    refine XC.block ?_
    refine XC.seq ?_
    refine XC.region ?_
    refine XO.rd rfl rfl rfl (Reads.index_own (q := i * 5) Tryd.underlying60 z37 rfl rfl (by omega) (by omega)) ?_
    refine XO.rd rfl rfl rfl (Reads.load_agg_own (vs := z.cs az cz) k37 z37 rfl (fun j v hj => OwnAt.of 0 rfl (hzc j v hj))) ?_
    refine XO.alloc (cs := #[.int .i64 0, .int .i64 0, .int .i64 0, .int .i64 0, .slice none 0 0]) rfl rfl zo37 rfl (fun b15 => ?_)
    refine XO.store_agg (vs := (z).cs az cz) 0 rfl z37 rfl rfl (by simp [Value.oneCell']) rfl (by simp) ?_
    refine XO.nil ?_
    refine XQ.then_normal ?_
    refine XC.seq ?_
    refine XC.seq ?_
    refine XC.region ?_
    refine XO.rd rfl rfl rfl (Reads.load_whole k37 z37 rfl (by first | exact WholeAt.of 0 rfl | exact WholeAt.of 1 rfl | exact WholeAt.of 2 rfl | exact WholeAt.of 3 rfl | exact WholeAt.of 4 rfl | exact WholeAt.of 5 rfl | exact WholeAt.of 6 rfl) (by rfl)) ?_
    refine XO.callp rfl rfl en20 (formed_any z az cz _ hZ (by omega)) ⟨rfl, trivial⟩ ?_
    refine XO.rd rfl rfl rfl (Reads.not rfl) ?_
    refine XO.nil ?_
    refine XQ.then_normal ?_
    refine XC.cond rfl (fun h2 => ?_) (fun h2 => ?_)
    · skip
      refine XC.exit ?_
      refine XQ.then_exit ?_
      refine XQ.block_exit ?_
      refine XQ.then_normal ?_
      refine XC.region ?_
      refine XO.rd rfl rfl rfl (Reads.add rfl rfl (by omega)) ?_
      refine XO.rd rfl rfl rfl (Reads.move rfl) ?_
      refine XO.nil ?_
      refine XQ.dropn 1 ?_
      refine XQ.back (i + 1, _) ⟨by simp only; omega, hI, hG, hK, hA, hY, hB⟩ (by simp only; omega) ⟨rfl, rfl, rfl, rfl, rfl, rfl, rfl, trivial⟩ rfl (List.Perm.refl _)
    · skip
      have hzf : z.formed = true := by simpa using h2
      have hzl1 := formed_len hzf
      obtain ⟨p, hp, hp9⟩ := pick_nat kk (n := (z.hs.length : Int)) (by omega)
      have hp3 : p < z.hs.length := by omega
      refine XC.skip ?_
      refine XQ.then_normal ?_
      refine XC.seq ?_
      refine XC.region ?_
      refine XO.rd rfl rfl rfl (Reads.move rfl) ?_
      refine XO.rd rfl rfl rfl (fa37_1 rfl) ?_
      refine XO.rd rfl rfl rfl (Reads.load_own k35 rfl (by first | exact OwnAt.of 0 rfl rfl | exact OwnAt.of 1 rfl rfl | exact OwnAt.of 2 rfl rfl | exact OwnAt.of 3 rfl rfl | exact OwnAt.of 4 rfl rfl | exact OwnAt.of 5 rfl rfl | exact OwnAt.of 6 rfl rfl)) ?_
      refine XO.rd rfl rfl rfl (Reads.len_slice Tryd.underlying35 rfl) ?_
      refine XO.callp rfl rfl en16 (pickL_any kk (z.hs.length : Int) _ hkk (by omega)) ⟨rfl, rfl, trivial⟩ ?_
      rw [hp]
      refine XO.rd rfl rfl rfl (Reads.assign rfl) ?_
      refine XO.nil ?_
      refine XQ.then_normal ?_
      refine XC.seq ?_
      refine XC.seq ?_
      refine XC.draw m_mixed none (.pure 0 (.pure 1 (.pure 2 (.eff 3 (.pure 4 (.pure 5 (.pure 6 (.pure 7 (.pure 8 (.eff 9 (.pure 10 (.pure 11 (.pure 12 (.pure 13 (.pure 14 (.pure 15 (.pure 16 (.pure 17 (.pure 18 (.pure 19 (.pure 20 (.pure 21 (.pure 22 (.pure 23 (.pure 24 (.pure 25 (.pure 26 (.pure 27 (.pure 28 (.pure 29 (.pure 30 (.pure 31 (.pure 32 (.pure 33 (.pure 34 (.pure 35 (.pure 36 (.pure 37 (.pure 38 (.pure 39 (.pure 40 (.pure 41 (.done))))))))))))))))))))))))))))))))))))))))))) _ (by kernel_rfl) (List.Sublist.refl _) ?_
      refine XR.rd rfl rfl rfl (Reads.move rfl) ?_
      refine XR.rd rfl rfl rfl (Reads.load_whole k37 z37 rfl (by first | exact WholeAt.of 0 rfl | exact WholeAt.of 1 rfl | exact WholeAt.of 2 rfl | exact WholeAt.of 3 rfl | exact WholeAt.of 4 rfl | exact WholeAt.of 5 rfl | exact WholeAt.of 6 rfl) (by rfl)) ?_
      refine XR.rd rfl rfl rfl (Reads.move rfl) ?_
      refine XR.callp rfl rfl rfl en33 (shown_is hsI (shown_any x ab ak cb ck allK m _ hA (by omega) hK (by rw [allK_len]; decide) hG)) ⟨rfl, rfl, rfl, trivial⟩ (List.Sublist.refl _) ?_
      refine XR.rd rfl rfl rfl (Reads.not rfl) ?_
      refine XR.rd rfl rfl rfl (Reads.move rfl) ?_
      refine XR.rd rfl (wg rfl rfl rfl) rfl (Reads.move rfl) ?_
      refine XR.rd rfl (wg rfl rfl rfl) rfl (Reads.load_whole k37 z37 rfl (by first | exact WholeAt.of 0 rfl | exact WholeAt.of 1 rfl | exact WholeAt.of 2 rfl | exact WholeAt.of 3 rfl | exact WholeAt.of 4 rfl | exact WholeAt.of 5 rfl | exact WholeAt.of 6 rfl) (by rfl)) ?_
      refine XR.rd rfl (wg rfl rfl rfl) rfl (Reads.move rfl) ?_
      refine XR.callp rfl (wg rfl rfl rfl) rfl en33 (shown_any z az ak cz ck allK p _ hZ (by omega) hK (by rw [allK_len]; decide) hG) ⟨rfl, rfl, rfl, trivial⟩ (List.Sublist.refl _) ?_
      refine XR.rd rfl (wg rfl rfl rfl) rfl (Reads.not rfl) ?_
      refine XR.rd rfl rfl rfl (Reads.pick_false rfl rfl) ?_
      refine XR.rd rfl rfl rfl (Reads.move rfl) ?_
      refine XR.split (d := 64) rfl (fun h3 => ?_) (fun h3 => ?_)
      · skip
        refine XR.s rfl (wg rfl rfl rfl) rfl ?_
        refine XR.s rfl (wg rfl rfl rfl) rfl ?_
        refine XR.s rfl (wg rfl rfl rfl) rfl ?_
        refine XR.s rfl (wg rfl rfl rfl) rfl ?_
        refine XR.s rfl (wg rfl rfl rfl) rfl ?_
        refine XR.s rfl (wg rfl rfl rfl) rfl ?_
        refine XR.s rfl (wg rfl rfl rfl) rfl ?_
        refine XR.s rfl (wg rfl rfl rfl) rfl ?_
        refine XR.s rfl (wg rfl rfl rfl) rfl ?_
        refine XR.s rfl (wg rfl rfl rfl) rfl ?_
        refine XR.s rfl (wg rfl rfl rfl) rfl ?_
        refine XR.s rfl (wg rfl rfl rfl) rfl ?_
        refine XR.s rfl (wg rfl rfl rfl) rfl ?_
        refine XR.rd rfl rfl rfl (Reads.pick_true rfl rfl) ?_
        refine XR.rd rfl rfl rfl (Reads.move rfl) ?_
        refine XR.s rfl (wg rfl rfl rfl) rfl ?_
        refine XR.s rfl (wg rfl rfl rfl) rfl ?_
        refine XR.s rfl (wg rfl rfl rfl) rfl ?_
        refine XR.s rfl (wg rfl rfl rfl) rfl ?_
        refine XR.s rfl (wg rfl rfl rfl) rfl ?_
        refine XR.s rfl (wg rfl rfl rfl) rfl ?_
        refine XR.s rfl (wg rfl rfl rfl) rfl ?_
        refine XR.s rfl (wg rfl rfl rfl) rfl ?_
        refine XR.s rfl (wg rfl rfl rfl) rfl ?_
        refine XR.s rfl (wg rfl rfl rfl) rfl ?_
        refine XR.s rfl (wg rfl rfl rfl) rfl ?_
        refine XR.s rfl (wg rfl rfl rfl) rfl ?_
        refine XR.s rfl (wg rfl rfl rfl) rfl ?_
        refine XR.rd rfl rfl rfl (Reads.pick_true rfl rfl) ?_
        refine XR.nil ?_
        refine XQ.then_normal ?_
        refine XC.cond rfl (fun _ => ?_) (fun hx => by cases hx)
        refine XC.exit ?_
        refine XQ.then_exit ?_
        refine XQ.block_exit ?_
        refine XQ.then_normal ?_
        refine XC.weaken (E' := [(4, _), (11, _), (12, _), (13, _), (38, _), (39, _), (40, _)]) ⟨rfl, rfl, rfl, rfl, rfl, rfl, rfl, trivial⟩ ?_
        refine XC.region ?_
        refine XO.rd rfl rfl rfl (Reads.add rfl rfl (by omega)) ?_
        refine XO.rd rfl rfl rfl (Reads.move rfl) ?_
        refine XO.nil ?_
        refine XQ.dropn 1 ?_
        refine XQ.back (i + 1, _) ⟨by simp only; omega, hI, hG, hK, hA, hY, hB⟩ (by simp only; omega) ⟨rfl, rfl, rfl, rfl, rfl, rfl, rfl, trivial⟩ rfl (List.Perm.refl _)
      · skip
        have hzs : shownI allK z (p : Int) = true := by simpa using h3
        refine XR.rd rfl (wg rfl rfl rfl) rfl (fa37_1 rfl) ?_
        refine XR.rd rfl (wg rfl rfl rfl) rfl (Reads.load_own k35 rfl (by first | exact OwnAt.of 0 rfl rfl | exact OwnAt.of 1 rfl rfl | exact OwnAt.of 2 rfl rfl | exact OwnAt.of 3 rfl rfl | exact OwnAt.of 4 rfl rfl | exact OwnAt.of 5 rfl rfl | exact OwnAt.of 6 rfl rfl)) ?_
        refine XR.rd rfl (wg rfl rfl rfl) rfl (Reads.move rfl) ?_
        refine XR.rd rfl (wg rfl rfl rfl) rfl (Reads.index_slot (q := (m) * 3) Tryd.underlying35 z53 rfl rfl (by omega) (hA.isSome (by decide) (by omega)) (by omega)) ?_
        refine XR.rd rfl (wg rfl rfl rfl) rfl (fs53_2 rfl (hA.addr (by decide) (by omega))) ?_
        refine XR.rd rfl (wg rfl rfl rfl) rfl (Reads.load_at (v := .string (x.h (m)).s) k9 rfl (by rw [x.h_get (show (m) < x.hs.length by omega)]; exact hA.hand (show (m) < x.hs.length by omega) 2 _ rfl)) ?_
        refine XR.rd rfl (wg rfl rfl rfl) rfl (fa37_1 rfl) ?_
        refine XR.rd rfl (wg rfl rfl rfl) rfl (Reads.load_own k35 rfl (by first | exact OwnAt.of 0 rfl rfl | exact OwnAt.of 1 rfl rfl | exact OwnAt.of 2 rfl rfl | exact OwnAt.of 3 rfl rfl | exact OwnAt.of 4 rfl rfl | exact OwnAt.of 5 rfl rfl | exact OwnAt.of 6 rfl rfl)) ?_
        refine XR.rd rfl (wg rfl rfl rfl) rfl (Reads.move rfl) ?_
        refine XR.rd rfl (wg rfl rfl rfl) rfl (Reads.index_slot (q := (p) * 3) Tryd.underlying35 z53 rfl rfl (by omega) (hZ.isSome (by decide) (by omega)) (by omega)) ?_
        refine XR.rd rfl (wg rfl rfl rfl) rfl (fs53_2 rfl (hZ.addr (by decide) (by omega))) ?_
        refine XR.rd rfl (wg rfl rfl rfl) rfl (Reads.load_at (v := .string (z.h (p)).s) k9 rfl (by rw [z.h_get (show (p) < z.hs.length by omega)]; exact hZ.hand (show (p) < z.hs.length by omega) 2 _ rfl)) ?_
        refine XR.rd rfl (wg rfl rfl rfl) rfl (Reads.sne rfl rfl) ?_
        refine XR.rd rfl rfl rfl (Reads.pick_false rfl rfl) ?_
        refine XR.rd rfl rfl rfl (Reads.move rfl) ?_
        refine XR.split (d := 79) rfl (fun h4 => ?_) (fun h4 => ?_)
        · skip
          refine XR.s rfl (wg rfl rfl rfl) rfl ?_
          refine XR.s rfl (wg rfl rfl rfl) rfl ?_
          refine XR.s rfl (wg rfl rfl rfl) rfl ?_
          refine XR.s rfl (wg rfl rfl rfl) rfl ?_
          refine XR.s rfl (wg rfl rfl rfl) rfl ?_
          refine XR.s rfl (wg rfl rfl rfl) rfl ?_
          refine XR.s rfl (wg rfl rfl rfl) rfl ?_
          refine XR.s rfl (wg rfl rfl rfl) rfl ?_
          refine XR.s rfl (wg rfl rfl rfl) rfl ?_
          refine XR.s rfl (wg rfl rfl rfl) rfl ?_
          refine XR.s rfl (wg rfl rfl rfl) rfl ?_
          refine XR.s rfl (wg rfl rfl rfl) rfl ?_
          refine XR.s rfl (wg rfl rfl rfl) rfl ?_
          refine XR.rd rfl rfl rfl (Reads.pick_true rfl rfl) ?_
          refine XR.nil ?_
          refine XQ.then_normal ?_
          refine XC.cond rfl (fun _ => ?_) (fun hx => by cases hx)
          refine XC.exit ?_
          refine XQ.then_exit ?_
          refine XQ.block_exit ?_
          refine XQ.then_normal ?_
          refine XC.weaken (E' := [(4, _), (11, _), (12, _), (13, _), (38, _), (39, _), (40, _)]) ⟨rfl, rfl, rfl, rfl, rfl, rfl, rfl, trivial⟩ ?_
          refine XC.region ?_
          refine XO.rd rfl rfl rfl (Reads.add rfl rfl (by omega)) ?_
          refine XO.rd rfl rfl rfl (Reads.move rfl) ?_
          refine XO.nil ?_
          refine XQ.dropn 1 ?_
          refine XQ.back (i + 1, _) ⟨by simp only; omega, hI, hG, hK, hA, hY, hB⟩ (by simp only; omega) ⟨rfl, rfl, rfl, rfl, rfl, rfl, rfl, trivial⟩ rfl (List.Perm.refl _)
        · skip
          have hse : (x.h m).s = (z.h p).s := by simpa using h4
          refine XR.rd rfl (wg rfl rfl rfl) rfl (fa37_1 rfl) ?_
          refine XR.rd rfl (wg rfl rfl rfl) rfl (Reads.load_own k35 rfl (by first | exact OwnAt.of 0 rfl rfl | exact OwnAt.of 1 rfl rfl | exact OwnAt.of 2 rfl rfl | exact OwnAt.of 3 rfl rfl | exact OwnAt.of 4 rfl rfl | exact OwnAt.of 5 rfl rfl | exact OwnAt.of 6 rfl rfl)) ?_
          refine XR.rd rfl (wg rfl rfl rfl) rfl (Reads.move rfl) ?_
          refine XR.rd rfl (wg rfl rfl rfl) rfl (Reads.index_slot (q := (m) * 3) Tryd.underlying35 z53 rfl rfl (by omega) (hA.isSome (by decide) (by omega)) (by omega)) ?_
          refine XR.rd rfl (wg rfl rfl rfl) rfl (fs53_0 rfl (hA.addr (by decide) (by omega))) ?_
          refine XR.rd rfl (wg rfl rfl rfl) rfl (Reads.load_at (v := .int .i64 (x.h (m)).c) k3 rfl (by rw [x.h_get (show (m) < x.hs.length by omega)]; exact hA.hand (show (m) < x.hs.length by omega) 0 _ rfl)) ?_
          refine XR.rd rfl (wg rfl rfl rfl) rfl (fa37_1 rfl) ?_
          refine XR.rd rfl (wg rfl rfl rfl) rfl (Reads.load_own k35 rfl (by first | exact OwnAt.of 0 rfl rfl | exact OwnAt.of 1 rfl rfl | exact OwnAt.of 2 rfl rfl | exact OwnAt.of 3 rfl rfl | exact OwnAt.of 4 rfl rfl | exact OwnAt.of 5 rfl rfl | exact OwnAt.of 6 rfl rfl)) ?_
          refine XR.rd rfl (wg rfl rfl rfl) rfl (Reads.move rfl) ?_
          refine XR.rd rfl (wg rfl rfl rfl) rfl (Reads.index_slot (q := (p) * 3) Tryd.underlying35 z53 rfl rfl (by omega) (hZ.isSome (by decide) (by omega)) (by omega)) ?_
          refine XR.rd rfl (wg rfl rfl rfl) rfl (fs53_0 rfl (hZ.addr (by decide) (by omega))) ?_
          refine XR.rd rfl (wg rfl rfl rfl) rfl (Reads.load_at (v := .int .i64 (z.h (p)).c) k3 rfl (by rw [z.h_get (show (p) < z.hs.length by omega)]; exact hZ.hand (show (p) < z.hs.length by omega) 0 _ rfl)) ?_
          refine XR.rd rfl (wg rfl rfl rfl) rfl (Reads.cmp rfl rfl rfl) ?_
          refine XR.rd rfl rfl rfl (Reads.pick_false rfl rfl) ?_
          refine XR.nil ?_
          refine XQ.then_normal ?_
          refine XC.cond rfl (fun h5 => ?_) (fun h5 => ?_)
          · skip
            refine XC.exit ?_
            refine XQ.then_exit ?_
            refine XQ.block_exit ?_
            refine XQ.then_normal ?_
            refine XC.weaken (E' := [(4, _), (11, _), (12, _), (13, _), (38, _), (39, _), (40, _)]) ⟨rfl, rfl, rfl, rfl, rfl, rfl, rfl, trivial⟩ ?_
            refine XC.region ?_
            refine XO.rd rfl rfl rfl (Reads.add rfl rfl (by omega)) ?_
            refine XO.rd rfl rfl rfl (Reads.move rfl) ?_
            refine XO.nil ?_
            refine XQ.dropn 1 ?_
            refine XQ.back (i + 1, _) ⟨by simp only; omega, hI, hG, hK, hA, hY, hB⟩ (by simp only; omega) ⟨rfl, rfl, rfl, rfl, rfl, rfl, rfl, trivial⟩ rfl (List.Perm.refl _)
          · skip
            have hbo := binds_or hch.f hzf hm3 hp3 hshx (shownI_iff hzs).2.2 hse
            refine XC.skip ?_
            refine XQ.then_normal ?_
            refine XC.seq ?_
            refine XC.weaken (E' := [(4, _), (11, _), (12, _), (13, _), (15, _), (16, _), (38, _), (39, _), (40, _)]) ⟨rfl, rfl, rfl, rfl, rfl, rfl, rfl, rfl, rfl, trivial⟩ ?_
            refine XC.join (ι := Bool) (fun q => [(4, .int .i64 kk), (11, .slice ak allK.length ck), (12, .pointer (some ⟨b12, 0, none⟩)), (13, .int .i64 (m : Int)), (15, .pointer (some ⟨b15, 0, none⟩)), (16, .int .i64 (p : Int)), (17, .bool q), (38, .slice (some ⟨b38, 0, none⟩) 2 2), (39, .int .i64 2), (40, .int .i64 i)]) (fun q => M) (fun q => some (b15, .cells ((z).cs az cz).toArray 37 (0, 0)) :: some (b38, .cells (y1.cs a3 c3 ++ y2.cs a2 c2).toArray 37 (0, 0)) :: some (b12, .cells ((x).cs ab cb).toArray 37 (0, 0)) :: some (b7, .cells bd.cells.toArray 27 (0, 0)) :: some (b6, .cells (n2.cs a1 c1).toArray 26 (0, 0)) :: some (b5, .cells (n.cs a0 c0).toArray 26 (0, 0)) :: ([] ++ Lf)) (fun q => q = false → collF (hashA allK x (m + 1)) (hashA allK z (p + 1)) = true) ?_ (fun sm hsm => ?_)
            · skip
              refine XC.draw m_mixed none (.pure 0 (.pure 1 (.pure 2 (.pure 3 (.pure 4 (.pure 5 (.pure 6 (.pure 7 (.pure 8 (.pure 9 (.pure 10 (.pure 11 (.pure 12 (.pure 13 (.pure 14 (.pure 15 (.pure 16 (.pure 17 (.pure 18 (.pure 19 (.pure 20 (.pure 21 (.pure 22 (.pure 23 (.pure 24 (.pure 25 (.pure 26 (.pure 27 (.pure 28 (.pure 29 (.pure 30 (.pure 31 (.pure 32 (.pure 33 (.pure 34 (.pure 35 (.pure 36 (.pure 37 (.pure 38 (.pure 39 (.pure 40 (.pure 41 (.pure 42 (.pure 43 (.pure 44 (.done)))))))))))))))))))))))))))))))))))))))))))))) _ (by kernel_rfl) (List.Sublist.refl _) ?_
              refine XR.rd rfl rfl rfl (fa37_0 rfl) ?_
              refine XR.rd rfl rfl rfl (Reads.load_agg_own (vs := x.d.cs) k34 z34 rfl (fun j v hj => OwnAt.of 2 rfl (by rw [Nat.zero_add]; exact dial_at x ab cb hj))) ?_
              refine XR.rd rfl rfl rfl (fa37_0 rfl) ?_
              refine XR.rd rfl rfl rfl (Reads.load_agg_own (vs := z.d.cs) k34 z34 rfl (fun j v hj => OwnAt.of 0 rfl (by simp only [Nat.zero_add]; exact dial_at z az cz hj))) ?_
              refine XR.rd rfl rfl rfl (Reads.dial_eq (p := x.d) (q := z.d) rfl rfl) ?_
              refine XR.rd rfl rfl rfl (Reads.move rfl) ?_
              refine XR.split (d := 99) rfl (fun h6 => ?_) (fun h6 => ?_)
              · skip
                refine XR.rd rfl (wg rfl rfl rfl) rfl (Reads.move rfl) ?_
                refine XR.rd rfl (wg rfl rfl rfl) rfl (Reads.move rfl) ?_
                refine XR.rd rfl (wg rfl rfl rfl) rfl (Reads.cmp rfl rfl rfl) ?_
                refine XR.rd rfl rfl rfl (Reads.pick_true rfl rfl) ?_
                refine XR.rd rfl rfl rfl (Reads.move rfl) ?_
                refine XR.split (d := 104) rfl (fun h7 => ?_) (fun h7 => ?_)
                · skip
                  simp only [cmpInt, beq_iff_eq] at h7
                  have e2 : m = p := by omega
                  refine XR.rd rfl (wg rfl rfl rfl) rfl (fa37_1 rfl) ?_
                  refine XR.rd rfl (wg rfl rfl rfl) rfl (Reads.load_own k35 rfl (by first | exact OwnAt.of 0 rfl rfl | exact OwnAt.of 1 rfl rfl | exact OwnAt.of 2 rfl rfl | exact OwnAt.of 3 rfl rfl | exact OwnAt.of 4 rfl rfl | exact OwnAt.of 5 rfl rfl | exact OwnAt.of 6 rfl rfl)) ?_
                  refine XR.rd rfl (wg rfl rfl rfl) rfl (Reads.move rfl) ?_
                  refine XR.rd rfl (wg rfl rfl rfl) rfl (Reads.index_slot (q := (m) * 3) Tryd.underlying35 z53 rfl rfl (by omega) (hA.isSome (by decide) (by omega)) (by omega)) ?_
                  refine XR.rd rfl (wg rfl rfl rfl) rfl (Reads.load_agg_at (vs := (x.h (m)).cs) k53 z53 rfl (hA.addr (by decide) (by omega)) (by rw [x.h_get (show (m) < x.hs.length by omega)]; exact hA.hand (show (m) < x.hs.length by omega))) ?_
                  refine XR.rd rfl (wg rfl rfl rfl) rfl (fa37_1 rfl) ?_
                  refine XR.rd rfl (wg rfl rfl rfl) rfl (Reads.load_own k35 rfl (by first | exact OwnAt.of 0 rfl rfl | exact OwnAt.of 1 rfl rfl | exact OwnAt.of 2 rfl rfl | exact OwnAt.of 3 rfl rfl | exact OwnAt.of 4 rfl rfl | exact OwnAt.of 5 rfl rfl | exact OwnAt.of 6 rfl rfl)) ?_
                  refine XR.rd rfl (wg rfl rfl rfl) rfl (Reads.move rfl) ?_
                  refine XR.rd rfl (wg rfl rfl rfl) rfl (Reads.index_slot (q := (p) * 3) Tryd.underlying35 z53 rfl rfl (by omega) (hZ.isSome (by decide) (by omega)) (by omega)) ?_
                  refine XR.rd rfl (wg rfl rfl rfl) rfl (Reads.load_agg_at (vs := (z.h (p)).cs) k53 z53 rfl (hZ.addr (by decide) (by omega)) (by rw [z.h_get (show (p) < z.hs.length by omega)]; exact hZ.hand (show (p) < z.hs.length by omega))) ?_
                  refine XR.rd rfl (wg rfl rfl rfl) rfl (Reads.hand_eq (p := x.h m) (q := z.h p) rfl rfl) ?_
                  refine XR.rd rfl rfl rfl (Reads.pick_true rfl rfl) ?_
                  refine XR.rd rfl rfl rfl (Reads.move rfl) ?_
                  refine XR.split (d := 117) rfl (fun h8 => ?_) (fun h8 => ?_)
                  · skip
                    refine XR.rd rfl (wg rfl rfl rfl) rfl (Reads.move rfl) ?_
                    refine XR.rd rfl (wg rfl rfl rfl) rfl (Reads.cmp rfl rfl rfl) ?_
                    refine XR.rd rfl (wg rfl rfl rfl) rfl (Reads.move rfl) ?_
                    refine XR.split (d := 120) rfl (fun h9 => ?_) (fun h9 => ?_)
                    · skip
                      refine XR.s rfl (wg rfl rfl rfl) rfl ?_
                      refine XR.s rfl (wg rfl rfl rfl) rfl ?_
                      refine XR.s rfl (wg rfl rfl rfl) rfl ?_
                      refine XR.s rfl (wg rfl rfl rfl) rfl ?_
                      refine XR.s rfl (wg rfl rfl rfl) rfl ?_
                      refine XR.s rfl (wg rfl rfl rfl) rfl ?_
                      refine XR.s rfl (wg rfl rfl rfl) rfl ?_
                      refine XR.s rfl (wg rfl rfl rfl) rfl ?_
                      refine XR.s rfl (wg rfl rfl rfl) rfl ?_
                      refine XR.s rfl (wg rfl rfl rfl) rfl ?_
                      refine XR.s rfl (wg rfl rfl rfl) rfl ?_
                      refine XR.s rfl (wg rfl rfl rfl) rfl ?_
                      refine XR.s rfl (wg rfl rfl rfl) rfl ?_
                      refine XR.s rfl (wg rfl rfl rfl) rfl ?_
                      refine XR.s rfl (wg rfl rfl rfl) rfl ?_
                      refine XR.rd rfl (wg rfl rfl rfl) rfl (Reads.pick_true rfl rfl) ?_
                      refine XR.rd rfl rfl rfl (Reads.pick_true rfl rfl) ?_
                      refine XR.rd rfl rfl rfl (Reads.assign rfl) ?_
                      refine XR.nil ?_
                      refine XQ.joined true (fun h9 => by cases h9) ⟨rfl, rfl, rfl, rfl, rfl, rfl, rfl, rfl, rfl, rfl, trivial⟩ rfl (List.Perm.refl _)
                    · skip
                      simp only [cmpInt, beq_eq_false_iff_ne] at h9
                      have e4 : ¬ m = 0 := by omega
                      refine XR.rd rfl (wg rfl rfl rfl) rfl (fa37_1 rfl) ?_
                      refine XR.rd rfl (wg rfl rfl rfl) rfl (Reads.load_own k35 rfl (by first | exact OwnAt.of 0 rfl rfl | exact OwnAt.of 1 rfl rfl | exact OwnAt.of 2 rfl rfl | exact OwnAt.of 3 rfl rfl | exact OwnAt.of 4 rfl rfl | exact OwnAt.of 5 rfl rfl | exact OwnAt.of 6 rfl rfl)) ?_
                      refine XR.rd rfl (wg rfl rfl rfl) rfl (Reads.move rfl) ?_
                      refine XR.rd rfl (wg rfl rfl rfl) rfl (Reads.sub rfl rfl (by omega)) ?_
                      rw [show (m : Int) - 1 = ((m - 1 : Nat) : Int) by omega]
                      refine XR.rd rfl (wg rfl rfl rfl) rfl (Reads.index_slot (q := (m - 1) * 3) Tryd.underlying35 z53 rfl rfl (by omega) (hA.isSome (by decide) (by omega)) (by omega)) ?_
                      refine XR.rd rfl (wg rfl rfl rfl) rfl (fs53_2 rfl (hA.addr (by decide) (by omega))) ?_
                      refine XR.rd rfl (wg rfl rfl rfl) rfl (Reads.load_at (v := .string (x.h (m - 1)).s) k9 rfl (by rw [x.h_get (show (m - 1) < x.hs.length by omega)]; exact hA.hand (show (m - 1) < x.hs.length by omega) 2 _ rfl)) ?_
                      refine XR.rd rfl (wg rfl rfl rfl) rfl (fa37_1 rfl) ?_
                      refine XR.rd rfl (wg rfl rfl rfl) rfl (Reads.load_own k35 rfl (by first | exact OwnAt.of 0 rfl rfl | exact OwnAt.of 1 rfl rfl | exact OwnAt.of 2 rfl rfl | exact OwnAt.of 3 rfl rfl | exact OwnAt.of 4 rfl rfl | exact OwnAt.of 5 rfl rfl | exact OwnAt.of 6 rfl rfl)) ?_
                      refine XR.rd rfl (wg rfl rfl rfl) rfl (Reads.move rfl) ?_
                      refine XR.rd rfl (wg rfl rfl rfl) rfl (Reads.sub rfl rfl (by omega)) ?_
                      rw [show (p : Int) - 1 = ((p - 1 : Nat) : Int) by omega]
                      refine XR.rd rfl (wg rfl rfl rfl) rfl (Reads.index_slot (q := (p - 1) * 3) Tryd.underlying35 z53 rfl rfl (by omega) (hZ.isSome (by decide) (by omega)) (by omega)) ?_
                      refine XR.rd rfl (wg rfl rfl rfl) rfl (fs53_2 rfl (hZ.addr (by decide) (by omega))) ?_
                      refine XR.rd rfl (wg rfl rfl rfl) rfl (Reads.load_at (v := .string (z.h (p - 1)).s) k9 rfl (by rw [z.h_get (show (p - 1) < z.hs.length by omega)]; exact hZ.hand (show (p - 1) < z.hs.length by omega) 2 _ rfl)) ?_
                      refine XR.rd rfl (wg rfl rfl rfl) rfl (Reads.seq rfl rfl) ?_
                      refine XR.rd rfl (wg rfl rfl rfl) rfl (Reads.pick_false rfl rfl) ?_
                      refine XR.rd rfl rfl rfl (Reads.pick_true rfl rfl) ?_
                      refine XR.rd rfl rfl rfl (Reads.assign rfl) ?_
                      refine XR.nil ?_
                      refine XQ.joined (decide ((x.h (m - 1)).s = (z.h (p - 1)).s)) (fun h9 => hbo.resolve_right (fun g => of_decide_eq_false h9 (g.2.2.2.resolve_left e4))) ⟨rfl, rfl, rfl, rfl, rfl, rfl, rfl, rfl, rfl, rfl, trivial⟩ rfl (List.Perm.refl _)
                  · skip
                    have e3 := of_decide_eq_false h8
                    refine XR.s rfl (wg rfl rfl rfl) rfl ?_
                    refine XR.s rfl (wg rfl rfl rfl) rfl ?_
                    refine XR.s rfl (wg rfl rfl rfl) rfl ?_
                    refine XR.s rfl (wgu rfl rfl) rfl ?_
                    refine XR.s rfl (wgu rfl rfl) rfl ?_
                    refine XR.s rfl (wgu rfl rfl) rfl ?_
                    refine XR.s rfl (wgu rfl rfl) rfl ?_
                    refine XR.s rfl (wgu rfl rfl) rfl ?_
                    refine XR.s rfl (wgu rfl rfl) rfl ?_
                    refine XR.s rfl (wgu rfl rfl) rfl ?_
                    refine XR.s rfl (wgu rfl rfl) rfl ?_
                    refine XR.s rfl (wgu rfl rfl) rfl ?_
                    refine XR.s rfl (wgu rfl rfl) rfl ?_
                    refine XR.s rfl (wgu rfl rfl) rfl ?_
                    refine XR.s rfl (wgu rfl rfl) rfl ?_
                    refine XR.s rfl (wgu rfl rfl) rfl ?_
                    refine XR.s rfl (wgu rfl rfl) rfl ?_
                    refine XR.s rfl (wgu rfl rfl) rfl ?_
                    refine XR.s rfl (wg rfl rfl rfl) rfl ?_
                    refine XR.rd rfl rfl rfl (Reads.pick_false rfl rfl) ?_
                    refine XR.rd rfl rfl rfl (Reads.assign rfl) ?_
                    refine XR.nil ?_
                    refine XQ.joined false (fun _ => hbo.resolve_right (fun g => e3 g.2.2.1)) ⟨rfl, rfl, rfl, rfl, rfl, rfl, rfl, rfl, rfl, rfl, trivial⟩ rfl (List.Perm.refl _)
                · skip
                  simp only [cmpInt, beq_eq_false_iff_ne] at h7
                  have e2 : ¬ m = p := by omega
                  refine XR.s rfl (wg rfl rfl rfl) rfl ?_
                  refine XR.s rfl (wg rfl rfl rfl) rfl ?_
                  refine XR.s rfl (wg rfl rfl rfl) rfl ?_
                  refine XR.s rfl (wg rfl rfl rfl) rfl ?_
                  refine XR.s rfl (wg rfl rfl rfl) rfl ?_
                  refine XR.s rfl (wg rfl rfl rfl) rfl ?_
                  refine XR.s rfl (wg rfl rfl rfl) rfl ?_
                  refine XR.s rfl (wg rfl rfl rfl) rfl ?_
                  refine XR.s rfl (wg rfl rfl rfl) rfl ?_
                  refine XR.s rfl (wg rfl rfl rfl) rfl ?_
                  refine XR.s rfl (wg rfl rfl rfl) rfl ?_
                  refine XR.rd rfl rfl rfl (Reads.pick_false rfl rfl) ?_
                  refine XR.rd rfl rfl rfl (Reads.move rfl) ?_
                  refine XR.s rfl (wg rfl rfl rfl) rfl ?_
                  refine XR.s rfl (wg rfl rfl rfl) rfl ?_
                  refine XR.s rfl (wg rfl rfl rfl) rfl ?_
                  refine XR.s rfl (wgu rfl rfl) rfl ?_
                  refine XR.s rfl (wgu rfl rfl) rfl ?_
                  refine XR.s rfl (wgu rfl rfl) rfl ?_
                  refine XR.s rfl (wgu rfl rfl) rfl ?_
                  refine XR.s rfl (wgu rfl rfl) rfl ?_
                  refine XR.s rfl (wgu rfl rfl) rfl ?_
                  refine XR.s rfl (wgu rfl rfl) rfl ?_
                  refine XR.s rfl (wgu rfl rfl) rfl ?_
                  refine XR.s rfl (wgu rfl rfl) rfl ?_
                  refine XR.s rfl (wgu rfl rfl) rfl ?_
                  refine XR.s rfl (wgu rfl rfl) rfl ?_
                  refine XR.s rfl (wgu rfl rfl) rfl ?_
                  refine XR.s rfl (wgu rfl rfl) rfl ?_
                  refine XR.s rfl (wgu rfl rfl) rfl ?_
                  refine XR.s rfl (wgu rfl rfl) rfl ?_
                  refine XR.s rfl (wg rfl rfl rfl) rfl ?_
                  refine XR.rd rfl rfl rfl (Reads.pick_false rfl rfl) ?_
                  refine XR.rd rfl rfl rfl (Reads.assign rfl) ?_
                  refine XR.nil ?_
                  refine XQ.joined false (fun _ => hbo.resolve_right (fun g => e2 g.2.1)) ⟨rfl, rfl, rfl, rfl, rfl, rfl, rfl, rfl, rfl, rfl, trivial⟩ rfl (List.Perm.refl _)
              · skip
                have e1 := of_decide_eq_false h6
                refine XR.s rfl (wg rfl rfl rfl) rfl ?_
                refine XR.s rfl (wg rfl rfl rfl) rfl ?_
                refine XR.s rfl (wg rfl rfl rfl) rfl ?_
                refine XR.rd rfl rfl rfl (Reads.pick_false rfl rfl) ?_
                refine XR.rd rfl rfl rfl (Reads.move rfl) ?_
                refine XR.s rfl (wg rfl rfl rfl) rfl ?_
                refine XR.s rfl (wg rfl rfl rfl) rfl ?_
                refine XR.s rfl (wg rfl rfl rfl) rfl ?_
                refine XR.s rfl (wg rfl rfl rfl) rfl ?_
                refine XR.s rfl (wg rfl rfl rfl) rfl ?_
                refine XR.s rfl (wg rfl rfl rfl) rfl ?_
                refine XR.s rfl (wg rfl rfl rfl) rfl ?_
                refine XR.s rfl (wg rfl rfl rfl) rfl ?_
                refine XR.s rfl (wg rfl rfl rfl) rfl ?_
                refine XR.s rfl (wg rfl rfl rfl) rfl ?_
                refine XR.s rfl (wg rfl rfl rfl) rfl ?_
                refine XR.rd rfl rfl rfl (Reads.pick_false rfl rfl) ?_
                refine XR.rd rfl rfl rfl (Reads.move rfl) ?_
                refine XR.s rfl (wg rfl rfl rfl) rfl ?_
                refine XR.s rfl (wg rfl rfl rfl) rfl ?_
                refine XR.s rfl (wg rfl rfl rfl) rfl ?_
                refine XR.s rfl (wgu rfl rfl) rfl ?_
                refine XR.s rfl (wgu rfl rfl) rfl ?_
                refine XR.s rfl (wgu rfl rfl) rfl ?_
                refine XR.s rfl (wgu rfl rfl) rfl ?_
                refine XR.s rfl (wgu rfl rfl) rfl ?_
                refine XR.s rfl (wgu rfl rfl) rfl ?_
                refine XR.s rfl (wgu rfl rfl) rfl ?_
                refine XR.s rfl (wgu rfl rfl) rfl ?_
                refine XR.s rfl (wgu rfl rfl) rfl ?_
                refine XR.s rfl (wgu rfl rfl) rfl ?_
                refine XR.s rfl (wgu rfl rfl) rfl ?_
                refine XR.s rfl (wgu rfl rfl) rfl ?_
                refine XR.s rfl (wgu rfl rfl) rfl ?_
                refine XR.s rfl (wgu rfl rfl) rfl ?_
                refine XR.s rfl (wgu rfl rfl) rfl ?_
                refine XR.s rfl (wg rfl rfl rfl) rfl ?_
                refine XR.rd rfl rfl rfl (Reads.pick_false rfl rfl) ?_
                refine XR.rd rfl rfl rfl (Reads.assign rfl) ?_
                refine XR.nil ?_
                refine XQ.joined false (fun _ => hbo.resolve_right (fun g => e1 g.1)) ⟨rfl, rfl, rfl, rfl, rfl, rfl, rfl, rfl, rfl, rfl, trivial⟩ rfl (List.Perm.refl _)
            · skip
              refine XQ.then_normal ?_
              refine XC.seq ?_
              refine XC.draw m_mixed none (.pure 0 (.pure 1 (.pure 2 (.pure 3 (.pure 4 (.pure 5 (.pure 7 (.pure 8 (.pure 9 (.eff 6 (.eff 10 (.eff 11 (.pure 12 (.pure 13 (.done))))))))))))))) _ (by kernel_rfl) (List.Sublist.refl _) ?_
              refine XR.rd rfl rfl rfl (Reads.move rfl) ?_
              refine XR.rd rfl rfl rfl (Reads.not rfl) ?_
              refine XR.rd rfl rfl rfl (Reads.move rfl) ?_
              refine XR.split (d := 140) rfl (fun h10 => ?_) (fun h10 => ?_)
              · skip
                have hcol : collF (hashA allK x (m + 1)) (hashA allK z (p + 1)) = true := hsm (by simpa using h10)
                refine XR.rd rfl (wg rfl rfl rfl) rfl (Reads.move rfl) ?_
                refine XR.rd rfl (wg rfl rfl rfl) rfl (Reads.load_whole k37 z37 rfl (by first | exact WholeAt.of 0 rfl | exact WholeAt.of 1 rfl | exact WholeAt.of 2 rfl | exact WholeAt.of 3 rfl | exact WholeAt.of 4 rfl | exact WholeAt.of 5 rfl | exact WholeAt.of 6 rfl) (by rfl)) ?_
                refine XR.rd rfl (wg rfl rfl rfl) rfl (Reads.move rfl) ?_
                refine XR.rd rfl (wg rfl rfl rfl) rfl (Reads.move rfl) ?_
                refine XR.rd rfl (wg rfl rfl rfl) rfl (Reads.load_whole k37 z37 rfl (by first | exact WholeAt.of 0 rfl | exact WholeAt.of 1 rfl | exact WholeAt.of 2 rfl | exact WholeAt.of 3 rfl | exact WholeAt.of 4 rfl | exact WholeAt.of 5 rfl | exact WholeAt.of 6 rfl) (by rfl)) ?_
                refine XR.rd rfl (wg rfl rfl rfl) rfl (Reads.move rfl) ?_
                refine XR.call rfl (wg rfl rfl rfl) rfl en27 (hashed_any x ab ak cb ck m allK _ hA (by omega) (formed_sz hf) hK allK_len allK_size (fun i hi => formed_c hf hi) (by omega)) ⟨rfl, rfl, rfl, trivial⟩ (List.Sublist.refl _) ?_
                rintro u J87 hle87 hr
                replace hI := Im.le_trans hI hle87
                replace hG := hG.mono hle87
                replace hK := hK.mono hle87
                replace hA := hA.mono hle87
                replace hY := hY.mono hle87
                replace hB := hB.mono hle87
                replace hZ := hZ.mono hle87
                obtain ⟨aH1, cH1, rfl, hc_H1, hH1⟩ := hr.ex
                refine XR.call rfl (wg rfl rfl rfl) rfl en27 (hashed_any z az ak cz ck p allK _ hZ (by omega) (formed_sz hzf) hK allK_len allK_size (fun i hi => formed_c hzf hi) (by omega)) ⟨rfl, rfl, rfl, trivial⟩ (List.Sublist.refl _) ?_
                rintro u J88 hle88 hr
                replace hI := Im.le_trans hI hle88
                replace hG := hG.mono hle88
                replace hK := hK.mono hle88
                replace hA := hA.mono hle88
                replace hY := hY.mono hle88
                replace hB := hB.mono hle88
                replace hZ := hZ.mono hle88
                replace hH1 := hH1.mono hle88
                obtain ⟨aH2, cH2, rfl, hc_H2, hH2⟩ := hr.ex
                refine XR.callp rfl (wg rfl rfl rfl) rfl en26 (shown_is hcol (rcoll_any _ _ _ _ _ _ _ hH1 hH2 (hashA_len_le (by omega)) (hashA_len_le (by omega)) (hashA_small (formed_sz hf) allK_len allK_size (fun i hi => formed_c hf hi) _ (by omega)) (hashA_small (formed_sz hzf) allK_len allK_size (fun i hi => formed_c hzf hi) _ (by omega)))) ⟨rfl, rfl, trivial⟩ (List.Sublist.refl _) ?_
                refine XR.rd rfl (wg rfl rfl rfl) rfl (Reads.not rfl) ?_
                refine XR.rd rfl rfl rfl (Reads.pick_true rfl rfl) ?_
                refine XR.nil ?_
                refine XQ.then_normal ?_
                refine XC.cond rfl (fun hx => by cases hx) (fun _ => ?_)
                refine XC.skip ?_
                refine XQ.block_normal ?_
                refine XQ.then_normal ?_
                refine XC.region ?_
                refine XO.rd rfl rfl rfl (Reads.add rfl rfl (by omega)) ?_
                refine XO.rd rfl rfl rfl (Reads.move rfl) ?_
                refine XO.nil ?_
                refine XQ.dropn 1 ?_
                refine XQ.back (i + 1, _) ⟨by simp only; omega, hI, hG, hK, hA, hY, hB⟩ (by simp only; omega) ⟨rfl, rfl, rfl, rfl, rfl, rfl, rfl, trivial⟩ rfl (List.Perm.refl _)
              · skip
                refine XR.s rfl (wg rfl rfl rfl) rfl ?_
                refine XR.s rfl (wg rfl rfl rfl) rfl ?_
                refine XR.s rfl (wg rfl rfl rfl) rfl ?_
                refine XR.s rfl (wg rfl rfl rfl) rfl ?_
                refine XR.s rfl (wg rfl rfl rfl) rfl ?_
                refine XR.s rfl (wg rfl rfl rfl) rfl ?_
                refine XR.se rfl (wg rfl rfl rfl) rfl (List.Sublist.refl _) ?_
                refine XR.se rfl (wg rfl rfl rfl) rfl (List.Sublist.refl _) ?_
                refine XR.se rfl (wg rfl rfl rfl) rfl (List.Sublist.refl _) ?_
                refine XR.s rfl (wg rfl rfl rfl) rfl ?_
                refine XR.rd rfl rfl rfl (Reads.pick_false rfl rfl) ?_
                refine XR.nil ?_
                refine XQ.then_normal ?_
                refine XC.cond rfl (fun hx => by cases hx) (fun _ => ?_)
                refine XC.skip ?_
                refine XQ.block_normal ?_
                refine XQ.then_normal ?_
                refine XC.region ?_
                refine XO.rd rfl rfl rfl (Reads.add rfl rfl (by omega)) ?_
                refine XO.rd rfl rfl rfl (Reads.move rfl) ?_
                refine XO.nil ?_
                refine XQ.dropn 1 ?_
                refine XQ.back (i + 1, _) ⟨by simp only; omega, hI, hG, hK, hA, hY, hB⟩ (by simp only; omega) ⟨rfl, rfl, rfl, rfl, rfl, rfl, rfl, trivial⟩ rfl (List.Perm.refl _)
  · skip
    simp only [cmpInt, decide_eq_false_iff_not] at h1
    refine XC.exit ?_
    refine XQ.then_exit ?_
    refine XQ.then_exit ?_
    refine XQ.block_exit ?_
    refine XQ.then_normal ?_
    refine XC.seq ?_
    refine XC.region ?_
    refine XO.rd rfl rfl rfl (Reads.move rfl) ?_
    refine XO.rd rfl rfl rfl (Reads.load_whole k37 z37 rfl (by first | exact WholeAt.of 0 rfl | exact WholeAt.of 1 rfl | exact WholeAt.of 2 rfl | exact WholeAt.of 3 rfl | exact WholeAt.of 4 rfl | exact WholeAt.of 5 rfl | exact WholeAt.of 6 rfl) (by rfl)) ?_
    refine XO.rd rfl rfl rfl (Reads.move rfl) ?_
    refine XO.callp rfl rfl en33 (shown_is hsI (shown_any x ab ak cb ck allK m _ hA (by omega) hK (by rw [allK_len]; decide) hG)) ⟨rfl, rfl, rfl, trivial⟩ ?_
    refine XO.rd rfl rfl rfl (Reads.assign rfl) ?_
    refine XO.nil ?_
    refine XQ.then_normal ?_
    refine XC.ret ?_
    refine XQ.dropn 5 ?_
    refine XQ.done1 (L := []) rfl rfl hI ?_
    exact ⟨rfl, rfl⟩

end Go.Proofs.YtmlliafhpbfdbaaDoor
