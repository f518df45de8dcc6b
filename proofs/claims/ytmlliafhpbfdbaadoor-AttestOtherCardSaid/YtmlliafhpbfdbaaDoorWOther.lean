/- Walk: AttestOther. -/
import Derived.Test.YtmlliafhpbfdbaaDoorMJ
import Derived.Test.YtmlliafhpbfdbaaDoorMI
import Derived.Test.YtmlliafhpbfdbaaDoorML
import Derived.Test.YtmlliafhpbfdbaaDoorD25
namespace Go.Proofs.YtmlliafhpbfdbaaDoor
open Go.Xe Go.Sh Go Go.At

set_option maxHeartbeats 1600000 in
theorem attestOther_any (n : Num) (a0 : Option Addr) (c0 : Nat) (da db dc dd : Int) (I : Im) (hn : n.In) (hC : Arr I a0 n.cars) (hcl : n.cars.length ≤ 9223372036854775807) (hG : Glob I) (hda : In64 da) (hdb : In64 db) (hdc : In64 dc) (hdd : In64 dd) : FC Tryd.prog 12 [.agg (n.cs a0 c0).toArray, .agg #[.int .i64 da, .int .i64 db, .int .i64 dc, .int .i64 dd]] I (fun u _I' => u = .bool true) := by
  have hI := Im.le_refl I
  obtain ⟨x, hx⟩ : ∃ x : Att, x = n.made := ⟨_, rfl⟩
  have hch := n.made_chain
  have hml := n.made_len
  rw [← hx] at hch hml
  have hf := hch.f
  have hsz := formed_sz hf
  refine FSo.intro (n := 56) Tryd.func12 rfl rfl rfl (fun K Lf => ?_)
  refine XC.seq ?_
  refine XC.region ?_
  refine XO.box_agg rfl rfl rfl (fun b2 => ?_)
  refine XO.box_agg rfl rfl rfl (fun b3 => ?_)
  refine XO.rd rfl rfl rfl (Reads.assign rfl) ?_
  refine XO.nil ?_
  refine XQ.then_normal ?_
  refine XC.seq ?_
  refine XC.seq ?_
  refine XC.region ?_
  refine XO.callp rfl rfl en13 (FC.pure (sane_any _ hG)) trivial ?_
  refine XO.rd rfl rfl rfl (Reads.not rfl) ?_
  refine XO.nil ?_
  refine XQ.then_normal ?_
  refine XC.cond rfl (fun hx => by cases hx) (fun _ => ?_)
  refine XC.skip ?_
  refine XQ.then_normal ?_
  refine XC.seq ?_
  refine XC.region ?_
  refine XO.call rfl rfl en15 (all_any _) trivial ?_
  rintro u J69 hle69 hr
  replace hI := Im.le_trans hI hle69
  replace hG := hG.mono hle69
  replace hC := hC.mono hle69
  obtain ⟨ak, ck, rfl, hc_hK, hK⟩ := hr.ex
  refine XO.rd rfl rfl rfl (Reads.assign rfl) ?_
  refine XO.nil ?_
  refine XQ.then_normal ?_
  refine XC.seq ?_
  refine XC.region ?_
  refine XO.rd rfl rfl rfl (Reads.load_whole k26 z26 rfl (by first | exact WholeAt.of 0 rfl | exact WholeAt.of 1 rfl | exact WholeAt.of 2 rfl | exact WholeAt.of 3 rfl | exact WholeAt.of 4 rfl) (by rfl)) ?_
  refine XO.call rfl rfl en18 (made_any n a0 c0 _ hn hC hcl) ⟨rfl, trivial⟩ ?_
  rintro u J70 hle70 hr
  replace hI := Im.le_trans hI hle70
  replace hG := hG.mono hle70
  replace hC := hC.mono hle70
  replace hK := hK.mono hle70
  rw [← hx] at hr
  obtain ⟨ab, cb, rfl, hcp_hA, hA⟩ := hr
  refine XO.alloc (cs := #[.int .i64 0, .int .i64 0, .int .i64 0, .int .i64 0, .slice none 0 0]) rfl rfl zo37 rfl (fun b6 => ?_)
  refine XO.store_agg (vs := (x).cs ab cb) 0 rfl z37 rfl rfl (by simp [Value.oneCell']) rfl (by simp) ?_
  refine XO.nil ?_
  refine XQ.then_normal ?_
  refine XC.seq ?_
  refine XC.join (ι := Nat) (fun q => [(5, .slice ak allK.length ck), (6, .pointer (some ⟨b6, 0, none⟩)), (7, .pointer (some ⟨q, 0, none⟩))]) (fun q => J70) (fun q => some (q, .cells (((⟨dialOf da db dc dd, x.hs⟩ : Att)).cs ab cb).toArray 37 (0, 0)) :: some (b6, .cells ((x).cs ab cb).toArray 37 (0, 0)) :: some (b3, .cells #[.int .i64 da, .int .i64 db, .int .i64 dc, .int .i64 dd] 22 (0, 0)) :: some (b2, .cells (n.cs a0 c0).toArray 26 (0, 0)) :: ([] ++ Lf)) (fun q => True) ?_ (fun b7 hb7 => ?_)
  · skip
    refine XC.draw m_mixed (some 6) (.pure 0 (.pure 2 (.pure 3 (.alt 1 (.pure 4 (.eff 5 (.eff 6 (.done)))) (.eff 5 (.eff 1 (.pure 4 (.eff 6 (.done))))))))) _ (by kernel_rfl) (List.Sublist.refl _) ?_
    refine XR.rd rfl rfl rfl (Reads.load_whole k22 z22 rfl (by first | exact WholeAt.of 0 rfl | exact WholeAt.of 1 rfl | exact WholeAt.of 2 rfl | exact WholeAt.of 3 rfl | exact WholeAt.of 4 rfl) (by rfl)) ?_
    refine XR.rd rfl rfl rfl (fa37_1 rfl) ?_
    refine XR.rd rfl rfl rfl (Reads.load_own k35 rfl (by first | exact OwnAt.of 0 rfl rfl | exact OwnAt.of 1 rfl rfl | exact OwnAt.of 2 rfl rfl | exact OwnAt.of 3 rfl rfl | exact OwnAt.of 4 rfl rfl)) ?_
    refine XR.alt ?_ ?_
    · skip
      refine XR.callp rfl rfl rfl en37 (dial_any _ _ _ _ _ hda hdb hdc hdd) ⟨rfl, trivial⟩ (List.Sublist.refl _) ?_
      refine XR.rd rfl rfl rfl (bd37v (dialOf da db dc dd) (.slice ab x.hs.length cb) ⟨_, _, _, rfl⟩ ⟨rfl, rfl, rfl, rfl, trivial⟩) ?_
      refine XR.alloc (cs := #[.int .i64 0, .int .i64 0, .int .i64 0, .int .i64 0, .slice none 0 0]) rfl rfl rfl zo37 rfl (List.Sublist.refl _) (fun b7 => ?_)
      refine XR.store_agg (vs := ((⟨dialOf da db dc dd, x.hs⟩ : Att)).cs ab cb) 0 rfl rfl z37 rfl rfl (by simp [Value.oneCell']) rfl (by simp) (.inl rfl) ?_
      refine XR.nil ?_
      refine XQ.joined b7 trivial ⟨rfl, rfl, rfl, trivial⟩ rfl (List.Perm.refl _)
    · skip
      refine XR.alloc (cs := #[.int .i64 0, .int .i64 0, .int .i64 0, .int .i64 0, .slice none 0 0]) rfl rfl rfl zo37 rfl (List.Sublist.refl _) (fun b7 => ?_)
      refine XR.callp rfl rfl rfl en37 (dial_any _ _ _ _ _ hda hdb hdc hdd) ⟨rfl, trivial⟩ (List.Sublist.cons _ (List.Sublist.refl _)) ?_
      refine XR.rd rfl rfl rfl (bd37v (dialOf da db dc dd) (.slice ab x.hs.length cb) ⟨_, _, _, rfl⟩ ⟨rfl, rfl, rfl, rfl, trivial⟩) ?_
      refine XR.store_agg (vs := ((⟨dialOf da db dc dd, x.hs⟩ : Att)).cs ab cb) 0 rfl rfl z37 rfl rfl (by simp [Value.oneCell']) rfl (by simp) (.inl rfl) ?_
      refine XR.nil ?_
      refine XQ.joined b7 trivial ⟨rfl, rfl, rfl, trivial⟩ rfl (List.Perm.refl _)
  · skip
    refine XQ.then_normal ?_
    refine XC.seq ?_
    refine XC.seq ?_
    refine XC.region ?_
    refine XO.rd rfl rfl rfl (Reads.assign rfl) ?_
    refine XO.nil ?_
    refine XQ.then_normal ?_
    refine XC.block ?_
    refine XC.loop (ι := Nat × Im) (fun q => [(5, .slice ak allK.length ck), (6, .pointer (some ⟨b6, 0, none⟩)), (7, .pointer (some ⟨b7, 0, none⟩)), (8, .int .i64 q.1)]) (fun q => q.2) (fun q => some (b7, .cells (((⟨dialOf da db dc dd, x.hs⟩ : Att)).cs ab cb).toArray 37 (0, 0)) :: some (b6, .cells ((x).cs ab cb).toArray 37 (0, 0)) :: some (b3, .cells #[.int .i64 da, .int .i64 db, .int .i64 dc, .int .i64 dd] 22 (0, 0)) :: some (b2, .cells (n.cs a0 c0).toArray 26 (0, 0)) :: ([] ++ Lf)) (fun q => q.1 ≤ x.hs.length ∧ I.le q.2 ∧ Glob q.2 ∧ Arr q.2 ak allK ∧ Arr q.2 ab x.hs) (fun q => x.hs.length - q.1) (0, _) ⟨Nat.zero_le _, hI, hG, hK, hA⟩ ⟨rfl, rfl, rfl, rfl, trivial⟩ rfl (List.Perm.refl _) (fun q hq => ?_)
    obtain ⟨i, M⟩ := q
    obtain ⟨hi1, hI, hG, hK, hA⟩ := hq
    simp only at hi1 hI hG hK hA ⊢
    refine XC.seq ?_
    refine XC.seq ?_
    refine XC.region ?_
    refine XO.rd rfl rfl rfl (Reads.move rfl) ?_
    refine XO.rd rfl rfl rfl (fa37_1 rfl) ?_
    refine XO.rd rfl rfl rfl (Reads.load_own k35 rfl (by first | exact OwnAt.of 0 rfl rfl | exact OwnAt.of 1 rfl rfl | exact OwnAt.of 2 rfl rfl | exact OwnAt.of 3 rfl rfl | exact OwnAt.of 4 rfl rfl)) ?_
    refine XO.rd rfl rfl rfl (Reads.len_slice Tryd.underlying35 rfl) ?_
    refine XO.rd rfl rfl rfl (Reads.cmp rfl rfl rfl) ?_
    refine XO.nil ?_
    refine XQ.then_normal ?_
    refine XC.cond rfl (fun h1 => ?_) (fun h1 => ?_)
    · skip
      simp only [cmpInt, decide_eq_true_eq] at h1
      have hi3 : i < x.hs.length := by omega
      have hsI := shownI_all hch hi3
      refine XC.skip ?_
      refine XQ.then_normal ?_
      refine XC.seq ?_
      refine XC.block ?_
      refine XC.seq ?_
      refine XC.seq ?_
      refine XC.region ?_
      refine XO.rd rfl rfl rfl (Reads.move rfl) ?_
      refine XO.rd rfl rfl rfl (Reads.load_whole k37 z37 rfl (by first | exact WholeAt.of 0 rfl | exact WholeAt.of 1 rfl | exact WholeAt.of 2 rfl | exact WholeAt.of 3 rfl | exact WholeAt.of 4 rfl) (by rfl)) ?_
      refine XO.rd rfl rfl rfl (Reads.move rfl) ?_
      refine XO.callp rfl rfl en33 (shown_is hsI (shown_any x ab ak cb ck allK i _ hA (by omega) hK (by rw [allK_len]; decide) hG)) ⟨rfl, rfl, rfl, trivial⟩ ?_
      refine XO.rd rfl rfl rfl (Reads.not rfl) ?_
      refine XO.nil ?_
      refine XQ.then_normal ?_
      refine XC.cond rfl (fun hx => by cases hx) (fun _ => ?_)
      refine XC.skip ?_
      refine XQ.then_normal ?_
      refine XC.seq ?_
      refine XC.region ?_
      refine XO.rd rfl rfl rfl (Reads.move rfl) ?_
      refine XO.rd rfl rfl rfl (Reads.load_whole k37 z37 rfl (by first | exact WholeAt.of 0 rfl | exact WholeAt.of 1 rfl | exact WholeAt.of 2 rfl | exact WholeAt.of 3 rfl | exact WholeAt.of 4 rfl) (by rfl)) ?_
      refine XO.rd rfl rfl rfl (Reads.move rfl) ?_
      refine XO.callp rfl rfl en33 (shown_any (⟨dialOf da db dc dd, x.hs⟩ : Att) ab ak cb ck allK i _ hA (by show x.hs.length ≤ _; omega) hK (by rw [allK_len]; decide) hG) ⟨rfl, rfl, rfl, trivial⟩ ?_
      refine XO.rd rfl rfl rfl (Reads.assign rfl) ?_
      refine XO.nil ?_
      refine XQ.then_normal ?_
      refine XC.seq ?_
      refine XC.seq ?_
      refine XC.region ?_
      refine XO.rd rfl rfl rfl (fa37_0 rfl) ?_
      refine XO.rd rfl rfl rfl (Reads.load_agg_own (vs := x.d.cs) k34 z34 rfl (fun j v hj => OwnAt.of 1 rfl (by rw [Nat.zero_add]; exact dial_at x ab cb hj))) ?_
      refine XO.rd rfl rfl rfl (fa37_0 rfl) ?_
      refine XO.rd rfl rfl rfl (Reads.load_agg_own (vs := (dialOf da db dc dd).cs) k34 z34 rfl (fun j v hj => OwnAt.of 0 rfl (by rw [Nat.zero_add]; exact dial_at (⟨dialOf da db dc dd, x.hs⟩ : Att) ab cb hj))) ?_
      refine XO.rd rfl rfl rfl (Reads.dial_eq (p := x.d) (q := dialOf da db dc dd) rfl rfl) ?_
      refine XO.nil ?_
      refine XQ.then_normal ?_
      refine XC.cond rfl (fun h2 => ?_) (fun h2 => ?_)
      · skip
        have hde : x.d = dialOf da db dc dd := by simpa using h2
        have hyx : (⟨dialOf da db dc dd, x.hs⟩ : Att) = x := by rw [← hde]
        have hsy : shownI allK (⟨dialOf da db dc dd, x.hs⟩ : Att) (i : Int) = true := by rw [hyx]; exact hsI
        rw [hsy]
        refine XC.seq ?_
        refine XC.seq ?_
        refine XC.region ?_
        refine XO.rd rfl rfl rfl (Reads.move rfl) ?_
        refine XO.rd rfl rfl rfl (Reads.not rfl) ?_
        refine XO.nil ?_
        refine XQ.then_normal ?_
        refine XC.cond rfl (fun hx => by cases hx) (fun _ => ?_)
        refine XC.skip ?_
        refine XQ.then_normal ?_
        refine XC.exit ?_
        refine XQ.then_exit ?_
        refine XQ.block_exit ?_
        refine XQ.then_normal ?_
        refine XC.region ?_
        refine XO.rd rfl rfl rfl (Reads.move rfl) ?_
        refine XO.rd rfl rfl rfl (Reads.add rfl rfl (by omega)) ?_
        refine XO.rd rfl rfl rfl (Reads.assign rfl) ?_
        refine XO.nil ?_
        refine XQ.back (i + 1, _) ⟨by simp only; omega, hI, hG, hK, hA⟩ (by simp only; omega) ⟨rfl, rfl, rfl, rfl, trivial⟩ rfl (List.Perm.refl _)
      · skip
        have hde : ¬ x.d = dialOf da db dc dd := by simpa using h2
        refine XC.skip ?_
        refine XQ.then_normal ?_
        refine XC.seq ?_
        refine XC.draw m_mixed none (.pure 0 (.pure 1 (.pure 2 (.pure 3 (.pure 4 (.pure 6 (.pure 7 (.pure 8 (.eff 5 (.eff 9 (.eff 10 (.pure 11 (.pure 12 (.done)))))))))))))) _ (by kernel_rfl) (List.Sublist.refl _) ?_
        refine XR.rd rfl rfl rfl (Reads.move rfl) ?_
        refine XR.rd rfl rfl rfl (Reads.move rfl) ?_
        refine XR.split (d := 44) rfl (fun h3 => ?_) (fun h3 => ?_)
        · skip
          have hsy : shownI allK (⟨dialOf da db dc dd, x.hs⟩ : Att) (i : Int) = true := h3
          have hfy := (shownI_iff hsy).1
          have hyl : (⟨dialOf da db dc dd, x.hs⟩ : Att).hs.length = x.hs.length := rfl
          have hcol := other_coll hch hde hsy
          refine XR.rd rfl (wg rfl rfl rfl) rfl (Reads.move rfl) ?_
          refine XR.rd rfl (wg rfl rfl rfl) rfl (Reads.load_whole k37 z37 rfl (by first | exact WholeAt.of 0 rfl | exact WholeAt.of 1 rfl | exact WholeAt.of 2 rfl | exact WholeAt.of 3 rfl | exact WholeAt.of 4 rfl) (by rfl)) ?_
          refine XR.rd rfl (wg rfl rfl rfl) rfl (Reads.move rfl) ?_
          refine XR.rd rfl (wg rfl rfl rfl) rfl (Reads.move rfl) ?_
          refine XR.rd rfl (wg rfl rfl rfl) rfl (Reads.load_whole k37 z37 rfl (by first | exact WholeAt.of 0 rfl | exact WholeAt.of 1 rfl | exact WholeAt.of 2 rfl | exact WholeAt.of 3 rfl | exact WholeAt.of 4 rfl) (by rfl)) ?_
          refine XR.rd rfl (wg rfl rfl rfl) rfl (Reads.move rfl) ?_
          refine XR.call rfl (wg rfl rfl rfl) rfl en27 (hashed_any x ab ak cb ck i allK _ hA (by omega) (formed_sz hf) hK allK_len allK_size (fun i hi => formed_c hf hi) (by omega)) ⟨rfl, rfl, rfl, trivial⟩ (List.Sublist.refl _) ?_
          rintro u J71 hle71 hr
          replace hI := Im.le_trans hI hle71
          replace hG := hG.mono hle71
          replace hK := hK.mono hle71
          replace hA := hA.mono hle71
          obtain ⟨aH1, cH1, rfl, hc_H1, hH1⟩ := hr.ex
          refine XR.call rfl (wg rfl rfl rfl) rfl en27 (hashed_any (⟨dialOf da db dc dd, x.hs⟩ : Att) ab ak cb ck i allK _ hA (by omega) (formed_sz hfy) hK allK_len allK_size (fun i hi => formed_c hfy hi) (by omega)) ⟨rfl, rfl, rfl, trivial⟩ (List.Sublist.refl _) ?_
          rintro u J72 hle72 hr
          replace hI := Im.le_trans hI hle72
          replace hG := hG.mono hle72
          replace hK := hK.mono hle72
          replace hA := hA.mono hle72
          replace hH1 := hH1.mono hle72
          obtain ⟨aH2, cH2, rfl, hc_H2, hH2⟩ := hr.ex
          refine XR.callp rfl (wg rfl rfl rfl) rfl en26 (shown_is hcol (rcoll_any _ _ _ _ _ _ _ hH1 hH2 (hashA_len_le (by omega)) (hashA_len_le (by omega)) (hashA_small (formed_sz hf) allK_len allK_size (fun i hi => formed_c hf hi) _ (by omega)) (hashA_small (formed_sz hfy) allK_len allK_size (fun i hi => formed_c hfy hi) _ (by omega)))) ⟨rfl, rfl, trivial⟩ (List.Sublist.refl _) ?_
          refine XR.rd rfl (wg rfl rfl rfl) rfl (Reads.not rfl) ?_
          refine XR.rd rfl rfl rfl (Reads.pick_true rfl rfl) ?_
          refine XR.nil ?_
          refine XQ.then_normal ?_
          refine XC.cond rfl (fun hx => by cases hx) (fun _ => ?_)
          refine XC.skip ?_
          refine XQ.block_normal ?_
          refine XQ.then_normal ?_
          refine XC.region ?_
          refine XO.rd rfl rfl rfl (Reads.move rfl) ?_
          refine XO.rd rfl rfl rfl (Reads.add rfl rfl (by omega)) ?_
          refine XO.rd rfl rfl rfl (Reads.assign rfl) ?_
          refine XO.nil ?_
          refine XQ.back (i + 1, _) ⟨by simp only; omega, hI, hG, hK, hA⟩ (by simp only; omega) ⟨rfl, rfl, rfl, rfl, trivial⟩ rfl (List.Perm.refl _)
        · skip
          refine XR.s rfl (wg rfl rfl rfl) rfl ?_
          refine XR.s rfl (wg rfl rfl rfl) rfl ?_
          refine XR.s rfl (wg rfl rfl rfl) rfl ?_
          refine XR.s rfl (wg rfl rfl rfl) rfl ?_
          refine XR.s rfl (wg rfl rfl rfl) rfl ?_
          refine XR.s rfl (wg rfl rfl rfl) rfl ?_
          refine XR.se rfl (wg rfl rfl rfl) rfl (List.Sublist.refl _) ?_
          refine XR.se rfl (wg rfl rfl rfl) rfl (List.Sublist.refl _) ?_
          refine XR.se rfl (wg rfl rfl rfl) rfl (List.Sublist.refl _) ?_
          refine XR.s rfl (wg rfl rfl rfl) rfl ?_
          refine XR.rd rfl rfl rfl (Reads.pick_false rfl rfl) ?_
          refine XR.nil ?_
          refine XQ.then_normal ?_
          refine XC.cond rfl (fun hx => by cases hx) (fun _ => ?_)
          refine XC.skip ?_
          refine XQ.block_normal ?_
          refine XQ.then_normal ?_
          refine XC.region ?_
          refine XO.rd rfl rfl rfl (Reads.move rfl) ?_
          refine XO.rd rfl rfl rfl (Reads.add rfl rfl (by omega)) ?_
          refine XO.rd rfl rfl rfl (Reads.assign rfl) ?_
          refine XO.nil ?_
          refine XQ.back (i + 1, _) ⟨by simp only; omega, hI, hG, hK, hA⟩ (by simp only; omega) ⟨rfl, rfl, rfl, rfl, trivial⟩ rfl (List.Perm.refl _)
    · skip
      simp only [cmpInt, decide_eq_false_iff_not] at h1
      refine XC.exit ?_
      refine XQ.then_exit ?_
      refine XQ.then_exit ?_
      refine XQ.block_exit ?_
      refine XQ.then_normal ?_
      refine XC.seq ?_
      refine XC.region ?_
      refine XO.rd rfl rfl rfl (Reads.assign rfl) ?_
      refine XO.nil ?_
      refine XQ.then_normal ?_
      refine XC.ret ?_
      refine XQ.dropn 4 ?_
      refine XQ.done1 (L := []) rfl rfl hI ?_
      exact ⟨rfl, rfl⟩

end Go.Proofs.YtmlliafhpbfdbaaDoor
