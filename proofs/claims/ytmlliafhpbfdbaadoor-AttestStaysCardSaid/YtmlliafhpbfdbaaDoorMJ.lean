/- Walk: the chapter's example. Walk: the chapter's examples. -/
import Derived.Test.YtmlliafhpbfdbaaDoorMF
import Derived.Test.YtmlliafhpbfdbaaDoorMH
import Derived.Test.YtmlliafhpbfdbaaDoorMK
import Derived.Test.YtmlliafhpbfdbaaDoorME
import Derived.Test.YtmlliafhpbfdbaaDoorMG
namespace Go.Proofs.YtmlliafhpbfdbaaDoor
open Go.Xe Go.Sh Go Go.At

set_option maxHeartbeats 1600000 in
theorem example_any (ak : Option Addr) (ck : Nat) (I : Im) (hK : Arr I ak allK) (hG : Glob I) : FC Tryd.prog 45 [.slice ak allK.length ck] I (fun u I' => ∃ a c, u = .tuple #[.agg (ex3.cs a c).toArray, .bool true] ∧ ex3.hs.length ≤ c ∧ Arr I' a ex3.hs) := by
  have hI := Im.le_refl I
  refine FSo.intro (n := 55) Tryd.func45 rfl rfl rfl (fun K Lf => ?_)
  refine XC.seq ?_
  refine XC.region ?_
  refine XO.alloc (cs := #[.int .i64 0, .int .i64 0, .int .i64 0, .int .i64 0, .slice none 0 0]) rfl rfl zo37 rfl (fun b2 => ?_)
  refine XO.rd rfl rfl rfl (Reads.assign rfl) ?_
  refine XO.nil ?_
  refine XQ.then_normal ?_
  refine XC.seq ?_
  refine XC.region ?_
  refine XO.rd rfl rfl rfl (Reads.move rfl) ?_
  refine XO.rd rfl rfl rfl (Reads.index_slot (q := 1) Tryd.underlying29 z9 rfl rfl (by rw [allK_len]; decide) (hK.isSome (by decide) (by rw [allK_len]; decide)) rfl) ?_
  refine XO.rd rfl rfl rfl (Reads.load_at (v := .string (keyC 1)) k9 rfl (by rw [← allK_get (i := 1) (by decide)]; exact hK.str_at (by rw [allK_len]; decide) rfl)) ?_
  refine XO.rd rfl rfl rfl (bd34 (vs := [(0, .int .i64 5), (1, .int .i64 6), (2, .int .i64 10), (3, .int .i64 7)]) exD.cs.toArray ⟨rfl, rfl, rfl, rfl, rfl, rfl, rfl, rfl, trivial⟩ rfl) ?_
  refine XO.call rfl rfl en38 (begin_any (keyC 1) exD 1 3 _ (by rw [keyC_size]; decide) hG) ⟨rfl, rfl, rfl, rfl, trivial⟩ ?_
  rintro u J16 hle16 hr
  replace hI := Im.le_trans hI hle16
  replace hG := hG.mono hle16
  replace hK := hK.mono hle16
  rw [ex1_ok.1] at hr
  obtain ⟨v9, e9, rfl, hy9, _⟩ := hr
  obtain ⟨rfl, a4, c4, rfl, hcp_hA4, hA4⟩ := hy9 _ rfl
  refine XO.rd rfl rfl rfl (Reads.move rfl) ?_
  refine XO.rd rfl rfl rfl (Reads.extract rfl rfl) ?_
  refine XO.rd rfl rfl rfl (Reads.extract rfl rfl) ?_
  refine XO.alloc (cs := #[.int .i64 0, .int .i64 0, .int .i64 0, .int .i64 0, .slice none 0 0]) rfl rfl zo37 rfl (fun b4 => ?_)
  refine XO.store_agg (vs := (ex1).cs a4 c4) 0 rfl z37 rfl rfl (by simp [Value.oneCell']) rfl (by simp) ?_
  refine XO.rd rfl rfl rfl (Reads.assign rfl) ?_
  refine XO.nil ?_
  refine XQ.then_normal ?_
  refine XC.seq ?_
  refine XC.join (ι := Im × Option Addr × Nat × Nat) (fun q => [(0, .slice ak allK.length ck), (2, .pointer (some ⟨b2, 0, none⟩)), (5, .int .i64 0), (6, .pointer (some ⟨q.2.2.2, 0, none⟩)), (7, .int .i64 0)]) (fun q => q.1) (fun q => some (q.2.2.2, .cells ((ex2).cs q.2.1 q.2.2.1).toArray 37 (0, 0)) :: some (b4, .cells ((ex1).cs a4 c4).toArray 37 (0, 0)) :: some (b2, .cells #[.int .i64 0, .int .i64 0, .int .i64 0, .int .i64 0, .slice none 0 0] 37 (0, 0)) :: ([] ++ Lf)) (fun q => I.le q.1 ∧ Glob q.1 ∧ Arr q.1 ak allK ∧ (ex2).hs.length ≤ q.2.2.1 ∧ Arr q.1 q.2.1 (ex2).hs) ?_ (fun q hq => ?_)
  · skip
    refine XC.draw m_mixed none (.pure 0 (.pure 1 (.pure 2 (.pure 3 (.pure 5 (.alt 4 (.alt 6 (.pure 7 (.pure 8 (.pure 9 (.eff 10 (.eff 11 (.pure 12 (.done))))))) (.eff 10 (.eff 6 (.pure 7 (.pure 8 (.pure 9 (.eff 11 (.pure 12 (.done))))))))) (.eff 10 (.eff 4 (.eff 6 (.pure 7 (.pure 8 (.pure 9 (.eff 11 (.pure 12 (.done))))))))))))))) _ (by kernel_rfl) (List.Sublist.refl _) ?_
    refine XR.rd rfl rfl rfl (Reads.move rfl) ?_
    refine XR.rd rfl rfl rfl (Reads.index_slot (q := 2) Tryd.underlying29 z9 rfl rfl (by rw [allK_len]; decide) (hK.isSome (by decide) (by rw [allK_len]; decide)) rfl) ?_
    refine XR.rd rfl rfl rfl (Reads.load_at (v := .string (keyC 2)) k9 rfl (by rw [← allK_get (i := 2) (by decide)]; exact hK.str_at (by rw [allK_len]; decide) rfl)) ?_
    refine XR.rd rfl rfl rfl (Reads.move rfl) ?_
    refine XR.rd rfl rfl rfl (Reads.load_whole k37 z37 rfl (by first | exact WholeAt.of 0 rfl | exact WholeAt.of 1 rfl | exact WholeAt.of 2 rfl | exact WholeAt.of 3 rfl | exact WholeAt.of 4 rfl) (by rfl)) ?_
    refine XR.alt ?_ ?_
    · skip
      refine XR.call rfl rfl rfl en14 (known_any ak ck allK 2 _ hK (by rw [allK_len]; decide)) ⟨rfl, rfl, trivial⟩ (List.Sublist.refl _) ?_
      rintro u J17 hle17 hr
      replace hI := Im.le_trans hI hle17
      replace hG := hG.mono hle17
      replace hK := hK.mono hle17
      replace hA4 := hA4.mono hle17
      obtain ⟨ak2, ck2, rfl, hc_hK2, hK2⟩ := hr.ex
      refine XR.alt ?_ ?_
      · skip
        refine XR.call rfl rfl rfl en40 (pass_any (keyC 2) ex1 a4 ak2 c4 ck2 (known allK 2) 2 _ hA4 (by decide) hK2 (by rw [known_len, allK_len]; decide) (by rw [keyC_size]; decide) hG) ⟨rfl, rfl, rfl, rfl, trivial⟩ (List.Sublist.refl _) ?_
        rintro u J18 hle18 hr
        replace hI := Im.le_trans hI hle18
        replace hG := hG.mono hle18
        replace hK := hK.mono hle18
        replace hA4 := hA4.mono hle18
        replace hK2 := hK2.mono hle18
        rw [ex2_ok.1] at hr
        obtain ⟨v9, e9, rfl, hy9, _⟩ := hr
        obtain ⟨rfl, a6, c6, rfl, hcp_hA6, hA6⟩ := hy9 _ rfl
        refine XR.rd rfl rfl rfl (Reads.move rfl) ?_
        refine XR.rd rfl rfl rfl (Reads.extract rfl rfl) ?_
        refine XR.rd rfl rfl rfl (Reads.extract rfl rfl) ?_
        refine XR.alloc (cs := #[.int .i64 0, .int .i64 0, .int .i64 0, .int .i64 0, .slice none 0 0]) rfl rfl rfl zo37 rfl (List.Sublist.refl _) (fun b6 => ?_)
        refine XR.store_agg (vs := (ex2).cs a6 c6) 0 rfl rfl z37 rfl rfl (by simp [Value.oneCell']) rfl (by simp) (.inr (List.Sublist.cons _ (List.Sublist.refl _))) ?_
        refine XR.rd rfl rfl rfl (Reads.assign rfl) ?_
        refine XR.nil ?_
        refine XQ.joined (_, a6, c6, b6) ⟨hI, hG, hK, hcp_hA6, hA6⟩ ⟨rfl, rfl, rfl, rfl, rfl, trivial⟩ rfl (List.Perm.refl _)
      · skip
        refine XR.alloc (cs := #[.int .i64 0, .int .i64 0, .int .i64 0, .int .i64 0, .slice none 0 0]) rfl rfl rfl zo37 rfl (List.Sublist.refl _) (fun b6 => ?_)
        refine XR.call rfl rfl rfl en40 (pass_any (keyC 2) ex1 a4 ak2 c4 ck2 (known allK 2) 2 _ hA4 (by decide) hK2 (by rw [known_len, allK_len]; decide) (by rw [keyC_size]; decide) hG) ⟨rfl, rfl, rfl, rfl, trivial⟩ (List.Sublist.cons _ (List.Sublist.refl _)) ?_
        rintro u J19 hle19 hr
        replace hI := Im.le_trans hI hle19
        replace hG := hG.mono hle19
        replace hK := hK.mono hle19
        replace hA4 := hA4.mono hle19
        replace hK2 := hK2.mono hle19
        rw [ex2_ok.1] at hr
        obtain ⟨v9, e9, rfl, hy9, _⟩ := hr
        obtain ⟨rfl, a6, c6, rfl, hcp_hA6, hA6⟩ := hy9 _ rfl
        refine XR.rd rfl rfl rfl (Reads.move rfl) ?_
        refine XR.rd rfl rfl rfl (Reads.extract rfl rfl) ?_
        refine XR.rd rfl rfl rfl (Reads.extract rfl rfl) ?_
        refine XR.store_agg (vs := (ex2).cs a6 c6) 0 rfl rfl z37 rfl rfl (by simp [Value.oneCell']) rfl (by simp) (.inr (List.Sublist.cons _ (List.Sublist.refl _))) ?_
        refine XR.rd rfl rfl rfl (Reads.assign rfl) ?_
        refine XR.nil ?_
        refine XQ.joined (_, a6, c6, b6) ⟨hI, hG, hK, hcp_hA6, hA6⟩ ⟨rfl, rfl, rfl, rfl, rfl, trivial⟩ rfl (List.Perm.refl _)
    · skip
      refine XR.alloc (cs := #[.int .i64 0, .int .i64 0, .int .i64 0, .int .i64 0, .slice none 0 0]) rfl rfl rfl zo37 rfl (List.Sublist.refl _) (fun b6 => ?_)
      refine XR.call rfl rfl rfl en14 (known_any ak ck allK 2 _ hK (by rw [allK_len]; decide)) ⟨rfl, rfl, trivial⟩ (List.Sublist.cons _ (List.Sublist.refl _)) ?_
      rintro u J20 hle20 hr
      replace hI := Im.le_trans hI hle20
      replace hG := hG.mono hle20
      replace hK := hK.mono hle20
      replace hA4 := hA4.mono hle20
      obtain ⟨ak2, ck2, rfl, hc_hK2, hK2⟩ := hr.ex
      refine XR.call rfl rfl rfl en40 (pass_any (keyC 2) ex1 a4 ak2 c4 ck2 (known allK 2) 2 _ hA4 (by decide) hK2 (by rw [known_len, allK_len]; decide) (by rw [keyC_size]; decide) hG) ⟨rfl, rfl, rfl, rfl, trivial⟩ (List.Sublist.cons _ (List.Sublist.refl _)) ?_
      rintro u J21 hle21 hr
      replace hI := Im.le_trans hI hle21
      replace hG := hG.mono hle21
      replace hK := hK.mono hle21
      replace hA4 := hA4.mono hle21
      replace hK2 := hK2.mono hle21
      rw [ex2_ok.1] at hr
      obtain ⟨v9, e9, rfl, hy9, _⟩ := hr
      obtain ⟨rfl, a6, c6, rfl, hcp_hA6, hA6⟩ := hy9 _ rfl
      refine XR.rd rfl rfl rfl (Reads.move rfl) ?_
      refine XR.rd rfl rfl rfl (Reads.extract rfl rfl) ?_
      refine XR.rd rfl rfl rfl (Reads.extract rfl rfl) ?_
      refine XR.store_agg (vs := (ex2).cs a6 c6) 0 rfl rfl z37 rfl rfl (by simp [Value.oneCell']) rfl (by simp) (.inr (List.Sublist.cons _ (List.Sublist.refl _))) ?_
      refine XR.rd rfl rfl rfl (Reads.assign rfl) ?_
      refine XR.nil ?_
      refine XQ.joined (_, a6, c6, b6) ⟨hI, hG, hK, hcp_hA6, hA6⟩ ⟨rfl, rfl, rfl, rfl, rfl, trivial⟩ rfl (List.Perm.refl _)
  · skip
    obtain ⟨M6, a6, c6, b6⟩ := q
    obtain ⟨hI, hG, hK, hcp_hA6, hA6⟩ := hq
    simp only at hI hG hK hcp_hA6 hA6 ⊢
    refine XQ.then_normal ?_
    refine XC.seq ?_
    refine XC.join (ι := Im × Option Addr × Nat × Nat) (fun q => [(2, .pointer (some ⟨b2, 0, none⟩)), (5, .int .i64 0), (7, .int .i64 0), (8, .pointer (some ⟨q.2.2.2, 0, none⟩)), (9, .int .i64 0)]) (fun q => q.1) (fun q => some (q.2.2.2, .cells ((ex3).cs q.2.1 q.2.2.1).toArray 37 (0, 0)) :: some (b6, .cells ((ex2).cs a6 c6).toArray 37 (0, 0)) :: some (b4, .cells ((ex1).cs a4 c4).toArray 37 (0, 0)) :: some (b2, .cells #[.int .i64 0, .int .i64 0, .int .i64 0, .int .i64 0, .slice none 0 0] 37 (0, 0)) :: ([] ++ Lf)) (fun q => I.le q.1 ∧ Glob q.1 ∧ Arr q.1 ak allK ∧ (ex3).hs.length ≤ q.2.2.1 ∧ Arr q.1 q.2.1 (ex3).hs) ?_ (fun q hq => ?_)
    · skip
      refine XC.draw m_mixed none (.pure 0 (.pure 1 (.pure 2 (.pure 3 (.pure 5 (.alt 4 (.alt 6 (.pure 7 (.pure 8 (.pure 9 (.eff 10 (.eff 11 (.pure 12 (.done))))))) (.eff 10 (.eff 6 (.pure 7 (.pure 8 (.pure 9 (.eff 11 (.pure 12 (.done))))))))) (.eff 10 (.eff 4 (.eff 6 (.pure 7 (.pure 8 (.pure 9 (.eff 11 (.pure 12 (.done))))))))))))))) _ (by kernel_rfl) (List.Sublist.refl _) ?_
      refine XR.rd rfl rfl rfl (Reads.move rfl) ?_
      refine XR.rd rfl rfl rfl (Reads.index_slot (q := 3) Tryd.underlying29 z9 rfl rfl (by rw [allK_len]; decide) (hK.isSome (by decide) (by rw [allK_len]; decide)) rfl) ?_
      refine XR.rd rfl rfl rfl (Reads.load_at (v := .string (keyC 3)) k9 rfl (by rw [← allK_get (i := 3) (by decide)]; exact hK.str_at (by rw [allK_len]; decide) rfl)) ?_
      refine XR.rd rfl rfl rfl (Reads.move rfl) ?_
      refine XR.rd rfl rfl rfl (Reads.load_whole k37 z37 rfl (by first | exact WholeAt.of 0 rfl | exact WholeAt.of 1 rfl | exact WholeAt.of 2 rfl | exact WholeAt.of 3 rfl | exact WholeAt.of 4 rfl) (by rfl)) ?_
      refine XR.alt ?_ ?_
      · skip
        refine XR.call rfl rfl rfl en14 (known_any ak ck allK 0 _ hK (by rw [allK_len]; decide)) ⟨rfl, rfl, trivial⟩ (List.Sublist.refl _) ?_
        rintro u J22 hle22 hr
        replace hI := Im.le_trans hI hle22
        replace hG := hG.mono hle22
        replace hK := hK.mono hle22
        replace hA6 := hA6.mono hle22
        obtain ⟨ak3, ck3, rfl, hc_hK3, hK3⟩ := hr.ex
        refine XR.alt ?_ ?_
        · skip
          refine XR.call rfl rfl rfl en40 (pass_any (keyC 3) ex2 a6 ak3 c6 ck3 (known allK 0) 3 _ hA6 (by decide) hK3 (by rw [known_len, allK_len]; decide) (by rw [keyC_size]; decide) hG) ⟨rfl, rfl, rfl, rfl, trivial⟩ (List.Sublist.refl _) ?_
          rintro u J23 hle23 hr
          replace hI := Im.le_trans hI hle23
          replace hG := hG.mono hle23
          replace hK := hK.mono hle23
          replace hA6 := hA6.mono hle23
          replace hK3 := hK3.mono hle23
          rw [ex3_ok.1] at hr
          obtain ⟨v9, e9, rfl, hy9, _⟩ := hr
          obtain ⟨rfl, a8, c8, rfl, hcp_hA8, hA8⟩ := hy9 _ rfl
          refine XR.rd rfl rfl rfl (Reads.move rfl) ?_
          refine XR.rd rfl rfl rfl (Reads.extract rfl rfl) ?_
          refine XR.rd rfl rfl rfl (Reads.extract rfl rfl) ?_
          refine XR.alloc (cs := #[.int .i64 0, .int .i64 0, .int .i64 0, .int .i64 0, .slice none 0 0]) rfl rfl rfl zo37 rfl (List.Sublist.refl _) (fun b8 => ?_)
          refine XR.store_agg (vs := (ex3).cs a8 c8) 0 rfl rfl z37 rfl rfl (by simp [Value.oneCell']) rfl (by simp) (.inr (List.Sublist.cons _ (List.Sublist.refl _))) ?_
          refine XR.rd rfl rfl rfl (Reads.assign rfl) ?_
          refine XR.nil ?_
          refine XQ.joined (_, a8, c8, b8) ⟨hI, hG, hK, hcp_hA8, hA8⟩ ⟨rfl, rfl, rfl, rfl, rfl, trivial⟩ rfl (List.Perm.refl _)
        · skip
          refine XR.alloc (cs := #[.int .i64 0, .int .i64 0, .int .i64 0, .int .i64 0, .slice none 0 0]) rfl rfl rfl zo37 rfl (List.Sublist.refl _) (fun b8 => ?_)
          refine XR.call rfl rfl rfl en40 (pass_any (keyC 3) ex2 a6 ak3 c6 ck3 (known allK 0) 3 _ hA6 (by decide) hK3 (by rw [known_len, allK_len]; decide) (by rw [keyC_size]; decide) hG) ⟨rfl, rfl, rfl, rfl, trivial⟩ (List.Sublist.cons _ (List.Sublist.refl _)) ?_
          rintro u J24 hle24 hr
          replace hI := Im.le_trans hI hle24
          replace hG := hG.mono hle24
          replace hK := hK.mono hle24
          replace hA6 := hA6.mono hle24
          replace hK3 := hK3.mono hle24
          rw [ex3_ok.1] at hr
          obtain ⟨v9, e9, rfl, hy9, _⟩ := hr
          obtain ⟨rfl, a8, c8, rfl, hcp_hA8, hA8⟩ := hy9 _ rfl
          refine XR.rd rfl rfl rfl (Reads.move rfl) ?_
          refine XR.rd rfl rfl rfl (Reads.extract rfl rfl) ?_
          refine XR.rd rfl rfl rfl (Reads.extract rfl rfl) ?_
          refine XR.store_agg (vs := (ex3).cs a8 c8) 0 rfl rfl z37 rfl rfl (by simp [Value.oneCell']) rfl (by simp) (.inr (List.Sublist.cons _ (List.Sublist.refl _))) ?_
          refine XR.rd rfl rfl rfl (Reads.assign rfl) ?_
          refine XR.nil ?_
          refine XQ.joined (_, a8, c8, b8) ⟨hI, hG, hK, hcp_hA8, hA8⟩ ⟨rfl, rfl, rfl, rfl, rfl, trivial⟩ rfl (List.Perm.refl _)
      · skip
        refine XR.alloc (cs := #[.int .i64 0, .int .i64 0, .int .i64 0, .int .i64 0, .slice none 0 0]) rfl rfl rfl zo37 rfl (List.Sublist.refl _) (fun b8 => ?_)
        refine XR.call rfl rfl rfl en14 (known_any ak ck allK 0 _ hK (by rw [allK_len]; decide)) ⟨rfl, rfl, trivial⟩ (List.Sublist.cons _ (List.Sublist.refl _)) ?_
        rintro u J25 hle25 hr
        replace hI := Im.le_trans hI hle25
        replace hG := hG.mono hle25
        replace hK := hK.mono hle25
        replace hA6 := hA6.mono hle25
        obtain ⟨ak3, ck3, rfl, hc_hK3, hK3⟩ := hr.ex
        refine XR.call rfl rfl rfl en40 (pass_any (keyC 3) ex2 a6 ak3 c6 ck3 (known allK 0) 3 _ hA6 (by decide) hK3 (by rw [known_len, allK_len]; decide) (by rw [keyC_size]; decide) hG) ⟨rfl, rfl, rfl, rfl, trivial⟩ (List.Sublist.cons _ (List.Sublist.refl _)) ?_
        rintro u J26 hle26 hr
        replace hI := Im.le_trans hI hle26
        replace hG := hG.mono hle26
        replace hK := hK.mono hle26
        replace hA6 := hA6.mono hle26
        replace hK3 := hK3.mono hle26
        rw [ex3_ok.1] at hr
        obtain ⟨v9, e9, rfl, hy9, _⟩ := hr
        obtain ⟨rfl, a8, c8, rfl, hcp_hA8, hA8⟩ := hy9 _ rfl
        refine XR.rd rfl rfl rfl (Reads.move rfl) ?_
        refine XR.rd rfl rfl rfl (Reads.extract rfl rfl) ?_
        refine XR.rd rfl rfl rfl (Reads.extract rfl rfl) ?_
        refine XR.store_agg (vs := (ex3).cs a8 c8) 0 rfl rfl z37 rfl rfl (by simp [Value.oneCell']) rfl (by simp) (.inr (List.Sublist.cons _ (List.Sublist.refl _))) ?_
        refine XR.rd rfl rfl rfl (Reads.assign rfl) ?_
        refine XR.nil ?_
        refine XQ.joined (_, a8, c8, b8) ⟨hI, hG, hK, hcp_hA8, hA8⟩ ⟨rfl, rfl, rfl, rfl, rfl, trivial⟩ rfl (List.Perm.refl _)
    · skip
      obtain ⟨M8, a8, c8, b8⟩ := q
      obtain ⟨hI, hG, hK, hcp_hA8, hA8⟩ := hq
      simp only at hI hG hK hcp_hA8 hA8 ⊢
      refine XQ.then_normal ?_
      refine XC.seq ?_
      refine XC.draw m_mixed none (.pure 0 (.pure 1 (.pure 2 (.pure 3 (.pure 4 (.pure 5 (.pure 6 (.pure 7 (.pure 8 (.pure 9 (.pure 10 (.pure 11 (.pure 12 (.pure 13 (.pure 14 (.pure 15 (.pure 16 (.eff 17 (.pure 18 (.done)))))))))))))))))))) [some (b8, .cells ((ex3).cs a8 c8).toArray 37 (0, 0))] (by kernel_rfl) (List.Sublist.cons_cons _ (List.nil_sublist _)) ?_
      refine XR.rd rfl rfl rfl (Reads.load_whole k37 z37 rfl (by first | exact WholeAt.of 0 rfl | exact WholeAt.of 1 rfl | exact WholeAt.of 2 rfl | exact WholeAt.of 3 rfl | exact WholeAt.of 4 rfl) (by rfl)) ?_
      refine XR.rd rfl rfl rfl (Reads.move rfl) ?_
      refine XR.rd rfl rfl rfl (Reads.cmp_yes rfl rfl rfl rfl) ?_
      refine XR.rd rfl rfl rfl (Reads.move rfl) ?_
      refine XR.rd rfl (wg rfl rfl rfl) rfl (Reads.move rfl) ?_
      refine XR.rd rfl (wg rfl rfl rfl) rfl (Reads.cmp_yes rfl rfl rfl rfl) ?_
      refine XR.rd rfl rfl rfl (Reads.pick_true rfl rfl) ?_
      refine XR.rd rfl rfl rfl (Reads.move rfl) ?_
      refine XR.rd rfl (wg rfl rfl rfl) rfl (Reads.move rfl) ?_
      refine XR.rd rfl (wg rfl rfl rfl) rfl (Reads.cmp_yes rfl rfl rfl rfl) ?_
      refine XR.rd rfl rfl rfl (Reads.pick_true rfl rfl) ?_
      refine XR.rd rfl rfl rfl (Reads.move rfl) ?_
      refine XR.rd rfl (wg rfl rfl rfl) rfl (fa37_1 rfl) ?_
      refine XR.rd rfl (wg rfl rfl rfl) rfl (Reads.load_own k35 rfl (by first | exact OwnAt.of 0 rfl rfl | exact OwnAt.of 1 rfl rfl | exact OwnAt.of 2 rfl rfl | exact OwnAt.of 3 rfl rfl | exact OwnAt.of 4 rfl rfl)) ?_
      refine XR.rd rfl (wg rfl rfl rfl) rfl (Reads.len_slice Tryd.underlying35 rfl) ?_
      refine XR.rd rfl (wg rfl rfl rfl) rfl (Reads.cmp_yes rfl rfl rfl rfl) ?_
      refine XR.rd rfl rfl rfl (Reads.pick_true rfl rfl) ?_
      refine XR.store_agg (vs := (ex3).cs a8 c8) 3 rfl rfl z37 rfl rfl (by simp [Value.oneCell']) rfl (by simp) (.inr (List.Sublist.cons_cons _ (List.nil_sublist _))) ?_
      refine XR.rd rfl rfl rfl (Reads.assign rfl) ?_
      refine XR.nil ?_
      refine XQ.then_normal ?_
      refine XC.ret ?_
      refine XQ.done2ca [] 4 rfl k37 z37 rfl rfl (WholeAt.of 3 rfl) rfl rfl hI ?_
      exact ⟨rfl, a8, c8, rfl, hcp_hA8, hA8⟩

end Go.Proofs.YtmlliafhpbfdbaaDoor
namespace Go.Proofs.YtmlliafhpbfdbaaDoor
open Go.Xe Go.Sh Go Go.At Go.RowKit

theorem check_is {f : FuncId} {vs : List Value} {keys : List ByteArray} {x : Att} {l b e : Int} {I : Im} (h : check keys x = (l, b, e)) (hc : FC Tryd.prog f vs I (fun u I' => u = .tuple #[.int .i64 (check keys x).1, .int .i64 (check keys x).2.1, .int .i64 (check keys x).2.2] ∧ I' = I)) : FC Tryd.prog f vs I (fun u I' => u = .tuple #[.int .i64 l, .int .i64 b, .int .i64 e] ∧ I' = I) := by
  rw [h] at hc; exact hc
theorem blame_is {f : FuncId} {vs : List Value} {keys : List ByteArray} {knows : List Int} {x : Att} {b e : Int} {I : Im} (h : blame keys knows x = (b, e)) (hc : FC Tryd.prog f vs I (fun u I' => u = .tuple #[.int .i64 (blame keys knows x).1, .int .i64 (blame keys knows x).2] ∧ I' = I)) : FC Tryd.prog f vs I (fun u I' => u = .tuple #[.int .i64 b, .int .i64 e] ∧ I' = I) := by
  rw [h] at hc; exact hc
theorem shown_is {f : FuncId} {vs : List Value} {b c : Bool} {I : Im} (h : b = c) (hc : FC Tryd.prog f vs I (fun u I' => u = .bool b ∧ I' = I)) : FC Tryd.prog f vs I (fun u I' => u = .bool c ∧ I' = I) := by
  subst h; exact hc
theorem pickL_is {c n v : Int} {I : Im} (h : pickI c n = v) (hc : FC Tryd.prog 16 [.int .i64 c, .int .i64 n] I (fun u I' => u = .int .i64 (pickI c n) ∧ I' = I)) : FC Tryd.prog 16 [.int .i64 c, .int .i64 n] I (fun u I' => u = .int .i64 v ∧ I' = I) := by
  subst h; exact hc
set_option maxHeartbeats 3200000 in
theorem sane_any (I : Im) (hG : Glob I) : FC Tryd.prog 13 [] I (fun u _I' => u = .bool true) := by
  have hI := Im.le_refl I
  refine FSo.intro (n := 254) Tryd.func13 rfl rfl rfl (fun K Lf => ?_)
  refine XC.seq ?_
  refine XC.region ?_
  refine XO.rd rfl rfl rfl (Reads.assign rfl) ?_
  refine XO.nil ?_
  refine XQ.then_normal ?_
  refine XC.seq ?_
  refine XC.region ?_
  refine XO.call rfl rfl en15 (all_any _) trivial ?_
  rintro u J27 hle27 hr
  replace hI := Im.le_trans hI hle27
  replace hG := hG.mono hle27
  obtain ⟨ak, ck, rfl, hc_hK, hK⟩ := hr.ex
  refine XO.rd rfl rfl rfl (Reads.assign rfl) ?_
  refine XO.nil ?_
  refine XQ.then_normal ?_
  refine XC.seq ?_
  refine XC.region ?_
  refine XO.rd rfl rfl rfl (Reads.move rfl) ?_
  refine XO.call rfl rfl en45 (example_any ak ck _ hK hG) ⟨rfl, trivial⟩ ?_
  rintro u J28 hle28 hr
  replace hI := Im.le_trans hI hle28
  replace hG := hG.mono hle28
  replace hK := hK.mono hle28
  obtain ⟨a2, c2, rfl, hcp_hA2, hA2⟩ := hr
  refine XO.rd rfl rfl rfl (Reads.move rfl) ?_
  refine XO.rd rfl rfl rfl (Reads.extract rfl rfl) ?_
  refine XO.rd rfl rfl rfl (Reads.extract rfl rfl) ?_
  refine XO.alloc (cs := #[.int .i64 0, .int .i64 0, .int .i64 0, .int .i64 0, .slice none 0 0]) rfl rfl zo37 rfl (fun b2 => ?_)
  refine XO.store_agg (vs := (ex3).cs a2 c2) 0 rfl z37 rfl rfl (by simp [Value.oneCell']) rfl (by simp) ?_
  refine XO.rd rfl rfl rfl (Reads.assign rfl) ?_
  refine XO.nil ?_
  refine XQ.then_normal ?_
  refine XC.seq ?_
  refine XC.seq ?_
  refine XC.region ?_
  refine XO.rd rfl rfl rfl (Reads.move rfl) ?_
  refine XO.rd rfl rfl rfl (Reads.not rfl) ?_
  refine XO.nil ?_
  refine XQ.then_normal ?_
  refine XC.cond rfl (fun hx => by cases hx) (fun _ => ?_)
  refine XC.skip ?_
  refine XQ.then_normal ?_
  refine XC.seq ?_
  refine XC.region ?_
  refine XO.lit (α := Int) exK (exK.map fun z => Value.int .i64 z) (intZ exK) rfl rfl Tryd.underlying23 el3 rfl (by simp) ⟨rfl, rfl, rfl, rfl, rfl, rfl, rfl, rfl, rfl, rfl, rfl, rfl, rfl, rfl, rfl, rfl, trivial⟩ rfl rfl (by decide) rfl (flat_intZ _ exK) (fun bl J29 hle29 hs9 => ?_)
  replace hI := Im.le_trans hI hle29
  replace hG := hG.mono hle29
  replace hK := hK.mono hle29
  replace hA2 := hA2.mono hle29
  have hW := hs9.arr.1
  obtain ⟨aw, hwe⟩ : ∃ a : Option Addr, a = some ⟨bl, 0, none⟩ := ⟨_, rfl⟩
  rw [← hwe] at hW ⊢
  refine XO.rd rfl rfl rfl (Reads.assign rfl) ?_
  refine XO.nil ?_
  refine XQ.then_normal ?_
  refine XC.seq ?_
  refine XC.region ?_
  refine XO.rd rfl rfl rfl (Reads.move rfl) ?_
  refine XO.rd rfl rfl rfl (Reads.load_whole k37 z37 rfl (by first | exact WholeAt.of 0 rfl | exact WholeAt.of 1 rfl | exact WholeAt.of 2 rfl | exact WholeAt.of 3 rfl | exact WholeAt.of 4 rfl) (by rfl)) ?_
  refine XO.callp rfl rfl en19 (check_is ex3_all (check_any ex3 a2 ak c2 ck _ _ hA2 (by decide) hK (by rw [allK_len]; decide) hG)) ⟨rfl, rfl, trivial⟩ ?_
  refine XO.rd rfl rfl rfl (Reads.move rfl) ?_
  refine XO.rd rfl rfl rfl (Reads.extract rfl rfl) ?_
  refine XO.rd rfl rfl rfl (Reads.extract rfl rfl) ?_
  refine XO.rd rfl rfl rfl (Reads.extract rfl rfl) ?_
  refine XO.rd rfl rfl rfl (Reads.assign rfl) ?_
  refine XO.rd rfl rfl rfl (Reads.assign rfl) ?_
  refine XO.rd rfl rfl rfl (Reads.assign rfl) ?_
  refine XO.nil ?_
  refine XQ.then_normal ?_
  refine XC.seq ?_
  refine XC.draw m_mixed none (.pure 0 (.pure 2 (.eff 1 (.eff 3 (.pure 4 (.pure 5 (.pure 6 (.pure 7 (.pure 8 (.pure 9 (.pure 10 (.done)))))))))))) _ (by kernel_rfl) (List.Sublist.refl _) ?_
  refine XR.rd rfl rfl rfl (Reads.move rfl) ?_
  refine XR.rd rfl rfl rfl (Reads.load_whole k37 z37 rfl (by first | exact WholeAt.of 0 rfl | exact WholeAt.of 1 rfl | exact WholeAt.of 2 rfl | exact WholeAt.of 3 rfl | exact WholeAt.of 4 rfl) (by rfl)) ?_
  refine XR.call rfl rfl rfl en14 (known_any ak ck allK 253 _ hK (by rw [allK_len]; decide)) ⟨rfl, rfl, trivial⟩ (List.Sublist.refl _) ?_
  rintro u J30 hle30 hr
  replace hI := Im.le_trans hI hle30
  replace hG := hG.mono hle30
  replace hK := hK.mono hle30
  replace hA2 := hA2.mono hle30
  replace hW := hW.mono hle30
  obtain ⟨ak7, ck7, rfl, hc_hK7, hK7⟩ := hr.ex
  refine XR.callp rfl rfl rfl en19 (check_is ex3_253 (check_any ex3 a2 ak7 c2 ck7 _ _ hA2 (by decide) hK7 (by rw [known_len, allK_len]; decide) hG)) ⟨rfl, rfl, trivial⟩ (List.Sublist.refl _) ?_
  refine XR.rd rfl rfl rfl (Reads.move rfl) ?_
  refine XR.rd rfl rfl rfl (Reads.extract rfl rfl) ?_
  refine XR.rd rfl rfl rfl (Reads.extract rfl rfl) ?_
  refine XR.rd rfl rfl rfl (Reads.extract rfl rfl) ?_
  refine XR.rd rfl rfl rfl (Reads.assign rfl) ?_
  refine XR.rd rfl rfl rfl (Reads.assign rfl) ?_
  refine XR.rd rfl rfl rfl (Reads.assign rfl) ?_
  refine XR.nil ?_
  refine XQ.then_normal ?_
  refine XC.seq ?_
  refine XC.draw m_mixed none (.pure 0 (.pure 2 (.eff 1 (.eff 3 (.pure 4 (.pure 5 (.pure 6 (.pure 7 (.pure 8 (.pure 9 (.pure 10 (.done)))))))))))) _ (by kernel_rfl) (List.Sublist.refl _) ?_
  refine XR.rd rfl rfl rfl (Reads.move rfl) ?_
  refine XR.rd rfl rfl rfl (Reads.load_whole k37 z37 rfl (by first | exact WholeAt.of 0 rfl | exact WholeAt.of 1 rfl | exact WholeAt.of 2 rfl | exact WholeAt.of 3 rfl | exact WholeAt.of 4 rfl) (by rfl)) ?_
  refine XR.call rfl rfl rfl en14 (known_any ak ck allK 8 _ hK (by rw [allK_len]; decide)) ⟨rfl, rfl, trivial⟩ (List.Sublist.refl _) ?_
  rintro u J31 hle31 hr
  replace hI := Im.le_trans hI hle31
  replace hG := hG.mono hle31
  replace hK := hK.mono hle31
  replace hA2 := hA2.mono hle31
  replace hW := hW.mono hle31
  replace hK7 := hK7.mono hle31
  obtain ⟨ak8, ck8, rfl, hc_hK8, hK8⟩ := hr.ex
  refine XR.callp rfl rfl rfl en19 (check_is ex3_8 (check_any ex3 a2 ak8 c2 ck8 _ _ hA2 (by decide) hK8 (by rw [known_len, allK_len]; decide) hG)) ⟨rfl, rfl, trivial⟩ (List.Sublist.refl _) ?_
  refine XR.rd rfl rfl rfl (Reads.move rfl) ?_
  refine XR.rd rfl rfl rfl (Reads.extract rfl rfl) ?_
  refine XR.rd rfl rfl rfl (Reads.extract rfl rfl) ?_
  refine XR.rd rfl rfl rfl (Reads.extract rfl rfl) ?_
  refine XR.rd rfl rfl rfl (Reads.assign rfl) ?_
  refine XR.rd rfl rfl rfl (Reads.assign rfl) ?_
  refine XR.rd rfl rfl rfl (Reads.assign rfl) ?_
  refine XR.nil ?_
  refine XQ.then_normal ?_
  refine XC.seq ?_
  refine XC.weaken (E' := [(1, _), (2, _), (4, _), (5, _), (6, _), (7, _), (8, _), (9, _), (10, _), (11, _), (12, _), (13, _)]) ⟨rfl, rfl, rfl, rfl, rfl, rfl, rfl, rfl, rfl, rfl, rfl, rfl, trivial⟩ ?_
  refine XC.draw m_mixed none (.pure 0 (.pure 2 (.eff 1 (.eff 3 (.pure 4 (.pure 5 (.pure 6 (.pure 7 (.pure 8 (.pure 9 (.pure 10 (.done)))))))))))) _ (by kernel_rfl) (List.Sublist.refl _) ?_
  refine XR.rd rfl rfl rfl (Reads.move rfl) ?_
  refine XR.rd rfl rfl rfl (Reads.load_whole k37 z37 rfl (by first | exact WholeAt.of 0 rfl | exact WholeAt.of 1 rfl | exact WholeAt.of 2 rfl | exact WholeAt.of 3 rfl | exact WholeAt.of 4 rfl) (by rfl)) ?_
  refine XR.call rfl rfl rfl en14 (known_any ak ck allK 0 _ hK (by rw [allK_len]; decide)) ⟨rfl, rfl, trivial⟩ (List.Sublist.refl _) ?_
  rintro u J32 hle32 hr
  replace hI := Im.le_trans hI hle32
  replace hG := hG.mono hle32
  replace hK := hK.mono hle32
  replace hA2 := hA2.mono hle32
  replace hW := hW.mono hle32
  replace hK7 := hK7.mono hle32
  replace hK8 := hK8.mono hle32
  obtain ⟨ak9, ck9, rfl, hc_hK9, hK9⟩ := hr.ex
  refine XR.callp rfl rfl rfl en19 (check_is ex3_0 (check_any ex3 a2 ak9 c2 ck9 _ _ hA2 (by decide) hK9 (by rw [known_len, allK_len]; decide) hG)) ⟨rfl, rfl, trivial⟩ (List.Sublist.refl _) ?_
  refine XR.rd rfl rfl rfl (Reads.move rfl) ?_
  refine XR.rd rfl rfl rfl (Reads.extract rfl rfl) ?_
  refine XR.rd rfl rfl rfl (Reads.extract rfl rfl) ?_
  refine XR.rd rfl rfl rfl (Reads.extract rfl rfl) ?_
  refine XR.rd rfl rfl rfl (Reads.assign rfl) ?_
  refine XR.rd rfl rfl rfl (Reads.assign rfl) ?_
  refine XR.rd rfl rfl rfl (Reads.assign rfl) ?_
  refine XR.nil ?_
  refine XQ.then_normal ?_
  refine XC.seq ?_
  refine XC.region ?_
  refine XO.rd rfl rfl rfl (Reads.move rfl) ?_
  refine XO.rd rfl rfl rfl (Reads.move rfl) ?_
  refine XO.rd rfl rfl rfl (Reads.load_whole k37 z37 rfl (by first | exact WholeAt.of 0 rfl | exact WholeAt.of 1 rfl | exact WholeAt.of 2 rfl | exact WholeAt.of 3 rfl | exact WholeAt.of 4 rfl) (by rfl)) ?_
  refine XO.callp rfl rfl en24 (blame_is ex3_blame (blame_any ex3 a2 ak aw c2 ck exK.length allK exK _ hA2 (by decide) hK (by rw [allK_len]; decide) hW (by decide) hG)) ⟨rfl, rfl, rfl, trivial⟩ ?_
  refine XO.rd rfl rfl rfl (Reads.move rfl) ?_
  refine XO.rd rfl rfl rfl (Reads.extract rfl rfl) ?_
  refine XO.rd rfl rfl rfl (Reads.extract rfl rfl) ?_
  refine XO.rd rfl rfl rfl (Reads.assign rfl) ?_
  refine XO.rd rfl rfl rfl (Reads.assign rfl) ?_
  refine XO.nil ?_
  refine XQ.then_normal ?_
  refine XC.seq ?_
  refine XC.region ?_
  refine XO.rd rfl rfl rfl (Reads.load_whole k37 z37 rfl (by first | exact WholeAt.of 0 rfl | exact WholeAt.of 1 rfl | exact WholeAt.of 2 rfl | exact WholeAt.of 3 rfl | exact WholeAt.of 4 rfl) (by rfl)) ?_
  refine XO.call rfl rfl en21 (cut_any ex3 a2 c2 2 _ hA2 (by decide) hcp_hA2) ⟨rfl, rfl, trivial⟩ ?_
  rintro u J33 hle33 hr
  replace hI := Im.le_trans hI hle33
  replace hG := hG.mono hle33
  replace hK := hK.mono hle33
  replace hA2 := hA2.mono hle33
  replace hW := hW.mono hle33
  replace hK7 := hK7.mono hle33
  replace hK8 := hK8.mono hle33
  replace hK9 := hK9.mono hle33
  rw [ex3_cut] at hr
  obtain ⟨v9, e9, rfl, hy9, _⟩ := hr
  obtain ⟨rfl, a19, c19, rfl, hcp_hA19, hA19⟩ := hy9 _ rfl
  refine XO.rd rfl rfl rfl (Reads.move rfl) ?_
  refine XO.rd rfl rfl rfl (Reads.extract rfl rfl) ?_
  refine XO.rd rfl rfl rfl (Reads.extract rfl rfl) ?_
  refine XO.alloc (cs := #[.int .i64 0, .int .i64 0, .int .i64 0, .int .i64 0, .slice none 0 0]) rfl rfl zo37 rfl (fun b19 => ?_)
  refine XO.store_agg (vs := ((ex3.pre 2)).cs a19 c19) 0 rfl z37 rfl rfl (by simp [Value.oneCell']) rfl (by simp) ?_
  refine XO.rd rfl rfl rfl (Reads.assign rfl) ?_
  refine XO.nil ?_
  refine XQ.then_normal ?_
  refine XC.seq ?_
  refine XC.join (ι := Im × Nat) (fun q => [(1, .slice ak allK.length ck), (2, .pointer (some ⟨b2, 0, none⟩)), (4, .slice aw exK.length exK.length), (5, .int .i64 3), (6, .int .i64 0), (7, .int .i64 0), (8, .int .i64 3), (9, .int .i64 1), (10, .int .i64 0), (11, .int .i64 1), (12, .int .i64 2), (13, .int .i64 0), (14, .int .i64 0), (15, .int .i64 (-1)), (16, .int .i64 0), (17, .int .i64 (-1)), (18, .int .i64 0), (19, .pointer (some ⟨b19, 0, none⟩)), (20, .int .i64 0), (22, .int .i64 250)]) (fun q => q.1) (fun q => some (q.2, .cells ((none0).cs none 0).toArray 37 (0, 0)) :: some (b19, .cells (((ex3.pre 2)).cs a19 c19).toArray 37 (0, 0)) :: some (b2, .cells ((ex3).cs a2 c2).toArray 37 (0, 0)) :: ([] ++ Lf)) (fun q => I.le q.1 ∧ Glob q.1 ∧ Arr q.1 ak allK ∧ Arr q.1 a2 ex3.hs ∧ Arr q.1 aw exK ∧ Arr q.1 a19 (ex3.pre 2).hs) ?_ (fun q hq => ?_)
  · skip
    refine XC.draw m_mixed none (.pure 0 (.pure 1 (.pure 2 (.pure 3 (.pure 4 (.alt 5 (.pure 6 (.pure 7 (.pure 8 (.eff 9 (.eff 10 (.pure 11 (.done))))))) (.eff 9 (.eff 5 (.pure 6 (.pure 7 (.pure 8 (.eff 10 (.pure 11 (.done)))))))))))))) _ (by kernel_rfl) (List.Sublist.refl _) ?_
    refine XR.rd rfl rfl rfl (Reads.move rfl) ?_
    refine XR.rd rfl rfl rfl (Reads.index_slot (q := 3) Tryd.underlying29 z9 rfl rfl (by rw [allK_len]; decide) (hK.isSome (by decide) (by rw [allK_len]; decide)) rfl) ?_
    refine XR.rd rfl rfl rfl (Reads.load_at (v := .string (keyC 3)) k9 rfl (by rw [← allK_get (i := 3) (by decide)]; exact hK.str_at (by rw [allK_len]; decide) rfl)) ?_
    refine XR.rd rfl rfl rfl (Reads.move rfl) ?_
    refine XR.rd rfl rfl rfl (Reads.load_whole k37 z37 rfl (by first | exact WholeAt.of 0 rfl | exact WholeAt.of 1 rfl | exact WholeAt.of 2 rfl | exact WholeAt.of 3 rfl | exact WholeAt.of 4 rfl) (by rfl)) ?_
    refine XR.alt ?_ ?_
    · skip
      refine XR.call rfl rfl rfl en40 (pass_any (keyC 3) ex3 a2 ak c2 ck allK 3 _ hA2 (by decide) hK (by rw [allK_len]; decide) (by rw [keyC_size]; decide) hG) ⟨rfl, rfl, rfl, rfl, trivial⟩ (List.Sublist.refl _) ?_
      rintro u J34 hle34 hr
      replace hI := Im.le_trans hI hle34
      replace hG := hG.mono hle34
      replace hK := hK.mono hle34
      replace hA2 := hA2.mono hle34
      replace hW := hW.mono hle34
      replace hK7 := hK7.mono hle34
      replace hK8 := hK8.mono hle34
      replace hK9 := hK9.mono hle34
      replace hA19 := hA19.mono hle34
      rw [ex3_err] at hr
      obtain ⟨v9, e9, rfl, _, hn9⟩ := hr
      obtain ⟨rfl, rfl⟩ := hn9 rfl
      refine XR.rd rfl rfl rfl (Reads.move rfl) ?_
      refine XR.rd rfl rfl rfl (Reads.extract rfl rfl) ?_
      refine XR.rd rfl rfl rfl (Reads.extract rfl rfl) ?_
      refine XR.alloc (cs := #[.int .i64 0, .int .i64 0, .int .i64 0, .int .i64 0, .slice none 0 0]) rfl rfl rfl zo37 rfl (List.Sublist.refl _) (fun b21 => ?_)
      refine XR.store_agg (vs := (none0).cs none 0) 0 rfl rfl z37 rfl rfl (by simp [Value.oneCell']) rfl (by simp) (.inr (List.Sublist.cons _ (List.Sublist.refl _))) ?_
      refine XR.rd rfl rfl rfl (Reads.assign rfl) ?_
      refine XR.nil ?_
      refine XQ.joined (_, b21) ⟨hI, hG, hK, hA2, hW, hA19⟩ ⟨rfl, rfl, rfl, rfl, rfl, rfl, rfl, rfl, rfl, rfl, rfl, rfl, rfl, rfl, rfl, rfl, rfl, rfl, rfl, rfl, trivial⟩ rfl (List.Perm.refl _)
    · skip
      refine XR.alloc (cs := #[.int .i64 0, .int .i64 0, .int .i64 0, .int .i64 0, .slice none 0 0]) rfl rfl rfl zo37 rfl (List.Sublist.refl _) (fun b21 => ?_)
      refine XR.call rfl rfl rfl en40 (pass_any (keyC 3) ex3 a2 ak c2 ck allK 3 _ hA2 (by decide) hK (by rw [allK_len]; decide) (by rw [keyC_size]; decide) hG) ⟨rfl, rfl, rfl, rfl, trivial⟩ (List.Sublist.cons _ (List.Sublist.refl _)) ?_
      rintro u J35 hle35 hr
      replace hI := Im.le_trans hI hle35
      replace hG := hG.mono hle35
      replace hK := hK.mono hle35
      replace hA2 := hA2.mono hle35
      replace hW := hW.mono hle35
      replace hK7 := hK7.mono hle35
      replace hK8 := hK8.mono hle35
      replace hK9 := hK9.mono hle35
      replace hA19 := hA19.mono hle35
      rw [ex3_err] at hr
      obtain ⟨v9, e9, rfl, _, hn9⟩ := hr
      obtain ⟨rfl, rfl⟩ := hn9 rfl
      refine XR.rd rfl rfl rfl (Reads.move rfl) ?_
      refine XR.rd rfl rfl rfl (Reads.extract rfl rfl) ?_
      refine XR.rd rfl rfl rfl (Reads.extract rfl rfl) ?_
      refine XR.store_agg (vs := (none0).cs none 0) 0 rfl rfl z37 rfl rfl (by simp [Value.oneCell']) rfl (by simp) (.inr (List.Sublist.cons _ (List.Sublist.refl _))) ?_
      refine XR.rd rfl rfl rfl (Reads.assign rfl) ?_
      refine XR.nil ?_
      refine XQ.joined (_, b21) ⟨hI, hG, hK, hA2, hW, hA19⟩ ⟨rfl, rfl, rfl, rfl, rfl, rfl, rfl, rfl, rfl, rfl, rfl, rfl, rfl, rfl, rfl, rfl, rfl, rfl, rfl, rfl, trivial⟩ rfl (List.Perm.refl _)
  · skip
    obtain ⟨M21, b21⟩ := q
    obtain ⟨hI, hG, hK, hA2, hW, hA19⟩ := hq
    simp only at hI hG hK hA2 hW hA19 ⊢
    refine XQ.then_normal ?_
    refine XC.seq ?_
    refine XC.seq ?_
    refine XC.region ?_
    refine XO.rd rfl rfl rfl (Reads.move rfl) ?_
    refine XO.rd rfl rfl rfl (Reads.cmp_no rfl rfl rfl rfl) ?_
    refine XO.rd rfl rfl rfl (Reads.move rfl) ?_
    refine XO.rd (wg rfl rfl rfl) rfl rfl (Reads.move rfl) ?_
    refine XO.rd (wg rfl rfl rfl) rfl rfl (Reads.cmp_no rfl rfl rfl rfl) ?_
    refine XO.rd rfl rfl rfl (Reads.pick_false rfl rfl) ?_
    refine XO.rd rfl rfl rfl (Reads.move rfl) ?_
    refine XO.rd (wg rfl rfl rfl) rfl rfl (Reads.move rfl) ?_
    refine XO.rd (wg rfl rfl rfl) rfl rfl (Reads.cmp_no rfl rfl rfl rfl) ?_
    refine XO.rd rfl rfl rfl (Reads.pick_false rfl rfl) ?_
    refine XO.rd rfl rfl rfl (Reads.move rfl) ?_
    refine XO.rd (wg rfl rfl rfl) rfl rfl (Reads.move rfl) ?_
    refine XO.rd (wg rfl rfl rfl) rfl rfl (Reads.cmp_no rfl rfl rfl rfl) ?_
    refine XO.rd rfl rfl rfl (Reads.pick_false rfl rfl) ?_
    refine XO.rd rfl rfl rfl (Reads.move rfl) ?_
    refine XO.rd (wg rfl rfl rfl) rfl rfl (Reads.move rfl) ?_
    refine XO.rd (wg rfl rfl rfl) rfl rfl (Reads.cmp_no rfl rfl rfl rfl) ?_
    refine XO.rd rfl rfl rfl (Reads.pick_false rfl rfl) ?_
    refine XO.rd rfl rfl rfl (Reads.move rfl) ?_
    refine XO.rd (wg rfl rfl rfl) rfl rfl (Reads.move rfl) ?_
    refine XO.rd (wg rfl rfl rfl) rfl rfl (Reads.cmp_no rfl rfl rfl rfl) ?_
    refine XO.rd rfl rfl rfl (Reads.pick_false rfl rfl) ?_
    refine XO.rd rfl rfl rfl (Reads.move rfl) ?_
    refine XO.rd (wg rfl rfl rfl) rfl rfl (Reads.move rfl) ?_
    refine XO.rd (wg rfl rfl rfl) rfl rfl (Reads.cmp_no rfl rfl rfl rfl) ?_
    refine XO.rd rfl rfl rfl (Reads.pick_false rfl rfl) ?_
    refine XO.rd rfl rfl rfl (Reads.move rfl) ?_
    refine XO.rd (wg rfl rfl rfl) rfl rfl (fa37_1 rfl) ?_
    refine XO.rd (wg rfl rfl rfl) rfl rfl (Reads.load_own k35 rfl (by first | exact OwnAt.of 0 rfl rfl | exact OwnAt.of 1 rfl rfl | exact OwnAt.of 2 rfl rfl | exact OwnAt.of 3 rfl rfl | exact OwnAt.of 4 rfl rfl)) ?_
    refine XO.rd (wg rfl rfl rfl) rfl rfl (Reads.len_slice Tryd.underlying35 rfl) ?_
    refine XO.rd (wg rfl rfl rfl) rfl rfl (Reads.cmp_no rfl rfl rfl rfl) ?_
    refine XO.rd rfl rfl rfl (Reads.pick_false rfl rfl) ?_
    refine XO.nil ?_
    refine XQ.then_normal ?_
    refine XC.cond rfl (fun hx => by cases hx) (fun _ => ?_)
    refine XC.skip ?_
    refine XQ.then_normal ?_
    refine XC.seq ?_
    refine XC.weaken (E' := [(1, _), (2, _), (4, _), (5, _), (6, _), (8, _), (9, _), (11, _), (12, _), (14, _), (15, _), (17, _)]) ⟨rfl, rfl, rfl, rfl, rfl, rfl, rfl, rfl, rfl, rfl, rfl, rfl, trivial⟩ ?_
    refine XC.region ?_
    refine XO.rd rfl rfl rfl (fa37_1 rfl) ?_
    refine XO.rd rfl rfl rfl (Reads.load_own k35 rfl (by first | exact OwnAt.of 0 rfl rfl | exact OwnAt.of 1 rfl rfl | exact OwnAt.of 2 rfl rfl | exact OwnAt.of 3 rfl rfl | exact OwnAt.of 4 rfl rfl)) ?_
    refine XO.rd rfl rfl rfl (Reads.index_slot (q := 0 * 3) Tryd.underlying35 z53 rfl rfl (by decide) (hA2.isSome (by decide) (by decide)) rfl) ?_
    refine XO.rd rfl rfl rfl (fs53_1 rfl (hA2.addr (by decide) (by decide))) ?_
    refine XO.rd rfl rfl rfl (Reads.load_at (v := .int .i64 3) k3 rfl (hA2.hand (by decide) 1 _ rfl)) ?_
    refine XO.rd rfl rfl rfl (Reads.cmp_yes rfl rfl rfl rfl) ?_
    refine XO.rd rfl rfl rfl (Reads.move rfl) ?_
    refine XO.rd (wg rfl rfl rfl) rfl rfl (fa37_1 rfl) ?_
    refine XO.rd (wg rfl rfl rfl) rfl rfl (Reads.load_own k35 rfl (by first | exact OwnAt.of 0 rfl rfl | exact OwnAt.of 1 rfl rfl | exact OwnAt.of 2 rfl rfl | exact OwnAt.of 3 rfl rfl | exact OwnAt.of 4 rfl rfl)) ?_
    refine XO.rd (wg rfl rfl rfl) rfl rfl (Reads.index_slot (q := 1 * 3) Tryd.underlying35 z53 rfl rfl (by decide) (hA2.isSome (by decide) (by decide)) rfl) ?_
    refine XO.rd (wg rfl rfl rfl) rfl rfl (fs53_1 rfl (hA2.addr (by decide) (by decide))) ?_
    refine XO.rd (wg rfl rfl rfl) rfl rfl (Reads.load_at (v := .int .i64 3) k3 rfl (hA2.hand (by decide) 1 _ rfl)) ?_
    refine XO.rd (wg rfl rfl rfl) rfl rfl (Reads.cmp_yes rfl rfl rfl rfl) ?_
    refine XO.rd rfl rfl rfl (Reads.pick_true rfl rfl) ?_
    refine XO.rd rfl rfl rfl (Reads.move rfl) ?_
    refine XO.rd (wg rfl rfl rfl) rfl rfl (fa37_1 rfl) ?_
    refine XO.rd (wg rfl rfl rfl) rfl rfl (Reads.load_own k35 rfl (by first | exact OwnAt.of 0 rfl rfl | exact OwnAt.of 1 rfl rfl | exact OwnAt.of 2 rfl rfl | exact OwnAt.of 3 rfl rfl | exact OwnAt.of 4 rfl rfl)) ?_
    refine XO.rd (wg rfl rfl rfl) rfl rfl (Reads.index_slot (q := 2 * 3) Tryd.underlying35 z53 rfl rfl (by decide) (hA2.isSome (by decide) (by decide)) rfl) ?_
    refine XO.rd (wg rfl rfl rfl) rfl rfl (fs53_1 rfl (hA2.addr (by decide) (by decide))) ?_
    refine XO.rd (wg rfl rfl rfl) rfl rfl (Reads.load_at (v := .int .i64 1) k3 rfl (hA2.hand (by decide) 1 _ rfl)) ?_
    refine XO.rd (wg rfl rfl rfl) rfl rfl (Reads.cmp_yes rfl rfl rfl rfl) ?_
    refine XO.rd rfl rfl rfl (Reads.pick_true rfl rfl) ?_
    refine XO.rd rfl rfl rfl (Reads.move rfl) ?_
    refine XO.rd (wg rfl rfl rfl) rfl rfl (Reads.move rfl) ?_
    refine XO.rd (wg rfl rfl rfl) rfl rfl (Reads.cmp_yes rfl rfl rfl rfl) ?_
    refine XO.rd rfl rfl rfl (Reads.pick_true rfl rfl) ?_
    refine XO.rd rfl rfl rfl (Reads.move rfl) ?_
    refine XO.rd (wg rfl rfl rfl) rfl rfl (Reads.move rfl) ?_
    refine XO.rd (wg rfl rfl rfl) rfl rfl (Reads.cmp_yes rfl rfl rfl rfl) ?_
    refine XO.rd rfl rfl rfl (Reads.pick_true rfl rfl) ?_
    refine XO.rd rfl rfl rfl (Reads.move rfl) ?_
    refine XO.rd (wg rfl rfl rfl) rfl rfl (Reads.move rfl) ?_
    refine XO.rd (wg rfl rfl rfl) rfl rfl (Reads.cmp_yes rfl rfl rfl rfl) ?_
    refine XO.rd rfl rfl rfl (Reads.pick_true rfl rfl) ?_
    refine XO.rd rfl rfl rfl (Reads.move rfl) ?_
    refine XO.rd (wg rfl rfl rfl) rfl rfl (Reads.move rfl) ?_
    refine XO.rd (wg rfl rfl rfl) rfl rfl (Reads.cmp_yes rfl rfl rfl rfl) ?_
    refine XO.rd rfl rfl rfl (Reads.pick_true rfl rfl) ?_
    refine XO.rd rfl rfl rfl (Reads.move rfl) ?_
    refine XO.rd (wg rfl rfl rfl) rfl rfl (Reads.move rfl) ?_
    refine XO.rd (wg rfl rfl rfl) rfl rfl (Reads.cmp_yes rfl rfl rfl rfl) ?_
    refine XO.rd rfl rfl rfl (Reads.pick_true rfl rfl) ?_
    refine XO.rd rfl rfl rfl (Reads.move rfl) ?_
    refine XO.rd (wg rfl rfl rfl) rfl rfl (Reads.move rfl) ?_
    refine XO.rd (wg rfl rfl rfl) rfl rfl (Reads.cmp_yes rfl rfl rfl rfl) ?_
    refine XO.rd rfl rfl rfl (Reads.pick_true rfl rfl) ?_
    refine XO.rd rfl rfl rfl (Reads.move rfl) ?_
    refine XO.rd (wg rfl rfl rfl) rfl rfl (Reads.move rfl) ?_
    refine XO.rd (wg rfl rfl rfl) rfl rfl (Reads.cmp_yes rfl rfl rfl rfl) ?_
    refine XO.rd rfl rfl rfl (Reads.pick_true rfl rfl) ?_
    refine XO.rd rfl rfl rfl (Reads.move rfl) ?_
    refine XO.rd (wg rfl rfl rfl) rfl rfl (Reads.move rfl) ?_
    refine XO.rd (wg rfl rfl rfl) rfl rfl (Reads.cmp_yes rfl rfl rfl rfl) ?_
    refine XO.rd rfl rfl rfl (Reads.pick_true rfl rfl) ?_
    refine XO.rd rfl rfl rfl (Reads.move rfl) ?_
    refine XO.rd (wg rfl rfl rfl) rfl rfl (Reads.move rfl) ?_
    refine XO.rd (wg rfl rfl rfl) rfl rfl (Reads.cmp_yes rfl rfl rfl rfl) ?_
    refine XO.rd rfl rfl rfl (Reads.pick_true rfl rfl) ?_
    refine XO.rd rfl rfl rfl (Reads.assign rfl) ?_
    refine XO.nil ?_
    refine XQ.then_normal ?_
    refine XC.seq ?_
    refine XC.weaken (E' := [(1, _), (2, _), (4, _), (23, _)]) ⟨rfl, rfl, rfl, rfl, trivial⟩ ?_
    refine XC.region ?_
    refine XO.rd rfl rfl rfl (Reads.assign rfl) ?_
    refine XO.nil ?_
    refine XQ.then_normal ?_
    refine XC.seq ?_
    refine XC.draw m_mixed none (.pure 0 (.pure 1 (.pure 2 (.pure 3 (.pure 4 (.pure 5 (.pure 6 (.pure 7 (.pure 8 (.eff 9 (.pure 10 (.pure 11 (.pure 12 (.pure 13 (.eff 14 (.pure 15 (.pure 16 (.pure 17 (.pure 19 (.eff 18 (.eff 20 (.pure 21 (.pure 22 (.pure 23 (.pure 24 (.eff 25 (.pure 26 (.pure 27 (.pure 28 (.eff 29 (.pure 30 (.pure 31 (.pure 32 (.done)))))))))))))))))))))))))))))))))) _ (by kernel_rfl) (List.Sublist.refl _) ?_
    refine XR.rd rfl rfl rfl (fa37_1 rfl) ?_
    refine XR.rd rfl rfl rfl (Reads.load_own k35 rfl (by first | exact OwnAt.of 0 rfl rfl | exact OwnAt.of 1 rfl rfl | exact OwnAt.of 2 rfl rfl | exact OwnAt.of 3 rfl rfl | exact OwnAt.of 4 rfl rfl)) ?_
    refine XR.rd rfl rfl rfl (Reads.index_slot (q := 0 * 3) Tryd.underlying35 z53 rfl rfl (by decide) (hA2.isSome (by decide) (by decide)) rfl) ?_
    refine XR.rd rfl rfl rfl (fs53_2 rfl (hA2.addr (by decide) (by decide))) ?_
    refine XR.rd rfl rfl rfl (Reads.load_at (v := .string (ex3.h 0).s) k9 rfl (hA2.hand (by decide) 2 _ rfl)) ?_
    refine XR.rd rfl rfl rfl (Reads.move rfl) ?_
    refine XR.rd rfl rfl rfl (Reads.index_slot (q := 1) Tryd.underlying29 z9 rfl rfl (by rw [allK_len]; decide) (hK.isSome (by decide) (by rw [allK_len]; decide)) rfl) ?_
    refine XR.rd rfl rfl rfl (Reads.load_at (v := .string (keyC 1)) k9 rfl (by rw [← allK_get (i := 1) (by decide)]; exact hK.str_at (by rw [allK_len]; decide) rfl)) ?_
    refine XR.rd rfl rfl rfl (Reads.move rfl) ?_
    refine XR.callp rfl rfl rfl en43 (rseal_any (keyC 1) exCt _ (by decide) (by rw [keyC_size]; decide)) ⟨rfl, rfl, trivial⟩ (List.Sublist.refl _) ?_
    refine XR.rd rfl rfl rfl (Reads.seq_yes rfl rfl ex3_seal) ?_
    refine XR.rd rfl rfl rfl (Reads.move rfl) ?_
    refine XR.rd rfl (wg rfl rfl rfl) rfl (Reads.move rfl) ?_
    refine XR.rd rfl (wg rfl rfl rfl) rfl (Reads.load_whole k37 z37 rfl (by first | exact WholeAt.of 0 rfl | exact WholeAt.of 1 rfl | exact WholeAt.of 2 rfl | exact WholeAt.of 3 rfl | exact WholeAt.of 4 rfl) (by rfl)) ?_
    refine XR.callp rfl (wg rfl rfl rfl) rfl en33 (shown_is ex3_sh1 (shown_any ex3 a2 ak c2 ck allK 0 _ hA2 (by decide) hK (by rw [allK_len]; decide) hG)) ⟨rfl, rfl, rfl, trivial⟩ (List.Sublist.refl _) ?_
    refine XR.rd rfl rfl rfl (Reads.pick_true rfl rfl) ?_
    refine XR.rd rfl rfl rfl (Reads.move rfl) ?_
    refine XR.rd rfl (wg rfl rfl rfl) rfl (Reads.move rfl) ?_
    refine XR.rd rfl (wg rfl rfl rfl) rfl (Reads.load_whole k37 z37 rfl (by first | exact WholeAt.of 0 rfl | exact WholeAt.of 1 rfl | exact WholeAt.of 2 rfl | exact WholeAt.of 3 rfl | exact WholeAt.of 4 rfl) (by rfl)) ?_
    refine XR.call rfl (wg rfl rfl rfl) rfl en14 (known_any ak ck allK 8 _ hK (by rw [allK_len]; decide)) ⟨rfl, rfl, trivial⟩ (List.Sublist.refl _) ?_
    rintro u J36 hle36 hr
    replace hI := Im.le_trans hI hle36
    replace hG := hG.mono hle36
    replace hK := hK.mono hle36
    replace hA2 := hA2.mono hle36
    replace hW := hW.mono hle36
    replace hA19 := hA19.mono hle36
    obtain ⟨ak10, ck10, rfl, hc_hK10, hK10⟩ := hr.ex
    refine XR.callp rfl (wg rfl rfl rfl) rfl en33 (shown_is ex3_sh2 (shown_any ex3 a2 ak10 c2 ck10 (known allK 8) 0 _ hA2 (by decide) hK10 (by rw [known_len, allK_len]; decide) hG)) ⟨rfl, rfl, rfl, trivial⟩ (List.Sublist.refl _) ?_
    refine XR.rd rfl (wg rfl rfl rfl) rfl (Reads.not rfl) ?_
    refine XR.rd rfl rfl rfl (Reads.pick_true rfl rfl) ?_
    refine XR.rd rfl rfl rfl (Reads.move rfl) ?_
    refine XR.rd rfl (wg rfl rfl rfl) rfl (Reads.load_whole k37 z37 rfl (by first | exact WholeAt.of 0 rfl | exact WholeAt.of 1 rfl | exact WholeAt.of 2 rfl | exact WholeAt.of 3 rfl | exact WholeAt.of 4 rfl) (by rfl)) ?_
    refine XR.callp rfl (wg rfl rfl rfl) rfl en20 (shown_is ex3_ok.2.f (formed_any ex3 a2 c2 _ hA2 (by decide))) ⟨rfl, trivial⟩ (List.Sublist.refl _) ?_
    refine XR.rd rfl rfl rfl (Reads.pick_true rfl rfl) ?_
    refine XR.rd rfl rfl rfl (Reads.move rfl) ?_
    refine XR.rd rfl (wg rfl rfl rfl) rfl (bd37 (vs := []) (none0.cs none 0).toArray trivial rfl) ?_
    refine XR.callp rfl (wg rfl rfl rfl) rfl en20 (shown_is none_formed (formed_any none0 none 0 _ Arr.nil (by decide))) ⟨rfl, trivial⟩ (List.Sublist.refl _) ?_
    refine XR.rd rfl (wg rfl rfl rfl) rfl (Reads.not rfl) ?_
    refine XR.rd rfl rfl rfl (Reads.pick_true rfl rfl) ?_
    refine XR.rd rfl rfl rfl (Reads.assign rfl) ?_
    refine XR.nil ?_
    refine XQ.then_normal ?_
    refine XC.seq ?_
    refine XC.join (ι := Nat × Nat) (fun q => [(1, .slice ak allK.length ck), (4, .slice aw exK.length exK.length), (23, .bool true), (25, .bool true), (26, .pointer (some ⟨q.2, 0, none⟩))]) (fun q => J36) (fun q => (⟨some (q.1, (handC liar0.hs).toArray), liar0.hs.length, liar0.hs.length⟩ : Vec).ent 53 :: some (q.2, .cells #[.int .i64 5, .int .i64 6, .int .i64 10, .int .i64 7, (⟨some (q.1, (handC liar0.hs).toArray), liar0.hs.length, liar0.hs.length⟩ : Vec).val] 37 (0, 0)) :: some (b21, .cells ((none0).cs none 0).toArray 37 (0, 0)) :: some (b19, .cells (((ex3.pre 2)).cs a19 c19).toArray 37 (0, 0)) :: some (b2, .cells ((ex3).cs a2 c2).toArray 37 (0, 0)) :: ([] ++ Lf)) (fun q => True) ?_ (fun q hq => ?_)
    · skip
      refine XC.draw m_mixed (some 14) (.pure 0 (.pure 1 (.pure 2 (.pure 3 (.pure 4 (.pure 5 (.pure 6 (.pure 7 (.pure 8 (.pure 9 (.pure 10 (.alt 11 (.pure 12 (.eff 13 (.eff 14 (.done)))) (.eff 13 (.eff 11 (.pure 12 (.eff 14 (.done))))))))))))))))) _ (by kernel_rfl) (List.Sublist.refl _) ?_
      refine XR.rd rfl rfl rfl (fa37_0 rfl) ?_
      refine XR.rd rfl rfl rfl (Reads.load_agg_own (vs := exD.cs) k34 z34 rfl (fun j v hj => OwnAt.of 2 rfl (by rw [Nat.zero_add]; exact dial_at ex3 a2 c2 hj))) ?_
      refine XR.rd rfl rfl rfl (fa37_1 rfl) ?_
      refine XR.rd rfl rfl rfl (Reads.load_own k35 rfl (by first | exact OwnAt.of 0 rfl rfl | exact OwnAt.of 1 rfl rfl | exact OwnAt.of 2 rfl rfl | exact OwnAt.of 3 rfl rfl | exact OwnAt.of 4 rfl rfl)) ?_
      refine XR.rd rfl rfl rfl (Reads.index_slot (q := 0 * 3) Tryd.underlying35 z53 rfl rfl (by decide) (hA2.isSome (by decide) (by decide)) rfl) ?_
      refine XR.rd rfl rfl rfl (Reads.load_agg_at (vs := (ex3.h 0).cs) k53 z53 rfl (hA2.addr (by decide) (by decide)) (hA2.hand (by decide : 0 < ex3.hs.length))) ?_
      refine XR.rd rfl rfl rfl (fa37_1 rfl) ?_
      refine XR.rd rfl rfl rfl (Reads.load_own k35 rfl (by first | exact OwnAt.of 0 rfl rfl | exact OwnAt.of 1 rfl rfl | exact OwnAt.of 2 rfl rfl | exact OwnAt.of 3 rfl rfl | exact OwnAt.of 4 rfl rfl)) ?_
      refine XR.rd rfl rfl rfl (Reads.index_slot (q := 1 * 3) Tryd.underlying35 z53 rfl rfl (by decide) (hA2.isSome (by decide) (by decide)) rfl) ?_
      refine XR.rd rfl rfl rfl (Reads.load_agg_at (vs := (ex3.h 1).cs) k53 z53 rfl (hA2.addr (by decide) (by decide)) (hA2.hand (by decide : 1 < ex3.hs.length))) ?_
      refine XR.rd rfl rfl rfl (bd53 (vs := [(0, .int .i64 3), (1, .int .i64 3)]) (⟨3, 3, mtB⟩ : Hand).cs.toArray ⟨rfl, rfl, rfl, rfl, trivial⟩ rfl) ?_
      refine XR.alt ?_ ?_
      · skip
        refine XR.buildL [.agg (ex3.h 0).cs.toArray, .agg (ex3.h 1).cs.toArray, .agg (⟨3, 3, mtB⟩ : Hand).cs.toArray] (handC liar0.hs) rfl rfl rfl Tryd.underlying35 el53 rfl (by simp) ⟨rfl, rfl, rfl, rfl, rfl, rfl, trivial⟩ rfl rfl (List.Sublist.refl _) (fun b223 => ?_)
        refine XR.rd rfl rfl rfl (bd37v exD (.slice (some ⟨b223, 0, none⟩) 3 3) ⟨_, _, _, rfl⟩ ⟨rfl, rfl, rfl, rfl, trivial⟩) ?_
        refine XR.alloc (cs := #[.int .i64 0, .int .i64 0, .int .i64 0, .int .i64 0, .slice none 0 0]) rfl rfl rfl zo37 rfl (List.Sublist.cons _ (List.Sublist.refl _)) (fun b26 => ?_)
        refine XR.store_agg (vs := [.int .i64 5, .int .i64 6, .int .i64 10, .int .i64 7, .slice (some ⟨b223, 0, none⟩) 3 3]) 0 rfl rfl z37 rfl rfl (by simp [Value.oneCell']) rfl (by simp) (.inl rfl) ?_
        refine XR.nil ?_
        refine XQ.perm (perm_take [1]) ?_
        refine XQ.joined (b223, b26) trivial ⟨rfl, rfl, rfl, rfl, rfl, trivial⟩ rfl (List.Perm.refl _)
      · skip
        refine XR.alloc (cs := #[.int .i64 0, .int .i64 0, .int .i64 0, .int .i64 0, .slice none 0 0]) rfl rfl rfl zo37 rfl (List.Sublist.refl _) (fun b26 => ?_)
        refine XR.buildL [.agg (ex3.h 0).cs.toArray, .agg (ex3.h 1).cs.toArray, .agg (⟨3, 3, mtB⟩ : Hand).cs.toArray] (handC liar0.hs) rfl rfl rfl Tryd.underlying35 el53 rfl (by simp) ⟨rfl, rfl, rfl, rfl, rfl, rfl, trivial⟩ rfl rfl (List.Sublist.cons _ (List.Sublist.refl _)) (fun b223 => ?_)
        refine XR.rd rfl rfl rfl (bd37v exD (.slice (some ⟨b223, 0, none⟩) 3 3) ⟨_, _, _, rfl⟩ ⟨rfl, rfl, rfl, rfl, trivial⟩) ?_
        refine XR.store_agg (vs := [.int .i64 5, .int .i64 6, .int .i64 10, .int .i64 7, .slice (some ⟨b223, 0, none⟩) 3 3]) 1 rfl rfl z37 rfl rfl (by simp [Value.oneCell']) rfl (by simp) (.inl rfl) ?_
        refine XR.nil ?_
        refine XQ.joined (b223, b26) trivial ⟨rfl, rfl, rfl, rfl, rfl, trivial⟩ rfl (List.Perm.refl _)
    · skip
      obtain ⟨b223, b26⟩ := q
      have hLV := hands_vec b223 liar0.hs
      simp only
      refine XQ.then_normal ?_
      refine XC.seq ?_
      refine XC.draw m_mixed (some 10) (.pure 0 (.pure 1 (.pure 2 (.pure 3 (.pure 4 (.pure 5 (.eff 6 (.eff 7 (.pure 8 (.pure 9 (.eff 10 (.done)))))))))))) _ (by kernel_rfl) (List.Sublist.refl _) ?_
      refine XR.rd rfl rfl rfl (fa37_1 rfl) ?_
      refine XR.rd (v := (⟨some (b223, (handC liar0.hs).toArray), liar0.hs.length, liar0.hs.length⟩ : Vec).val) rfl rfl rfl (Reads.load_own k35 rfl (OwnAt.of 1 rfl rfl)) ?_
      refine XR.rd rfl rfl rfl (Reads.move rfl) ?_
      refine XR.rd rfl rfl rfl (Reads.index_slot (q := 3) Tryd.underlying29 z9 rfl rfl (by rw [allK_len]; decide) (hK.isSome (by decide) (by rw [allK_len]; decide)) rfl) ?_
      refine XR.rd rfl rfl rfl (Reads.load_at (v := .string (keyC 3)) k9 rfl (by rw [← allK_get (i := 3) (by decide)]; exact hK.str_at (by rw [allK_len]; decide) rfl)) ?_
      refine XR.rd (v := .agg (liar0.cs (some ⟨b223, 0, none⟩) 3).toArray) rfl rfl rfl (Reads.load_whole k37 z37 rfl (WholeAt.of 1 rfl) (by rfl)) ?_
      refine XR.callo (vs := [_, _]) (L1 := [(⟨some (b223, (handC liar0.hs).toArray), liar0.hs.length, liar0.hs.length⟩ : Vec).ent 53]) rfl rfl rfl rfl en44 ⟨rfl, rfl, trivial⟩ (FSo.lendA (α := Hand) (by decide) hLV (flat_hand _ _) (fun J hle hA2 => rcontent_any liar0 (some ⟨b223, 0, none⟩) 3 2 J hA2 (by decide) (by decide) liar0_sz)) (List.Perm.refl _) ?_
      rintro v' J' L' _ ⟨rfl, hJ', rfl⟩
      replace hJ' := hJ'.symm
      subst hJ'
      refine ⟨.inr (List.Sublist.refl _), ?_⟩
      refine XR.callp rfl rfl rfl en43 (rseal_any (keyC 3) (content liar0 2) _ liar0_ct (by rw [keyC_size]; decide)) ⟨rfl, rfl, trivial⟩ (List.Sublist.refl _) ?_
      refine XR.rd rfl rfl rfl (Reads.index_slot (q := 2 * 3) Tryd.underlying35 z53 rfl rfl (show (0 : Int) ≤ 2 ∧ (2 : Int) < ((3 : Nat) : Int) by decide) rfl rfl) ?_
      refine XR.rd rfl rfl rfl (fs53_2 rfl ⟨_, _, rfl⟩) ?_
      refine XR.store_vecs (V := (⟨some (b223, (handC liar0.hs).toArray), liar0.hs.length, liar0.hs.length⟩ : Vec)) (e := 53) (k := 2 * 3 + 2) (v0 := .string mtB) 0 rfl rfl z9 rfl rfl rfl hLV rfl rfl rfl ?_
      intro V3 hV3 hval
      rw [handC_set liar0.hs (j := 2) _ (by decide)] at hV3
      have hV4 : V3.Is 3 (handC liar.hs) := hV3
      rw [← hval]
      refine XR.nil ?_
      refine XQ.then_normal ?_
      refine XC.seq ?_
      refine XC.region ?_
      refine XO.vec_done (α := Hand) (by decide) hV4 (flat_hand _ _) (fun J37 hle37 hs9 => ?_)
      replace hI := Im.le_trans hI hle37
      replace hG := hG.mono hle37
      replace hK := hK.mono hle37
      replace hA2 := hA2.mono hle37
      replace hW := hW.mono hle37
      replace hA19 := hA19.mono hle37
      replace hK10 := hK10.mono hle37
      obtain ⟨al, cl, hval2, hcl, hAl⟩ := hs9.ex
      rw [hval2]
      refine XO.rd rfl rfl rfl (Reads.move rfl) ?_
      refine XO.rd rfl rfl rfl (Reads.move rfl) ?_
      refine XO.rd (v := .agg (liar.cs al cl).toArray) rfl rfl rfl (Reads.load_whole k37 z37 rfl (WholeAt.of 0 rfl) (by rfl)) ?_
      refine XO.callp rfl rfl en24 (blame_is liar_blame (blame_any liar al ak aw cl ck exK.length allK exK _ hAl (by decide) hK (by rw [allK_len]; decide) hW (by decide) hG)) ⟨rfl, rfl, rfl, trivial⟩ ?_
      refine XO.rd rfl rfl rfl (Reads.move rfl) ?_
      refine XO.rd rfl rfl rfl (Reads.extract rfl rfl) ?_
      refine XO.rd rfl rfl rfl (Reads.extract rfl rfl) ?_
      refine XO.rd rfl rfl rfl (Reads.assign rfl) ?_
      refine XO.rd rfl rfl rfl (Reads.assign rfl) ?_
      refine XO.nil ?_
      refine XQ.then_normal ?_
      refine XC.seq ?_
      refine XC.region ?_
      refine XO.rd rfl rfl rfl (Reads.move rfl) ?_
      refine XO.rd rfl rfl rfl (Reads.move rfl) ?_
      refine XO.rd (wg rfl rfl rfl) rfl rfl (Reads.move rfl) ?_
      refine XO.rd rfl rfl rfl (Reads.pick_true rfl rfl) ?_
      refine XO.rd rfl rfl rfl (Reads.move rfl) ?_
      refine XO.rd (wg rfl rfl rfl) rfl rfl (Reads.move rfl) ?_
      refine XO.rd (wg rfl rfl rfl) rfl rfl (Reads.cmp_yes rfl rfl rfl rfl) ?_
      refine XO.rd rfl rfl rfl (Reads.pick_true rfl rfl) ?_
      refine XO.rd rfl rfl rfl (Reads.move rfl) ?_
      refine XO.rd (wg rfl rfl rfl) rfl rfl (Reads.move rfl) ?_
      refine XO.rd (wg rfl rfl rfl) rfl rfl (Reads.cmp_yes rfl rfl rfl rfl) ?_
      refine XO.rd rfl rfl rfl (Reads.pick_true rfl rfl) ?_
      refine XO.rd rfl rfl rfl (Reads.assign rfl) ?_
      refine XO.nil ?_
      refine XQ.then_normal ?_
      refine XC.ret ?_
      refine XQ.dropn 4 ?_
      refine XQ.done1 (L := []) rfl rfl hI ?_
      exact ⟨rfl, rfl⟩

end Go.Proofs.YtmlliafhpbfdbaaDoor
