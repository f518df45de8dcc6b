/- Walks of layer 6: BetweenImplies. -/
import Derived.Test.YtlgfpieokaegiaaB7
import Derived.Test.YtlgfpieokaegiaaB11
import Derived.Test.YtlgfpieokaegiaaP10
namespace Go.Proofs.Ytlgfpieokaegiaa
open Go.Xe

theorem short_any (a : Option Addr) (cap : Nat) (l : List Int) (I : Im) (hcap : l.length ≤ cap) : FC Try.prog 11 [.slice a l.length cap] I (fun u I' => u = .slice a (l.take 20).length cap ∧ I' = I) := by
  refine FSo.intro (n := 8) Try.func11 rfl rfl rfl (fun K Lf => ?_)
  refine XC.seq ?_
  refine XC.region ?_
  refine XO.rd rfl rfl rfl (Reads.assign rfl) ?_
  refine XO.nil ?_
  refine XQ.then_normal ?_
  refine XC.seq ?_
  refine XC.region ?_
  refine XO.rd rfl rfl rfl (Reads.move rfl) ?_
  refine XO.rd rfl rfl rfl (Reads.move rfl) ?_
  refine XO.rd rfl rfl rfl (Reads.len_slice Try.underlying22 rfl) ?_
  refine XO.rd rfl rfl rfl (Reads.min rfl rfl) ?_
  refine XO.rd rfl rfl rfl (Reads.slice_to Try.underlying22 z3 rfl rfl (by omega)) ?_
  rw [show (min (l.length : Int) 20).toNat = (l.take 20).length by rw [List.length_take]; omega]
  refine XO.rd rfl rfl rfl (Reads.assign rfl) ?_
  refine XO.nil ?_
  refine XQ.then_normal ?_
  refine XC.ret ?_
  refine XQ.done1 rfl rfl (Im.le_refl _) ?_
  exact ⟨rfl, rfl, rfl⟩

theorem implies_yes (x : Nums) (ah ab ay : Option Addr) (ch cb cy : Nat) (y0 y1 y2 : Int) (y : List Int) (I : Im) (hx : x.Ok) (hH : Arr I ah x.hidden) (hB : Arr I ab x.bnds) (hy0 : In64 y0) (hy1 : In64 y1) (hy2 : In64 y2) (hY : Arr I ay y) (hyc : y.length ≤ cy) (hK : x.hit.made.keeps (x.hit.vb y0 y1 (pickI y2 60 - 20)) = true) : FC Try.prog 6 [.agg #[.int .i64 x.n, .slice ah x.hidden.length ch, .slice ab x.bnds.length cb, .int .i64 x.miss], .agg #[.int .i64 y0, .int .i64 y1, .int .i64 y2], .slice ay y.length cy] I (fun u I' => u = .bool true) := by
  have hI := Im.le_refl I
  have hxy := Nums.hit_ok hx
  have hN := x.hit.hidN_range
  have hsm := x.hit.made_small
  have hok := x.hit.made_ok
  have hml := x.hit.made_len
  have hsit := Nums.hid_sit x.hit_no
  have hfi := hsm.sit hsit x.hit.hid_bd
  have hy0p := pickI_range (c := y0) (n := x.hit.hidN) (by omega)
  have hy1p := pickI_range (c := y1) (n := x.hit.hidN) (by omega)
  have hy2p := pickI_range (c := y2) (n := 60) (by omega)
  have hft : (pickI y0 x.hit.hidN).toNat < x.hit.hidN := by omega
  have htt : (pickI y1 x.hit.hidN).toNat < x.hit.hidN := by omega
  have hff := x.hit.hidF_range (pickI y0 x.hit.hidN).toNat
  have htf := x.hit.hidF_range (pickI y1 x.hit.hidN).toNat
  have hvr := x.hit.vb_range y0 y1 (m := pickI y2 60 - 20) (by omega)
  have hsol := hsm.solve_some hok hfi.1
  have hsd := hsm.solved hfi.1
  have hp3 := x.hit.pow300
  have hal0 := (hsm.allowed (p := solveP x.hit.made.dist x.hit.hidN) hok (fun i hi => by have := hsd.neg i hi; omega)).2 hsd.sit
  have hdsv := (hsm.sit hsd.sit (fun i hi => by have := hsd.neg i hi; omega)).2
  have halh := (hsm.allowed (p := x.hit.hidF) hok (fun i hi => by have := x.hit.hidF_range i; omega)).2 hsit
  have himp := hsm.implied_get (x.hit.vb y0 y1 (pickI y2 60 - 20))
  have hki := hsm.keeps_is hok hfi.1 hvr
  rw [hK] at hki
  have hki2 : x.hit.made.dist (x.hit.vb y0 y1 (pickI y2 60 - 20)).fr.toNat (x.hit.vb y0 y1 (pickI y2 60 - 20)).to.toNat ≤ (x.hit.vb y0 y1 (pickI y2 60 - 20)).mo := by simpa using hki.symm
  generalize hSV : solveP x.hit.made.dist x.hit.hidN = sv at hsol hsd hal0 hdsv
  have hs1 := hsd.neg _ hft
  have hs2 := hsd.neg _ htt
  have hkp : x.hit.hidF (pickI y1 x.hit.hidN).toNat - x.hit.hidF (pickI y0 x.hit.hidN).toNat ≤ (x.hit.hidF (pickI y1 x.hit.hidN).toNat - x.hit.hidF (pickI y0 x.hit.hidN).toNat + (pickI y2 60 - 20)) ∧ sv (pickI y1 x.hit.hidN).toNat - sv (pickI y0 x.hit.hidN).toNat ≤ (x.hit.hidF (pickI y1 x.hit.hidN).toNat - x.hit.hidF (pickI y0 x.hit.hidN).toNat + (pickI y2 60 - 20)) := ⟨Int.le_trans (hfi.2 _ _ hft htt) hki2, Int.le_trans (hdsv _ _ hft htt) hki2⟩
  refine FSo.intro (n := 167) Try.func6 rfl rfl rfl (fun K Lf => ?_)
  refine XC.seq ?_
  refine XC.region ?_
  refine XO.box_agg rfl rfl rfl (fun b3 => ?_)
  refine XO.box_agg rfl rfl rfl (fun b4 => ?_)
  refine XO.rd rfl rfl rfl (Reads.assign rfl) ?_
  refine XO.nil ?_
  refine XQ.then_normal ?_
  refine XC.seq ?_
  refine XC.seq ?_
  refine XC.region ?_
  refine XO.call rfl rfl en10 (sane_any _) trivial ?_
  rintro u J56 hle56 hr
  replace hI := Im.le_trans hI hle56
  replace hH := hH.mono hle56
  replace hB := hB.mono hle56
  replace hY := hY.mono hle56
  subst hr
  refine XO.rd rfl rfl rfl (Reads.not rfl) ?_
  refine XO.nil ?_
  refine XQ.then_normal ?_
  refine XC.cond rfl (fun hx => by cases hx) (fun _ => ?_)
  refine XC.skip ?_
  refine XQ.then_normal ?_
  refine XC.seq ?_
  refine XC.region ?_
  refine XO.rd rfl rfl rfl (fa25_3 rfl) ?_
  refine XO.store 1 rfl z3 rfl rfl rfl rfl (by simp) ?_
  refine XO.nil ?_
  refine XQ.then_normal ?_
  refine XC.seq ?_
  refine XC.region ?_
  refine XO.rd rfl rfl rfl (Reads.load_whole k25 z25 rfl (by first | exact WholeAt.of 0 rfl | exact WholeAt.of 1 rfl | exact WholeAt.of 2 rfl | exact WholeAt.of 3 rfl | exact WholeAt.of 4 rfl | exact WholeAt.of 5 rfl | exact WholeAt.of 6 rfl | exact WholeAt.of 7 rfl | exact WholeAt.of 8 rfl) (by rfl)) ?_
  refine XO.call rfl rfl en12 (made_any x.hit ah ab ch cb _ hxy hH hB) ⟨rfl, trivial⟩ ?_
  rintro u J57 hle57 hr
  replace hI := Im.le_trans hI hle57
  replace hH := hH.mono hle57
  replace hB := hB.mono hle57
  replace hY := hY.mono hle57
  obtain ⟨a, cap, rfl, hcap, hA⟩ := hr
  refine XO.alloc (cs := #[.int .i64 0, .slice none 0 0]) rfl rfl zo28 rfl (fun b7 => ?_)
  refine XO.store_agg (vs := [.int .i64 x.hit.made.n, .slice a x.hit.made.bs.length cap]) 0 rfl z28 rfl rfl (by simp [Value.oneCell']) rfl (by simp) ?_
  refine XO.nil ?_
  refine XQ.then_normal ?_
  refine XC.seq ?_
  refine XC.region ?_
  refine XO.rd rfl rfl rfl (Reads.load_whole k25 z25 rfl (by first | exact WholeAt.of 0 rfl | exact WholeAt.of 1 rfl | exact WholeAt.of 2 rfl | exact WholeAt.of 3 rfl | exact WholeAt.of 4 rfl | exact WholeAt.of 5 rfl | exact WholeAt.of 6 rfl | exact WholeAt.of 7 rfl | exact WholeAt.of 8 rfl) (by rfl)) ?_
  refine XO.call rfl rfl en26 (hidden_any x.hit ah ab ch cb _ hxy hH hB) ⟨rfl, trivial⟩ ?_
  rintro u J58 hle58 hr
  replace hI := Im.le_trans hI hle58
  replace hH := hH.mono hle58
  replace hB := hB.mono hle58
  replace hY := hY.mono hle58
  replace hA := hA.mono hle58
  obtain ⟨av, cv, rfl, _, hHd⟩ := hr.ex
  simp only [Nums.hid_len]
  refine XO.rd rfl rfl rfl (Reads.assign rfl) ?_
  refine XO.nil ?_
  refine XQ.then_normal ?_
  refine XC.seq ?_
  refine XC.join (ι := Nat) (fun q => [(2, .slice ay y.length cy), (4, .pointer (some ⟨b4, 0, none⟩)), (7, .pointer (some ⟨b7, 0, none⟩)), (8, .slice av x.hit.hidN cv), (9, .pointer (some ⟨q, 0, none⟩))]) (fun q => J58) (fun q => some (q, .cells #[.int .i64 (pickI y0 x.hit.hidN), .int .i64 (pickI y1 x.hit.hidN), .int .i64 0] 30 (0, 0)) :: some (b7, .cells #[.int .i64 x.hit.made.n, .slice a x.hit.made.bs.length cap] 28 (0, 0)) :: some (b4, .cells #[.int .i64 y0, .int .i64 y1, .int .i64 y2] 57 (0, 0)) :: some (b3, .cells #[.int .i64 x.n, .slice ah x.hidden.length ch, .slice ab x.bnds.length cb, .int .i64 0] 25 (0, 0)) :: ([] ++ Lf)) (fun q => True) ?_ (fun b9 hb9 => ?_)
  · skip
    refine XC.draw m_mixed (some 12) (.pure 0 (.pure 1 (.pure 2 (.pure 3 (.pure 5 (.pure 6 (.pure 7 (.pure 8 (.alt 4 (.alt 9 (.pure 10 (.eff 11 (.eff 12 (.done)))) (.eff 11 (.eff 9 (.pure 10 (.eff 12 (.done)))))) (.eff 11 (.eff 4 (.eff 9 (.pure 10 (.eff 12 (.done))))))))))))))) _ (by kernel_rfl) (List.Sublist.refl _) ?_
    refine XR.rd rfl rfl rfl (Reads.index_arr_own (q := 0) Try.underlying57 z3 rfl rfl (by decide) (by simp)) ?_
    refine XR.rd rfl rfl rfl (Reads.load_own k3 rfl (by first | exact OwnAt.of 0 rfl rfl | exact OwnAt.of 1 rfl rfl | exact OwnAt.of 2 rfl rfl | exact OwnAt.of 3 rfl rfl | exact OwnAt.of 4 rfl rfl | exact OwnAt.of 5 rfl rfl | exact OwnAt.of 6 rfl rfl | exact OwnAt.of 7 rfl rfl | exact OwnAt.of 8 rfl rfl)) ?_
    refine XR.rd rfl rfl rfl (fa28_0 rfl) ?_
    refine XR.rd rfl rfl rfl (Reads.load_own (v := .int .i64 (x.hit.hidN : Int)) k3 rfl (OwnAt.of 0 rfl rfl)) ?_
    refine XR.rd rfl rfl rfl (Reads.index_arr_own (q := 1) Try.underlying57 z3 rfl rfl (by decide) (by simp)) ?_
    refine XR.rd rfl rfl rfl (Reads.load_own k3 rfl (by first | exact OwnAt.of 0 rfl rfl | exact OwnAt.of 1 rfl rfl | exact OwnAt.of 2 rfl rfl | exact OwnAt.of 3 rfl rfl | exact OwnAt.of 4 rfl rfl | exact OwnAt.of 5 rfl rfl | exact OwnAt.of 6 rfl rfl | exact OwnAt.of 7 rfl rfl | exact OwnAt.of 8 rfl rfl)) ?_
    refine XR.rd rfl rfl rfl (fa28_0 rfl) ?_
    refine XR.rd rfl rfl rfl (Reads.load_own (v := .int .i64 (x.hit.hidN : Int)) k3 rfl (OwnAt.of 0 rfl rfl)) ?_
    refine XR.alt ?_ ?_
    · skip
      refine XR.callp rfl rfl rfl en13 (pickL_any y0 _ _ hy0 (by omega)) ⟨rfl, rfl, trivial⟩ (List.Sublist.refl _) ?_
      refine XR.alt ?_ ?_
      · skip
        refine XR.callp rfl rfl rfl en13 (pickL_any y1 _ _ hy1 (by omega)) ⟨rfl, rfl, trivial⟩ (List.Sublist.refl _) ?_
        refine XR.rd rfl rfl rfl (bd30 (vs := [(0, _), (1, _)]) #[_, _, .int .i64 0] ⟨rfl, rfl, rfl, rfl, trivial⟩ rfl) ?_
        refine XR.alloc (cs := #[.int .i64 0, .int .i64 0, .int .i64 0]) rfl rfl rfl zo30 rfl (List.Sublist.refl _) (fun b9 => ?_)
        refine XR.store_agg (vs := [.int .i64 (pickI y0 x.hit.hidN), .int .i64 (pickI y1 x.hit.hidN), .int .i64 0]) 0 rfl rfl z30 rfl rfl (by simp [Value.oneCell']) rfl (by simp) (.inl rfl) ?_
        refine XR.nil ?_
        refine XQ.joined b9 trivial ⟨rfl, rfl, rfl, rfl, rfl, trivial⟩ rfl (List.Perm.refl _)
      · skip
        refine XR.alloc (cs := #[.int .i64 0, .int .i64 0, .int .i64 0]) rfl rfl rfl zo30 rfl (List.Sublist.refl _) (fun b9 => ?_)
        refine XR.callp rfl rfl rfl en13 (pickL_any y1 _ _ hy1 (by omega)) ⟨rfl, rfl, trivial⟩ (List.sublist_cons_self _ _) ?_
        refine XR.rd rfl rfl rfl (bd30 (vs := [(0, _), (1, _)]) #[_, _, .int .i64 0] ⟨rfl, rfl, rfl, rfl, trivial⟩ rfl) ?_
        refine XR.store_agg (vs := [.int .i64 (pickI y0 x.hit.hidN), .int .i64 (pickI y1 x.hit.hidN), .int .i64 0]) 0 rfl rfl z30 rfl rfl (by simp [Value.oneCell']) rfl (by simp) (.inl rfl) ?_
        refine XR.nil ?_
        refine XQ.joined b9 trivial ⟨rfl, rfl, rfl, rfl, rfl, trivial⟩ rfl (List.Perm.refl _)
    · skip
      refine XR.alloc (cs := #[.int .i64 0, .int .i64 0, .int .i64 0]) rfl rfl rfl zo30 rfl (List.Sublist.refl _) (fun b9 => ?_)
      refine XR.callp rfl rfl rfl en13 (pickL_any y0 _ _ hy0 (by omega)) ⟨rfl, rfl, trivial⟩ (List.sublist_cons_self _ _) ?_
      refine XR.callp rfl rfl rfl en13 (pickL_any y1 _ _ hy1 (by omega)) ⟨rfl, rfl, trivial⟩ (List.sublist_cons_self _ _) ?_
      refine XR.rd rfl rfl rfl (bd30 (vs := [(0, _), (1, _)]) #[_, _, .int .i64 0] ⟨rfl, rfl, rfl, rfl, trivial⟩ rfl) ?_
      refine XR.store_agg (vs := [.int .i64 (pickI y0 x.hit.hidN), .int .i64 (pickI y1 x.hit.hidN), .int .i64 0]) 0 rfl rfl z30 rfl rfl (by simp [Value.oneCell']) rfl (by simp) (.inl rfl) ?_
      refine XR.nil ?_
      refine XQ.joined b9 trivial ⟨rfl, rfl, rfl, rfl, rfl, trivial⟩ rfl (List.Perm.refl _)
  · skip
    refine XQ.then_normal ?_
    refine XC.seq ?_
    refine XC.draw m_mixed (some 17) (.pure 0 (.pure 1 (.pure 2 (.pure 3 (.pure 4 (.pure 5 (.pure 6 (.pure 7 (.pure 8 (.pure 9 (.pure 10 (.pure 11 (.pure 12 (.eff 13 (.pure 14 (.pure 15 (.pure 16 (.eff 17 (.done))))))))))))))))))) _ (by kernel_rfl) (List.Sublist.refl _) ?_
    refine XR.rd rfl rfl rfl (Reads.move rfl) ?_
    refine XR.rd rfl rfl rfl (fa30_1 rfl) ?_
    refine XR.rd rfl rfl rfl (Reads.load_own k3 rfl (by first | exact OwnAt.of 0 rfl rfl | exact OwnAt.of 1 rfl rfl | exact OwnAt.of 2 rfl rfl | exact OwnAt.of 3 rfl rfl | exact OwnAt.of 4 rfl rfl | exact OwnAt.of 5 rfl rfl | exact OwnAt.of 6 rfl rfl | exact OwnAt.of 7 rfl rfl | exact OwnAt.of 8 rfl rfl)) ?_
    refine XR.rd rfl rfl rfl (Reads.index_slot Try.underlying22 z3 rfl rfl (by omega) (row_int hHd htt).isSome rfl) ?_
    refine XR.rd rfl rfl rfl (Reads.load_at k3 rfl (row_int hHd htt)) ?_
    refine XR.rd rfl rfl rfl (Reads.move rfl) ?_
    refine XR.rd rfl rfl rfl (fa30_0 rfl) ?_
    refine XR.rd rfl rfl rfl (Reads.load_own k3 rfl (by first | exact OwnAt.of 0 rfl rfl | exact OwnAt.of 1 rfl rfl | exact OwnAt.of 2 rfl rfl | exact OwnAt.of 3 rfl rfl | exact OwnAt.of 4 rfl rfl | exact OwnAt.of 5 rfl rfl | exact OwnAt.of 6 rfl rfl | exact OwnAt.of 7 rfl rfl | exact OwnAt.of 8 rfl rfl)) ?_
    refine XR.rd rfl rfl rfl (Reads.index_slot Try.underlying22 z3 rfl rfl (by omega) (row_int hHd hft).isSome rfl) ?_
    refine XR.rd rfl rfl rfl (Reads.load_at k3 rfl (row_int hHd hft)) ?_
    refine XR.rd rfl rfl rfl (Reads.sub rfl rfl (by omega)) ?_
    refine XR.rd rfl rfl rfl (Reads.index_arr_own (q := 2) Try.underlying57 z3 rfl rfl (by decide) (by simp)) ?_
    refine XR.rd rfl rfl rfl (Reads.load_own k3 rfl (by first | exact OwnAt.of 0 rfl rfl | exact OwnAt.of 1 rfl rfl | exact OwnAt.of 2 rfl rfl | exact OwnAt.of 3 rfl rfl | exact OwnAt.of 4 rfl rfl | exact OwnAt.of 5 rfl rfl | exact OwnAt.of 6 rfl rfl | exact OwnAt.of 7 rfl rfl | exact OwnAt.of 8 rfl rfl)) ?_
    refine XR.callp rfl rfl rfl en13 (pickL_any y2 60 _ hy2 (by decide)) ⟨rfl, rfl, trivial⟩ (List.Sublist.refl _) ?_
    refine XR.rd rfl rfl rfl (Reads.add rfl rfl (by omega)) ?_
    refine XR.rd rfl rfl rfl (Reads.sub rfl rfl (by omega)) ?_
    rw [show x.hit.hidF (pickI y1 x.hit.hidN).toNat - x.hit.hidF (pickI y0 x.hit.hidN).toNat + pickI y2 60 - 20 = (x.hit.hidF (pickI y1 x.hit.hidN).toNat - x.hit.hidF (pickI y0 x.hit.hidN).toNat + (pickI y2 60 - 20)) by omega]
    refine XR.rd rfl rfl rfl (fa30_2 rfl) ?_
    refine XR.store 0 rfl rfl z3 rfl rfl rfl rfl (by simp) (.inl rfl) ?_
    refine XR.nil ?_
    refine XQ.then_normal ?_
    refine XC.seq ?_
    refine XC.region ?_
    refine XO.rd rfl rfl rfl (Reads.load_whole k28 z28 rfl (by first | exact WholeAt.of 0 rfl | exact WholeAt.of 1 rfl | exact WholeAt.of 2 rfl | exact WholeAt.of 3 rfl | exact WholeAt.of 4 rfl | exact WholeAt.of 5 rfl | exact WholeAt.of 6 rfl | exact WholeAt.of 7 rfl | exact WholeAt.of 8 rfl) (by rfl)) ?_
    refine XO.rd rfl rfl rfl (Reads.load_whole (c := (x.hit.vb y0 y1 (pickI y2 60 - 20)).cs.toArray) k30 z30 rfl (WholeAt.of 0 rfl) rfl) ?_
    refine XO.call rfl rfl en33 (implied_any x.hit.made (x.hit.vb y0 y1 (pickI y2 60 - 20)) a cap _ hA (by omega) (Btw.steps _)) ⟨rfl, rfl, trivial⟩ ?_
    rintro u J59 hle59 hr
    replace hI := Im.le_trans hI hle59
    replace hH := hH.mono hle59
    replace hB := hB.mono hle59
    replace hY := hY.mono hle59
    replace hA := hA.mono hle59
    replace hHd := hHd.mono hle59
    obtain ⟨ai, ci, rfl, hIm⟩ := hr.any
    rw [hsm.implied_is, hK]
    refine XO.rd rfl rfl rfl (Reads.move rfl) ?_
    refine XO.rd rfl rfl rfl (Reads.extract rfl rfl) ?_
    refine XO.rd rfl rfl rfl (Reads.extract rfl rfl) ?_
    refine XO.rd rfl rfl rfl (Reads.assign rfl) ?_
    refine XO.rd rfl rfl rfl (Reads.assign rfl) ?_
    refine XO.nil ?_
    refine XQ.then_normal ?_
    refine XC.seq ?_
    refine XC.region ?_
    refine XO.rd rfl rfl rfl (Reads.load_whole k28 z28 rfl (by first | exact WholeAt.of 0 rfl | exact WholeAt.of 1 rfl | exact WholeAt.of 2 rfl | exact WholeAt.of 3 rfl | exact WholeAt.of 4 rfl | exact WholeAt.of 5 rfl | exact WholeAt.of 6 rfl | exact WholeAt.of 7 rfl | exact WholeAt.of 8 rfl) (by rfl)) ?_
    refine XO.call rfl rfl en18 (solve_any x.hit.made a cap _ hA (by omega)) ⟨rfl, trivial⟩ ?_
    rintro u J60 hle60 hr
    replace hI := Im.le_trans hI hle60
    replace hH := hH.mono hle60
    replace hB := hB.mono hle60
    replace hY := hY.mono hle60
    replace hA := hA.mono hle60
    replace hHd := hHd.mono hle60
    replace hIm := hIm.mono hle60
    obtain ⟨v7, rfl, h70⟩ := hr.yes hsol
    obtain ⟨a7, c7, rfl, _, hS⟩ := h70.ex
    simp only [List.length_map, List.length_range]
    refine XO.rd rfl rfl rfl (Reads.move rfl) ?_
    refine XO.rd rfl rfl rfl (Reads.extract rfl rfl) ?_
    refine XO.rd rfl rfl rfl (Reads.extract rfl rfl) ?_
    refine XO.rd rfl rfl rfl (Reads.assign rfl) ?_
    refine XO.rd rfl rfl rfl (Reads.assign rfl) ?_
    refine XO.nil ?_
    refine XQ.then_normal ?_
    refine XC.seq ?_
    refine XC.seq ?_
    refine XC.region ?_
    refine XO.rd rfl rfl rfl (Reads.move rfl) ?_
    refine XO.rd rfl rfl rfl (Reads.cmp rfl rfl rfl) ?_
    rw [show cmpInt .neq 0 0 = false from rfl]
    refine XO.rd rfl rfl rfl (Reads.move rfl) ?_
    refine XO.rd (wg rfl rfl rfl) rfl rfl (Reads.load_whole k28 z28 rfl (by first | exact WholeAt.of 0 rfl | exact WholeAt.of 1 rfl | exact WholeAt.of 2 rfl | exact WholeAt.of 3 rfl | exact WholeAt.of 4 rfl | exact WholeAt.of 5 rfl | exact WholeAt.of 6 rfl | exact WholeAt.of 7 rfl | exact WholeAt.of 8 rfl) (by rfl)) ?_
    refine XO.rd (wg rfl rfl rfl) rfl rfl (Reads.move rfl) ?_
    have hal := FC.boolEq (allowed_any x.hit.made a cap av ((List.range x.hit.hidN).map x.hit.hidF) cv _ hA hHd (by omega) (by simp only [List.length_map, List.length_range]; omega)) halh
    simp only [List.length_map, List.length_range] at hal
    refine XO.callp (wg rfl rfl rfl) rfl en27 hal ⟨rfl, rfl, trivial⟩ ?_
    refine XO.rd (wg rfl rfl rfl) rfl rfl (Reads.not rfl) ?_
    refine XO.rd rfl rfl rfl (Reads.pick_false rfl rfl) ?_
    refine XO.nil ?_
    refine XQ.then_normal ?_
    refine XC.cond rfl (fun hx => by cases hx) (fun _ => ?_)
    refine XC.skip ?_
    refine XQ.then_normal ?_
    refine XC.seq ?_
    refine XC.weaken (E' := [(2, _), (7, _), (8, _), (9, _), (10, _), (11, _), (12, _)]) ⟨rfl, rfl, rfl, rfl, rfl, rfl, rfl, trivial⟩ ?_
    refine XC.draw m_mixed none (.pure 0 (.pure 1 (.pure 2 (.pure 3 (.pure 4 (.pure 5 (.pure 6 (.pure 7 (.pure 8 (.pure 9 (.pure 10 (.pure 11 (.pure 12 (.pure 13 (.pure 14 (.pure 15 (.pure 16 (.pure 17 (.pure 18 (.pure 19 (.pure 20 (.pure 21 (.pure 22 (.pure 23 (.pure 24 (.pure 25 (.pure 26 (.pure 27 (.pure 28 (.pure 29 (.pure 30 (.done)))))))))))))))))))))))))))))))) _ (by kernel_rfl) (List.Sublist.refl _) ?_
    refine XR.rd rfl rfl rfl (Reads.move rfl) ?_
    refine XR.rd rfl rfl rfl (fa30_1 rfl) ?_
    refine XR.rd rfl rfl rfl (Reads.load_own k3 rfl (by first | exact OwnAt.of 0 rfl rfl | exact OwnAt.of 1 rfl rfl | exact OwnAt.of 2 rfl rfl | exact OwnAt.of 3 rfl rfl | exact OwnAt.of 4 rfl rfl | exact OwnAt.of 5 rfl rfl | exact OwnAt.of 6 rfl rfl | exact OwnAt.of 7 rfl rfl | exact OwnAt.of 8 rfl rfl)) ?_
    refine XR.rd rfl rfl rfl (Reads.index_slot Try.underlying22 z3 rfl rfl (by omega) (row_int hHd htt).isSome rfl) ?_
    refine XR.rd rfl rfl rfl (Reads.load_at k3 rfl (row_int hHd htt)) ?_
    refine XR.rd rfl rfl rfl (Reads.move rfl) ?_
    refine XR.rd rfl rfl rfl (fa30_0 rfl) ?_
    refine XR.rd rfl rfl rfl (Reads.load_own k3 rfl (by first | exact OwnAt.of 0 rfl rfl | exact OwnAt.of 1 rfl rfl | exact OwnAt.of 2 rfl rfl | exact OwnAt.of 3 rfl rfl | exact OwnAt.of 4 rfl rfl | exact OwnAt.of 5 rfl rfl | exact OwnAt.of 6 rfl rfl | exact OwnAt.of 7 rfl rfl | exact OwnAt.of 8 rfl rfl)) ?_
    refine XR.rd rfl rfl rfl (Reads.index_slot Try.underlying22 z3 rfl rfl (by omega) (row_int hHd hft).isSome rfl) ?_
    refine XR.rd rfl rfl rfl (Reads.load_at k3 rfl (row_int hHd hft)) ?_
    refine XR.rd rfl rfl rfl (Reads.sub rfl rfl (by omega)) ?_
    refine XR.rd rfl rfl rfl (fa30_2 rfl) ?_
    refine XR.rd rfl rfl rfl (Reads.load_own k3 rfl (by first | exact OwnAt.of 0 rfl rfl | exact OwnAt.of 1 rfl rfl | exact OwnAt.of 2 rfl rfl | exact OwnAt.of 3 rfl rfl | exact OwnAt.of 4 rfl rfl | exact OwnAt.of 5 rfl rfl | exact OwnAt.of 6 rfl rfl | exact OwnAt.of 7 rfl rfl | exact OwnAt.of 8 rfl rfl)) ?_
    refine XR.rd rfl rfl rfl (Reads.cmp rfl rfl rfl) ?_
    rw [show cmpInt .leq (x.hit.hidF (pickI y1 x.hit.hidN).toNat - x.hit.hidF (pickI y0 x.hit.hidN).toNat) (x.hit.hidF (pickI y1 x.hit.hidN).toNat - x.hit.hidF (pickI y0 x.hit.hidN).toNat + (pickI y2 60 - 20)) = true by simp only [cmpInt, decide_eq_true_eq]; exact hkp.1]
    refine XR.rd rfl rfl rfl (Reads.move rfl) ?_
    refine XR.rd rfl (wg rfl rfl rfl) rfl (Reads.move rfl) ?_
    refine XR.rd rfl (wg rfl rfl rfl) rfl (fa30_1 rfl) ?_
    refine XR.rd rfl (wg rfl rfl rfl) rfl (Reads.load_own k3 rfl (by first | exact OwnAt.of 0 rfl rfl | exact OwnAt.of 1 rfl rfl | exact OwnAt.of 2 rfl rfl | exact OwnAt.of 3 rfl rfl | exact OwnAt.of 4 rfl rfl | exact OwnAt.of 5 rfl rfl | exact OwnAt.of 6 rfl rfl | exact OwnAt.of 7 rfl rfl | exact OwnAt.of 8 rfl rfl)) ?_
    refine XR.rd rfl (wg rfl rfl rfl) rfl (Reads.index_slot Try.underlying22 z3 rfl rfl (by omega) (row_int hS htt).isSome rfl) ?_
    refine XR.rd rfl (wg rfl rfl rfl) rfl (Reads.load_at k3 rfl (row_int hS htt)) ?_
    refine XR.rd rfl (wg rfl rfl rfl) rfl (Reads.move rfl) ?_
    refine XR.rd rfl (wg rfl rfl rfl) rfl (fa30_0 rfl) ?_
    refine XR.rd rfl (wg rfl rfl rfl) rfl (Reads.load_own k3 rfl (by first | exact OwnAt.of 0 rfl rfl | exact OwnAt.of 1 rfl rfl | exact OwnAt.of 2 rfl rfl | exact OwnAt.of 3 rfl rfl | exact OwnAt.of 4 rfl rfl | exact OwnAt.of 5 rfl rfl | exact OwnAt.of 6 rfl rfl | exact OwnAt.of 7 rfl rfl | exact OwnAt.of 8 rfl rfl)) ?_
    refine XR.rd rfl (wg rfl rfl rfl) rfl (Reads.index_slot Try.underlying22 z3 rfl rfl (by omega) (row_int hS hft).isSome rfl) ?_
    refine XR.rd rfl (wg rfl rfl rfl) rfl (Reads.load_at k3 rfl (row_int hS hft)) ?_
    refine XR.rd rfl (wg rfl rfl rfl) rfl (Reads.sub rfl rfl (by omega)) ?_
    refine XR.rd rfl (wg rfl rfl rfl) rfl (fa30_2 rfl) ?_
    refine XR.rd rfl (wg rfl rfl rfl) rfl (Reads.load_own k3 rfl (by first | exact OwnAt.of 0 rfl rfl | exact OwnAt.of 1 rfl rfl | exact OwnAt.of 2 rfl rfl | exact OwnAt.of 3 rfl rfl | exact OwnAt.of 4 rfl rfl | exact OwnAt.of 5 rfl rfl | exact OwnAt.of 6 rfl rfl | exact OwnAt.of 7 rfl rfl | exact OwnAt.of 8 rfl rfl)) ?_
    refine XR.rd rfl (wg rfl rfl rfl) rfl (Reads.cmp rfl rfl rfl) ?_
    rw [show cmpInt .leq (sv (pickI y1 x.hit.hidN).toNat - sv (pickI y0 x.hit.hidN).toNat) (x.hit.hidF (pickI y1 x.hit.hidN).toNat - x.hit.hidF (pickI y0 x.hit.hidN).toNat + (pickI y2 60 - 20)) = true by simp only [cmpInt, decide_eq_true_eq]; exact hkp.2]
    refine XR.rd rfl rfl rfl (Reads.pick_true rfl rfl) ?_
    refine XR.rd rfl rfl rfl (Reads.assign rfl) ?_
    refine XR.nil ?_
    refine XQ.then_normal ?_
    refine XC.seq ?_
    refine XC.seq ?_
    refine XC.draw m_mixed none (.pure 0 (.pure 1 (.pure 2 (.eff 3 (.eff 4 (.pure 5 (.pure 6 (.pure 7 (.pure 8 (.pure 9 (.pure 10 (.pure 11 (.pure 12 (.done)))))))))))))) _ (by kernel_rfl) (List.Sublist.refl _) ?_
    refine XR.rd rfl rfl rfl (Reads.load_whole k28 z28 rfl (by first | exact WholeAt.of 0 rfl | exact WholeAt.of 1 rfl | exact WholeAt.of 2 rfl | exact WholeAt.of 3 rfl | exact WholeAt.of 4 rfl | exact WholeAt.of 5 rfl | exact WholeAt.of 6 rfl | exact WholeAt.of 7 rfl | exact WholeAt.of 8 rfl) (by rfl)) ?_
    refine XR.rd rfl rfl rfl (Reads.load_whole (c := (x.hit.vb y0 y1 (pickI y2 60 - 20)).cs.toArray) k30 z30 rfl (WholeAt.of 0 rfl) rfl) ?_
    refine XR.rd rfl rfl rfl (Reads.move rfl) ?_
    refine XR.callp rfl rfl rfl en11 (short_any _ _ _ _ hyc) ⟨rfl, trivial⟩ (List.Sublist.refl _) ?_
    refine XR.callp rfl rfl rfl en31 (checkChain_any x.hit.made (x.hit.vb y0 y1 (pickI y2 60 - 20)) a cap ay (y.take 20) cy _ hA (hY.take 20) (by omega) (by rw [List.length_take]; omega)) ⟨rfl, rfl, rfl, trivial⟩ (List.Sublist.refl _) ?_
    refine XR.rd rfl rfl rfl (Reads.move rfl) ?_
    refine XR.split (d := 107) rfl (fun h1 => ?_) (fun h1 => ?_)
    · skip
      try simp only [cmpInt, decide_eq_true_eq, decide_eq_false_iff_not, beq_iff_eq, bne_iff_ne, beq_eq_false_iff_ne, bne_eq_false_iff_eq] at h1
      refine XR.rd rfl (wg rfl rfl rfl) rfl (Reads.move rfl) ?_
      refine XR.rd rfl (wg rfl rfl rfl) rfl (Reads.not rfl) ?_
      refine XR.rd rfl (wg rfl rfl rfl) rfl (Reads.move rfl) ?_
      refine XR.rd rfl (wg rfl rfl rfl) rfl (Reads.move rfl) ?_
      refine XR.rd rfl (wg rfl rfl rfl) rfl (Reads.not rfl) ?_
      refine XR.rd rfl (wg rfl rfl rfl) rfl (Reads.pick_false rfl rfl) ?_
      refine XR.rd rfl rfl rfl (Reads.pick_true rfl rfl) ?_
      refine XR.nil ?_
      refine XQ.then_normal ?_
      refine XC.cond rfl (fun hx => by cases hx) (fun _ => ?_)
      refine XC.skip ?_
      refine XQ.then_normal ?_
      refine XC.seq ?_
      refine XC.seq ?_
      refine XC.weaken (E' := [(7, _), (9, _), (10, _), (11, _), (14, _)]) ⟨rfl, rfl, rfl, rfl, rfl, trivial⟩ ?_
      refine XC.region ?_
      refine XO.rd rfl rfl rfl (Reads.move rfl) ?_
      refine XO.nil ?_
      refine XQ.then_normal ?_
      refine XC.cond rfl (fun _ => ?_) (fun hx => by cases hx)
      refine XC.seq ?_
      refine XC.region ?_
      refine XO.rd rfl rfl rfl (Reads.move rfl) ?_
      refine XO.rd rfl rfl rfl (Reads.move rfl) ?_
      refine XO.rd (wg rfl rfl rfl) rfl rfl (Reads.load_whole k28 z28 rfl (by first | exact WholeAt.of 0 rfl | exact WholeAt.of 1 rfl | exact WholeAt.of 2 rfl | exact WholeAt.of 3 rfl | exact WholeAt.of 4 rfl | exact WholeAt.of 5 rfl | exact WholeAt.of 6 rfl | exact WholeAt.of 7 rfl | exact WholeAt.of 8 rfl) (by rfl)) ?_
      refine XO.rd (wg rfl rfl rfl) rfl rfl (Reads.load_whole (c := (x.hit.vb y0 y1 (pickI y2 60 - 20)).cs.toArray) k30 z30 rfl (WholeAt.of 0 rfl) rfl) ?_
      refine XO.rd (wg rfl rfl rfl) rfl rfl (Reads.move rfl) ?_
      refine XO.callp (wg rfl rfl rfl) rfl en31 (FC.boolEq (checkChain_any x.hit.made (x.hit.vb y0 y1 (pickI y2 60 - 20)) a cap ai ((x.hit.made.implied (x.hit.vb y0 y1 (pickI y2 60 - 20))).getD []) ci _ hA hIm (by omega) (by omega)) (himp.2.1 hK)) ⟨rfl, rfl, rfl, trivial⟩ ?_
      refine XO.rd rfl rfl rfl (Reads.pick_true rfl rfl) ?_
      refine XO.rd rfl rfl rfl (Reads.assign rfl) ?_
      refine XO.nil ?_
      refine XQ.then_normal ?_
      refine XC.ret ?_
      refine XQ.then_ret ?_
      refine XQ.dropn 4 ?_
      refine XQ.done1 rfl rfl hI ?_
      exact ⟨rfl, rfl⟩
    · skip
      try simp only [cmpInt, decide_eq_true_eq, decide_eq_false_iff_not, beq_iff_eq, bne_iff_ne, beq_eq_false_iff_ne, bne_eq_false_iff_eq] at h1
      refine XR.s rfl (wg rfl rfl rfl) rfl ?_
      refine XR.s rfl (wg rfl rfl rfl) rfl ?_
      refine XR.s rfl (wg rfl rfl rfl) rfl ?_
      refine XR.s rfl (wgu rfl rfl) rfl ?_
      refine XR.s rfl (wgu rfl rfl) rfl ?_
      refine XR.s rfl (wg rfl rfl rfl) rfl ?_
      refine XR.rd rfl rfl rfl (Reads.pick_false rfl rfl) ?_
      refine XR.nil ?_
      refine XQ.then_normal ?_
      refine XC.cond rfl (fun hx => by cases hx) (fun _ => ?_)
      refine XC.skip ?_
      refine XQ.then_normal ?_
      refine XC.seq ?_
      refine XC.seq ?_
      refine XC.weaken (E' := [(7, _), (9, _), (10, _), (11, _), (14, _)]) ⟨rfl, rfl, rfl, rfl, rfl, trivial⟩ ?_
      refine XC.region ?_
      refine XO.rd rfl rfl rfl (Reads.move rfl) ?_
      refine XO.nil ?_
      refine XQ.then_normal ?_
      refine XC.cond rfl (fun _ => ?_) (fun hx => by cases hx)
      refine XC.seq ?_
      refine XC.region ?_
      refine XO.rd rfl rfl rfl (Reads.move rfl) ?_
      refine XO.rd rfl rfl rfl (Reads.move rfl) ?_
      refine XO.rd (wg rfl rfl rfl) rfl rfl (Reads.load_whole k28 z28 rfl (by first | exact WholeAt.of 0 rfl | exact WholeAt.of 1 rfl | exact WholeAt.of 2 rfl | exact WholeAt.of 3 rfl | exact WholeAt.of 4 rfl | exact WholeAt.of 5 rfl | exact WholeAt.of 6 rfl | exact WholeAt.of 7 rfl | exact WholeAt.of 8 rfl) (by rfl)) ?_
      refine XO.rd (wg rfl rfl rfl) rfl rfl (Reads.load_whole (c := (x.hit.vb y0 y1 (pickI y2 60 - 20)).cs.toArray) k30 z30 rfl (WholeAt.of 0 rfl) rfl) ?_
      refine XO.rd (wg rfl rfl rfl) rfl rfl (Reads.move rfl) ?_
      refine XO.callp (wg rfl rfl rfl) rfl en31 (FC.boolEq (checkChain_any x.hit.made (x.hit.vb y0 y1 (pickI y2 60 - 20)) a cap ai ((x.hit.made.implied (x.hit.vb y0 y1 (pickI y2 60 - 20))).getD []) ci _ hA hIm (by omega) (by omega)) (himp.2.1 hK)) ⟨rfl, rfl, rfl, trivial⟩ ?_
      refine XO.rd rfl rfl rfl (Reads.pick_true rfl rfl) ?_
      refine XO.rd rfl rfl rfl (Reads.assign rfl) ?_
      refine XO.nil ?_
      refine XQ.then_normal ?_
      refine XC.ret ?_
      refine XQ.then_ret ?_
      refine XQ.dropn 4 ?_
      refine XQ.done1 rfl rfl hI ?_
      exact ⟨rfl, rfl⟩

theorem implies_no (x : Nums) (ah ab ay : Option Addr) (ch cb cy : Nat) (y0 y1 y2 : Int) (y : List Int) (I : Im) (hx : x.Ok) (hH : Arr I ah x.hidden) (hB : Arr I ab x.bnds) (hy0 : In64 y0) (hy1 : In64 y1) (hy2 : In64 y2) (hY : Arr I ay y) (hyc : y.length ≤ cy) (hK : x.hit.made.keeps (x.hit.vb y0 y1 (pickI y2 60 - 20)) = false) : FC Try.prog 6 [.agg #[.int .i64 x.n, .slice ah x.hidden.length ch, .slice ab x.bnds.length cb, .int .i64 x.miss], .agg #[.int .i64 y0, .int .i64 y1, .int .i64 y2], .slice ay y.length cy] I (fun u I' => u = .bool true) := by
  have hI := Im.le_refl I
  have hxy := Nums.hit_ok hx
  have hN := x.hit.hidN_range
  have hsm := x.hit.made_small
  have hok := x.hit.made_ok
  have hml := x.hit.made_len
  have hsit := Nums.hid_sit x.hit_no
  have hfi := hsm.sit hsit x.hit.hid_bd
  have hy0p := pickI_range (c := y0) (n := x.hit.hidN) (by omega)
  have hy1p := pickI_range (c := y1) (n := x.hit.hidN) (by omega)
  have hy2p := pickI_range (c := y2) (n := 60) (by omega)
  have hft : (pickI y0 x.hit.hidN).toNat < x.hit.hidN := by omega
  have htt : (pickI y1 x.hit.hidN).toNat < x.hit.hidN := by omega
  have hff := x.hit.hidF_range (pickI y0 x.hit.hidN).toNat
  have htf := x.hit.hidF_range (pickI y1 x.hit.hidN).toNat
  have hvr := x.hit.vb_range y0 y1 (m := pickI y2 60 - 20) (by omega)
  have hsol := hsm.solve_some hok hfi.1
  have hsd := hsm.solved hfi.1
  have hp3 := x.hit.pow300
  have hal0 := (hsm.allowed (p := solveP x.hit.made.dist x.hit.hidN) hok (fun i hi => by have := hsd.neg i hi; omega)).2 hsd.sit
  have hdsv := (hsm.sit hsd.sit (fun i hi => by have := hsd.neg i hi; omega)).2
  have halh := (hsm.allowed (p := x.hit.hidF) hok (fun i hi => by have := x.hit.hidF_range i; omega)).2 hsit
  have himp := hsm.implied_get (x.hit.vb y0 y1 (pickI y2 60 - 20))
  have hki := hsm.keeps_is hok hfi.1 hvr
  rw [hK] at hki
  have hki2 : ¬ x.hit.made.dist (x.hit.vb y0 y1 (pickI y2 60 - 20)).fr.toNat (x.hit.vb y0 y1 (pickI y2 60 - 20)).to.toNat ≤ (x.hit.vb y0 y1 (pickI y2 60 - 20)).mo := by simpa using hki.symm
  have hl0 := himp.2.2 hK
  have hck : x.hit.made.checkChain (x.hit.vb y0 y1 (pickI y2 60 - 20)) (y.take 20) = false := by
    rw [Bool.eq_false_iff]; intro hh
    exact hki2 (hsm.check_le hfi.1 hvr.1 hh)
  obtain ⟨hsmo, hfo⟩ := hsm.opposite hp3 hfi.1 hvr hki2
  have hoko : (x.hit.made.more (x.hit.vb y0 y1 (pickI y2 60 - 20)).opp).ok = true := hsmo.ok (by simp [Btw.more]; omega)
  have hml2 : (x.hit.made.more (x.hit.vb y0 y1 (pickI y2 60 - 20)).opp).bs.length ≤ 17 := by simp [Btw.more]; omega
  have hsolt := hsmo.solve_some hoko hfo
  have hst := hsmo.solved hfo
  have hp2 := two_pow_le hsmo.le hsmo.pos hsmo.top
  obtain ⟨hst1, hst2⟩ := Sit.more.1 hst.sit
  have halt := (hsm.allowed (p := solveP (x.hit.made.more (x.hit.vb y0 y1 (pickI y2 60 - 20)).opp).dist x.hit.hidN) hok (fun i hi => by have := hst.neg i hi; omega)).2 hst1
  have htn := hst.neg
  generalize hSV : solveP x.hit.made.dist x.hit.hidN = sv at hsol hsd hal0
  have hs1 := hsd.neg _ hft
  have hs2 := hsd.neg _ htt
  generalize hTV : solveP (x.hit.made.more (x.hit.vb y0 y1 (pickI y2 60 - 20)).opp).dist x.hit.hidN = tv at hsolt hst hst1 hst2 halt htn
  have hgt : (x.hit.hidF (pickI y1 x.hit.hidN).toNat - x.hit.hidF (pickI y0 x.hit.hidN).toNat + (pickI y2 60 - 20)) < tv (pickI y1 x.hit.hidN).toNat - tv (pickI y0 x.hit.hidN).toNat := by have h := hst2; simp only [Bnd.opp, Nums.vb] at h; omega
  have htf1 := htn _ hft
  have htt1 := htn _ htt
  have hp4 := hp2
  refine FSo.intro (n := 167) Try.func6 rfl rfl rfl (fun K Lf => ?_)
  refine XC.seq ?_
  refine XC.region ?_
  refine XO.box_agg rfl rfl rfl (fun b3 => ?_)
  refine XO.box_agg rfl rfl rfl (fun b4 => ?_)
  refine XO.rd rfl rfl rfl (Reads.assign rfl) ?_
  refine XO.nil ?_
  refine XQ.then_normal ?_
  refine XC.seq ?_
  refine XC.seq ?_
  refine XC.region ?_
  refine XO.call rfl rfl en10 (sane_any _) trivial ?_
  rintro u J61 hle61 hr
  replace hI := Im.le_trans hI hle61
  replace hH := hH.mono hle61
  replace hB := hB.mono hle61
  replace hY := hY.mono hle61
  subst hr
  refine XO.rd rfl rfl rfl (Reads.not rfl) ?_
  refine XO.nil ?_
  refine XQ.then_normal ?_
  refine XC.cond rfl (fun hx => by cases hx) (fun _ => ?_)
  refine XC.skip ?_
  refine XQ.then_normal ?_
  refine XC.seq ?_
  refine XC.region ?_
  refine XO.rd rfl rfl rfl (fa25_3 rfl) ?_
  refine XO.store 1 rfl z3 rfl rfl rfl rfl (by simp) ?_
  refine XO.nil ?_
  refine XQ.then_normal ?_
  refine XC.seq ?_
  refine XC.region ?_
  refine XO.rd rfl rfl rfl (Reads.load_whole k25 z25 rfl (by first | exact WholeAt.of 0 rfl | exact WholeAt.of 1 rfl | exact WholeAt.of 2 rfl | exact WholeAt.of 3 rfl | exact WholeAt.of 4 rfl | exact WholeAt.of 5 rfl | exact WholeAt.of 6 rfl | exact WholeAt.of 7 rfl | exact WholeAt.of 8 rfl) (by rfl)) ?_
  refine XO.call rfl rfl en12 (made_any x.hit ah ab ch cb _ hxy hH hB) ⟨rfl, trivial⟩ ?_
  rintro u J62 hle62 hr
  replace hI := Im.le_trans hI hle62
  replace hH := hH.mono hle62
  replace hB := hB.mono hle62
  replace hY := hY.mono hle62
  obtain ⟨a, cap, rfl, hcap, hA⟩ := hr
  refine XO.alloc (cs := #[.int .i64 0, .slice none 0 0]) rfl rfl zo28 rfl (fun b7 => ?_)
  refine XO.store_agg (vs := [.int .i64 x.hit.made.n, .slice a x.hit.made.bs.length cap]) 0 rfl z28 rfl rfl (by simp [Value.oneCell']) rfl (by simp) ?_
  refine XO.nil ?_
  refine XQ.then_normal ?_
  refine XC.seq ?_
  refine XC.region ?_
  refine XO.rd rfl rfl rfl (Reads.load_whole k25 z25 rfl (by first | exact WholeAt.of 0 rfl | exact WholeAt.of 1 rfl | exact WholeAt.of 2 rfl | exact WholeAt.of 3 rfl | exact WholeAt.of 4 rfl | exact WholeAt.of 5 rfl | exact WholeAt.of 6 rfl | exact WholeAt.of 7 rfl | exact WholeAt.of 8 rfl) (by rfl)) ?_
  refine XO.call rfl rfl en26 (hidden_any x.hit ah ab ch cb _ hxy hH hB) ⟨rfl, trivial⟩ ?_
  rintro u J63 hle63 hr
  replace hI := Im.le_trans hI hle63
  replace hH := hH.mono hle63
  replace hB := hB.mono hle63
  replace hY := hY.mono hle63
  replace hA := hA.mono hle63
  obtain ⟨av, cv, rfl, _, hHd⟩ := hr.ex
  simp only [Nums.hid_len]
  refine XO.rd rfl rfl rfl (Reads.assign rfl) ?_
  refine XO.nil ?_
  refine XQ.then_normal ?_
  refine XC.seq ?_
  refine XC.join (ι := Nat) (fun q => [(2, .slice ay y.length cy), (4, .pointer (some ⟨b4, 0, none⟩)), (7, .pointer (some ⟨b7, 0, none⟩)), (8, .slice av x.hit.hidN cv), (9, .pointer (some ⟨q, 0, none⟩))]) (fun q => J63) (fun q => some (q, .cells #[.int .i64 (pickI y0 x.hit.hidN), .int .i64 (pickI y1 x.hit.hidN), .int .i64 0] 30 (0, 0)) :: some (b7, .cells #[.int .i64 x.hit.made.n, .slice a x.hit.made.bs.length cap] 28 (0, 0)) :: some (b4, .cells #[.int .i64 y0, .int .i64 y1, .int .i64 y2] 57 (0, 0)) :: some (b3, .cells #[.int .i64 x.n, .slice ah x.hidden.length ch, .slice ab x.bnds.length cb, .int .i64 0] 25 (0, 0)) :: ([] ++ Lf)) (fun q => True) ?_ (fun b9 hb9 => ?_)
  · skip
    refine XC.draw m_mixed (some 12) (.pure 0 (.pure 1 (.pure 2 (.pure 3 (.pure 5 (.pure 6 (.pure 7 (.pure 8 (.alt 4 (.alt 9 (.pure 10 (.eff 11 (.eff 12 (.done)))) (.eff 11 (.eff 9 (.pure 10 (.eff 12 (.done)))))) (.eff 11 (.eff 4 (.eff 9 (.pure 10 (.eff 12 (.done))))))))))))))) _ (by kernel_rfl) (List.Sublist.refl _) ?_
    refine XR.rd rfl rfl rfl (Reads.index_arr_own (q := 0) Try.underlying57 z3 rfl rfl (by decide) (by simp)) ?_
    refine XR.rd rfl rfl rfl (Reads.load_own k3 rfl (by first | exact OwnAt.of 0 rfl rfl | exact OwnAt.of 1 rfl rfl | exact OwnAt.of 2 rfl rfl | exact OwnAt.of 3 rfl rfl | exact OwnAt.of 4 rfl rfl | exact OwnAt.of 5 rfl rfl | exact OwnAt.of 6 rfl rfl | exact OwnAt.of 7 rfl rfl | exact OwnAt.of 8 rfl rfl)) ?_
    refine XR.rd rfl rfl rfl (fa28_0 rfl) ?_
    refine XR.rd rfl rfl rfl (Reads.load_own (v := .int .i64 (x.hit.hidN : Int)) k3 rfl (OwnAt.of 0 rfl rfl)) ?_
    refine XR.rd rfl rfl rfl (Reads.index_arr_own (q := 1) Try.underlying57 z3 rfl rfl (by decide) (by simp)) ?_
    refine XR.rd rfl rfl rfl (Reads.load_own k3 rfl (by first | exact OwnAt.of 0 rfl rfl | exact OwnAt.of 1 rfl rfl | exact OwnAt.of 2 rfl rfl | exact OwnAt.of 3 rfl rfl | exact OwnAt.of 4 rfl rfl | exact OwnAt.of 5 rfl rfl | exact OwnAt.of 6 rfl rfl | exact OwnAt.of 7 rfl rfl | exact OwnAt.of 8 rfl rfl)) ?_
    refine XR.rd rfl rfl rfl (fa28_0 rfl) ?_
    refine XR.rd rfl rfl rfl (Reads.load_own (v := .int .i64 (x.hit.hidN : Int)) k3 rfl (OwnAt.of 0 rfl rfl)) ?_
    refine XR.alt ?_ ?_
    · skip
      refine XR.callp rfl rfl rfl en13 (pickL_any y0 _ _ hy0 (by omega)) ⟨rfl, rfl, trivial⟩ (List.Sublist.refl _) ?_
      refine XR.alt ?_ ?_
      · skip
        refine XR.callp rfl rfl rfl en13 (pickL_any y1 _ _ hy1 (by omega)) ⟨rfl, rfl, trivial⟩ (List.Sublist.refl _) ?_
        refine XR.rd rfl rfl rfl (bd30 (vs := [(0, _), (1, _)]) #[_, _, .int .i64 0] ⟨rfl, rfl, rfl, rfl, trivial⟩ rfl) ?_
        refine XR.alloc (cs := #[.int .i64 0, .int .i64 0, .int .i64 0]) rfl rfl rfl zo30 rfl (List.Sublist.refl _) (fun b9 => ?_)
        refine XR.store_agg (vs := [.int .i64 (pickI y0 x.hit.hidN), .int .i64 (pickI y1 x.hit.hidN), .int .i64 0]) 0 rfl rfl z30 rfl rfl (by simp [Value.oneCell']) rfl (by simp) (.inl rfl) ?_
        refine XR.nil ?_
        refine XQ.joined b9 trivial ⟨rfl, rfl, rfl, rfl, rfl, trivial⟩ rfl (List.Perm.refl _)
      · skip
        refine XR.alloc (cs := #[.int .i64 0, .int .i64 0, .int .i64 0]) rfl rfl rfl zo30 rfl (List.Sublist.refl _) (fun b9 => ?_)
        refine XR.callp rfl rfl rfl en13 (pickL_any y1 _ _ hy1 (by omega)) ⟨rfl, rfl, trivial⟩ (List.sublist_cons_self _ _) ?_
        refine XR.rd rfl rfl rfl (bd30 (vs := [(0, _), (1, _)]) #[_, _, .int .i64 0] ⟨rfl, rfl, rfl, rfl, trivial⟩ rfl) ?_
        refine XR.store_agg (vs := [.int .i64 (pickI y0 x.hit.hidN), .int .i64 (pickI y1 x.hit.hidN), .int .i64 0]) 0 rfl rfl z30 rfl rfl (by simp [Value.oneCell']) rfl (by simp) (.inl rfl) ?_
        refine XR.nil ?_
        refine XQ.joined b9 trivial ⟨rfl, rfl, rfl, rfl, rfl, trivial⟩ rfl (List.Perm.refl _)
    · skip
      refine XR.alloc (cs := #[.int .i64 0, .int .i64 0, .int .i64 0]) rfl rfl rfl zo30 rfl (List.Sublist.refl _) (fun b9 => ?_)
      refine XR.callp rfl rfl rfl en13 (pickL_any y0 _ _ hy0 (by omega)) ⟨rfl, rfl, trivial⟩ (List.sublist_cons_self _ _) ?_
      refine XR.callp rfl rfl rfl en13 (pickL_any y1 _ _ hy1 (by omega)) ⟨rfl, rfl, trivial⟩ (List.sublist_cons_self _ _) ?_
      refine XR.rd rfl rfl rfl (bd30 (vs := [(0, _), (1, _)]) #[_, _, .int .i64 0] ⟨rfl, rfl, rfl, rfl, trivial⟩ rfl) ?_
      refine XR.store_agg (vs := [.int .i64 (pickI y0 x.hit.hidN), .int .i64 (pickI y1 x.hit.hidN), .int .i64 0]) 0 rfl rfl z30 rfl rfl (by simp [Value.oneCell']) rfl (by simp) (.inl rfl) ?_
      refine XR.nil ?_
      refine XQ.joined b9 trivial ⟨rfl, rfl, rfl, rfl, rfl, trivial⟩ rfl (List.Perm.refl _)
  · skip
    refine XQ.then_normal ?_
    refine XC.seq ?_
    refine XC.draw m_mixed (some 17) (.pure 0 (.pure 1 (.pure 2 (.pure 3 (.pure 4 (.pure 5 (.pure 6 (.pure 7 (.pure 8 (.pure 9 (.pure 10 (.pure 11 (.pure 12 (.eff 13 (.pure 14 (.pure 15 (.pure 16 (.eff 17 (.done))))))))))))))))))) _ (by kernel_rfl) (List.Sublist.refl _) ?_
    refine XR.rd rfl rfl rfl (Reads.move rfl) ?_
    refine XR.rd rfl rfl rfl (fa30_1 rfl) ?_
    refine XR.rd rfl rfl rfl (Reads.load_own k3 rfl (by first | exact OwnAt.of 0 rfl rfl | exact OwnAt.of 1 rfl rfl | exact OwnAt.of 2 rfl rfl | exact OwnAt.of 3 rfl rfl | exact OwnAt.of 4 rfl rfl | exact OwnAt.of 5 rfl rfl | exact OwnAt.of 6 rfl rfl | exact OwnAt.of 7 rfl rfl | exact OwnAt.of 8 rfl rfl)) ?_
    refine XR.rd rfl rfl rfl (Reads.index_slot Try.underlying22 z3 rfl rfl (by omega) (row_int hHd htt).isSome rfl) ?_
    refine XR.rd rfl rfl rfl (Reads.load_at k3 rfl (row_int hHd htt)) ?_
    refine XR.rd rfl rfl rfl (Reads.move rfl) ?_
    refine XR.rd rfl rfl rfl (fa30_0 rfl) ?_
    refine XR.rd rfl rfl rfl (Reads.load_own k3 rfl (by first | exact OwnAt.of 0 rfl rfl | exact OwnAt.of 1 rfl rfl | exact OwnAt.of 2 rfl rfl | exact OwnAt.of 3 rfl rfl | exact OwnAt.of 4 rfl rfl | exact OwnAt.of 5 rfl rfl | exact OwnAt.of 6 rfl rfl | exact OwnAt.of 7 rfl rfl | exact OwnAt.of 8 rfl rfl)) ?_
    refine XR.rd rfl rfl rfl (Reads.index_slot Try.underlying22 z3 rfl rfl (by omega) (row_int hHd hft).isSome rfl) ?_
    refine XR.rd rfl rfl rfl (Reads.load_at k3 rfl (row_int hHd hft)) ?_
    refine XR.rd rfl rfl rfl (Reads.sub rfl rfl (by omega)) ?_
    refine XR.rd rfl rfl rfl (Reads.index_arr_own (q := 2) Try.underlying57 z3 rfl rfl (by decide) (by simp)) ?_
    refine XR.rd rfl rfl rfl (Reads.load_own k3 rfl (by first | exact OwnAt.of 0 rfl rfl | exact OwnAt.of 1 rfl rfl | exact OwnAt.of 2 rfl rfl | exact OwnAt.of 3 rfl rfl | exact OwnAt.of 4 rfl rfl | exact OwnAt.of 5 rfl rfl | exact OwnAt.of 6 rfl rfl | exact OwnAt.of 7 rfl rfl | exact OwnAt.of 8 rfl rfl)) ?_
    refine XR.callp rfl rfl rfl en13 (pickL_any y2 60 _ hy2 (by decide)) ⟨rfl, rfl, trivial⟩ (List.Sublist.refl _) ?_
    refine XR.rd rfl rfl rfl (Reads.add rfl rfl (by omega)) ?_
    refine XR.rd rfl rfl rfl (Reads.sub rfl rfl (by omega)) ?_
    rw [show x.hit.hidF (pickI y1 x.hit.hidN).toNat - x.hit.hidF (pickI y0 x.hit.hidN).toNat + pickI y2 60 - 20 = (x.hit.hidF (pickI y1 x.hit.hidN).toNat - x.hit.hidF (pickI y0 x.hit.hidN).toNat + (pickI y2 60 - 20)) by omega]
    refine XR.rd rfl rfl rfl (fa30_2 rfl) ?_
    refine XR.store 0 rfl rfl z3 rfl rfl rfl rfl (by simp) (.inl rfl) ?_
    refine XR.nil ?_
    refine XQ.then_normal ?_
    refine XC.seq ?_
    refine XC.region ?_
    refine XO.rd rfl rfl rfl (Reads.load_whole k28 z28 rfl (by first | exact WholeAt.of 0 rfl | exact WholeAt.of 1 rfl | exact WholeAt.of 2 rfl | exact WholeAt.of 3 rfl | exact WholeAt.of 4 rfl | exact WholeAt.of 5 rfl | exact WholeAt.of 6 rfl | exact WholeAt.of 7 rfl | exact WholeAt.of 8 rfl) (by rfl)) ?_
    refine XO.rd rfl rfl rfl (Reads.load_whole (c := (x.hit.vb y0 y1 (pickI y2 60 - 20)).cs.toArray) k30 z30 rfl (WholeAt.of 0 rfl) rfl) ?_
    refine XO.call rfl rfl en33 (implied_any x.hit.made (x.hit.vb y0 y1 (pickI y2 60 - 20)) a cap _ hA (by omega) (Btw.steps _)) ⟨rfl, rfl, trivial⟩ ?_
    rintro u J64 hle64 hr
    replace hI := Im.le_trans hI hle64
    replace hH := hH.mono hle64
    replace hB := hB.mono hle64
    replace hY := hY.mono hle64
    replace hA := hA.mono hle64
    replace hHd := hHd.mono hle64
    obtain ⟨ai, ci, rfl, hIm⟩ := hr.any
    rw [hsm.implied_is, hK]
    refine XO.rd rfl rfl rfl (Reads.move rfl) ?_
    refine XO.rd rfl rfl rfl (Reads.extract rfl rfl) ?_
    refine XO.rd rfl rfl rfl (Reads.extract rfl rfl) ?_
    refine XO.rd rfl rfl rfl (Reads.assign rfl) ?_
    refine XO.rd rfl rfl rfl (Reads.assign rfl) ?_
    refine XO.nil ?_
    refine XQ.then_normal ?_
    refine XC.seq ?_
    refine XC.region ?_
    refine XO.rd rfl rfl rfl (Reads.load_whole k28 z28 rfl (by first | exact WholeAt.of 0 rfl | exact WholeAt.of 1 rfl | exact WholeAt.of 2 rfl | exact WholeAt.of 3 rfl | exact WholeAt.of 4 rfl | exact WholeAt.of 5 rfl | exact WholeAt.of 6 rfl | exact WholeAt.of 7 rfl | exact WholeAt.of 8 rfl) (by rfl)) ?_
    refine XO.call rfl rfl en18 (solve_any x.hit.made a cap _ hA (by omega)) ⟨rfl, trivial⟩ ?_
    rintro u J65 hle65 hr
    replace hI := Im.le_trans hI hle65
    replace hH := hH.mono hle65
    replace hB := hB.mono hle65
    replace hY := hY.mono hle65
    replace hA := hA.mono hle65
    replace hHd := hHd.mono hle65
    replace hIm := hIm.mono hle65
    obtain ⟨v7, rfl, h70⟩ := hr.yes hsol
    obtain ⟨a7, c7, rfl, _, hS⟩ := h70.ex
    simp only [List.length_map, List.length_range]
    refine XO.rd rfl rfl rfl (Reads.move rfl) ?_
    refine XO.rd rfl rfl rfl (Reads.extract rfl rfl) ?_
    refine XO.rd rfl rfl rfl (Reads.extract rfl rfl) ?_
    refine XO.rd rfl rfl rfl (Reads.assign rfl) ?_
    refine XO.rd rfl rfl rfl (Reads.assign rfl) ?_
    refine XO.nil ?_
    refine XQ.then_normal ?_
    refine XC.seq ?_
    refine XC.seq ?_
    refine XC.region ?_
    refine XO.rd rfl rfl rfl (Reads.move rfl) ?_
    refine XO.rd rfl rfl rfl (Reads.cmp rfl rfl rfl) ?_
    rw [show cmpInt .neq 0 0 = false from rfl]
    refine XO.rd rfl rfl rfl (Reads.move rfl) ?_
    refine XO.rd (wg rfl rfl rfl) rfl rfl (Reads.load_whole k28 z28 rfl (by first | exact WholeAt.of 0 rfl | exact WholeAt.of 1 rfl | exact WholeAt.of 2 rfl | exact WholeAt.of 3 rfl | exact WholeAt.of 4 rfl | exact WholeAt.of 5 rfl | exact WholeAt.of 6 rfl | exact WholeAt.of 7 rfl | exact WholeAt.of 8 rfl) (by rfl)) ?_
    refine XO.rd (wg rfl rfl rfl) rfl rfl (Reads.move rfl) ?_
    have hal := FC.boolEq (allowed_any x.hit.made a cap av ((List.range x.hit.hidN).map x.hit.hidF) cv _ hA hHd (by omega) (by simp only [List.length_map, List.length_range]; omega)) halh
    simp only [List.length_map, List.length_range] at hal
    refine XO.callp (wg rfl rfl rfl) rfl en27 hal ⟨rfl, rfl, trivial⟩ ?_
    refine XO.rd (wg rfl rfl rfl) rfl rfl (Reads.not rfl) ?_
    refine XO.rd rfl rfl rfl (Reads.pick_false rfl rfl) ?_
    refine XO.nil ?_
    refine XQ.then_normal ?_
    refine XC.cond rfl (fun hx => by cases hx) (fun _ => ?_)
    refine XC.skip ?_
    refine XQ.then_normal ?_
    refine XC.seq ?_
    refine XC.weaken (E' := [(2, _), (7, _), (8, _), (9, _), (10, _), (11, _), (12, _)]) ⟨rfl, rfl, rfl, rfl, rfl, rfl, rfl, trivial⟩ ?_
    refine XC.draw m_mixed none (.pure 0 (.pure 1 (.pure 2 (.pure 3 (.pure 4 (.pure 5 (.pure 6 (.pure 7 (.pure 8 (.pure 9 (.pure 10 (.pure 11 (.pure 12 (.pure 13 (.pure 14 (.pure 15 (.pure 16 (.pure 17 (.pure 18 (.pure 19 (.pure 20 (.pure 21 (.pure 22 (.pure 23 (.pure 24 (.pure 25 (.pure 26 (.pure 27 (.pure 28 (.pure 29 (.pure 30 (.done)))))))))))))))))))))))))))))))) _ (by kernel_rfl) (List.Sublist.refl _) ?_
    refine XR.rd rfl rfl rfl (Reads.move rfl) ?_
    refine XR.rd rfl rfl rfl (fa30_1 rfl) ?_
    refine XR.rd rfl rfl rfl (Reads.load_own k3 rfl (by first | exact OwnAt.of 0 rfl rfl | exact OwnAt.of 1 rfl rfl | exact OwnAt.of 2 rfl rfl | exact OwnAt.of 3 rfl rfl | exact OwnAt.of 4 rfl rfl | exact OwnAt.of 5 rfl rfl | exact OwnAt.of 6 rfl rfl | exact OwnAt.of 7 rfl rfl | exact OwnAt.of 8 rfl rfl)) ?_
    refine XR.rd rfl rfl rfl (Reads.index_slot Try.underlying22 z3 rfl rfl (by omega) (row_int hHd htt).isSome rfl) ?_
    refine XR.rd rfl rfl rfl (Reads.load_at k3 rfl (row_int hHd htt)) ?_
    refine XR.rd rfl rfl rfl (Reads.move rfl) ?_
    refine XR.rd rfl rfl rfl (fa30_0 rfl) ?_
    refine XR.rd rfl rfl rfl (Reads.load_own k3 rfl (by first | exact OwnAt.of 0 rfl rfl | exact OwnAt.of 1 rfl rfl | exact OwnAt.of 2 rfl rfl | exact OwnAt.of 3 rfl rfl | exact OwnAt.of 4 rfl rfl | exact OwnAt.of 5 rfl rfl | exact OwnAt.of 6 rfl rfl | exact OwnAt.of 7 rfl rfl | exact OwnAt.of 8 rfl rfl)) ?_
    refine XR.rd rfl rfl rfl (Reads.index_slot Try.underlying22 z3 rfl rfl (by omega) (row_int hHd hft).isSome rfl) ?_
    refine XR.rd rfl rfl rfl (Reads.load_at k3 rfl (row_int hHd hft)) ?_
    refine XR.rd rfl rfl rfl (Reads.sub rfl rfl (by omega)) ?_
    refine XR.rd rfl rfl rfl (fa30_2 rfl) ?_
    refine XR.rd rfl rfl rfl (Reads.load_own k3 rfl (by first | exact OwnAt.of 0 rfl rfl | exact OwnAt.of 1 rfl rfl | exact OwnAt.of 2 rfl rfl | exact OwnAt.of 3 rfl rfl | exact OwnAt.of 4 rfl rfl | exact OwnAt.of 5 rfl rfl | exact OwnAt.of 6 rfl rfl | exact OwnAt.of 7 rfl rfl | exact OwnAt.of 8 rfl rfl)) ?_
    refine XR.rd rfl rfl rfl (Reads.cmp rfl rfl rfl) ?_
    refine XR.rd rfl rfl rfl (Reads.move rfl) ?_
    refine XR.split (d := 86) rfl (fun h1 => ?_) (fun h1 => ?_)
    · skip
      skip
      refine XR.rd rfl (wg rfl rfl rfl) rfl (Reads.move rfl) ?_
      refine XR.rd rfl (wg rfl rfl rfl) rfl (fa30_1 rfl) ?_
      refine XR.rd rfl (wg rfl rfl rfl) rfl (Reads.load_own k3 rfl (by first | exact OwnAt.of 0 rfl rfl | exact OwnAt.of 1 rfl rfl | exact OwnAt.of 2 rfl rfl | exact OwnAt.of 3 rfl rfl | exact OwnAt.of 4 rfl rfl | exact OwnAt.of 5 rfl rfl | exact OwnAt.of 6 rfl rfl | exact OwnAt.of 7 rfl rfl | exact OwnAt.of 8 rfl rfl)) ?_
      refine XR.rd rfl (wg rfl rfl rfl) rfl (Reads.index_slot Try.underlying22 z3 rfl rfl (by omega) (row_int hS htt).isSome rfl) ?_
      refine XR.rd rfl (wg rfl rfl rfl) rfl (Reads.load_at k3 rfl (row_int hS htt)) ?_
      refine XR.rd rfl (wg rfl rfl rfl) rfl (Reads.move rfl) ?_
      refine XR.rd rfl (wg rfl rfl rfl) rfl (fa30_0 rfl) ?_
      refine XR.rd rfl (wg rfl rfl rfl) rfl (Reads.load_own k3 rfl (by first | exact OwnAt.of 0 rfl rfl | exact OwnAt.of 1 rfl rfl | exact OwnAt.of 2 rfl rfl | exact OwnAt.of 3 rfl rfl | exact OwnAt.of 4 rfl rfl | exact OwnAt.of 5 rfl rfl | exact OwnAt.of 6 rfl rfl | exact OwnAt.of 7 rfl rfl | exact OwnAt.of 8 rfl rfl)) ?_
      refine XR.rd rfl (wg rfl rfl rfl) rfl (Reads.index_slot Try.underlying22 z3 rfl rfl (by omega) (row_int hS hft).isSome rfl) ?_
      refine XR.rd rfl (wg rfl rfl rfl) rfl (Reads.load_at k3 rfl (row_int hS hft)) ?_
      refine XR.rd rfl (wg rfl rfl rfl) rfl (Reads.sub rfl rfl (by omega)) ?_
      refine XR.rd rfl (wg rfl rfl rfl) rfl (fa30_2 rfl) ?_
      refine XR.rd rfl (wg rfl rfl rfl) rfl (Reads.load_own k3 rfl (by first | exact OwnAt.of 0 rfl rfl | exact OwnAt.of 1 rfl rfl | exact OwnAt.of 2 rfl rfl | exact OwnAt.of 3 rfl rfl | exact OwnAt.of 4 rfl rfl | exact OwnAt.of 5 rfl rfl | exact OwnAt.of 6 rfl rfl | exact OwnAt.of 7 rfl rfl | exact OwnAt.of 8 rfl rfl)) ?_
      refine XR.rd rfl (wg rfl rfl rfl) rfl (Reads.cmp rfl rfl rfl) ?_
      refine XR.rd rfl rfl rfl (Reads.pick_true rfl rfl) ?_
      refine XR.rd rfl rfl rfl (Reads.assign rfl) ?_
      refine XR.nil ?_
      refine XQ.then_normal ?_
      refine XC.seq ?_
      refine XC.seq ?_
      refine XC.draw m_mixed none (.pure 0 (.pure 1 (.pure 2 (.eff 3 (.eff 4 (.pure 5 (.pure 6 (.pure 7 (.pure 8 (.pure 9 (.pure 10 (.pure 11 (.pure 12 (.done)))))))))))))) _ (by kernel_rfl) (List.Sublist.refl _) ?_
      refine XR.rd rfl rfl rfl (Reads.load_whole k28 z28 rfl (by first | exact WholeAt.of 0 rfl | exact WholeAt.of 1 rfl | exact WholeAt.of 2 rfl | exact WholeAt.of 3 rfl | exact WholeAt.of 4 rfl | exact WholeAt.of 5 rfl | exact WholeAt.of 6 rfl | exact WholeAt.of 7 rfl | exact WholeAt.of 8 rfl) (by rfl)) ?_
      refine XR.rd rfl rfl rfl (Reads.load_whole (c := (x.hit.vb y0 y1 (pickI y2 60 - 20)).cs.toArray) k30 z30 rfl (WholeAt.of 0 rfl) rfl) ?_
      refine XR.rd rfl rfl rfl (Reads.move rfl) ?_
      refine XR.callp rfl rfl rfl en11 (short_any _ _ _ _ hyc) ⟨rfl, trivial⟩ (List.Sublist.refl _) ?_
      refine XR.callp rfl rfl rfl en31 (FC.boolEq (checkChain_any x.hit.made (x.hit.vb y0 y1 (pickI y2 60 - 20)) a cap ay (y.take 20) cy _ hA (hY.take 20) (by omega) (by rw [List.length_take]; omega)) hck) ⟨rfl, rfl, rfl, trivial⟩ (List.Sublist.refl _) ?_
      refine XR.rd rfl rfl rfl (Reads.move rfl) ?_
      refine XR.s rfl (wg rfl rfl rfl) rfl ?_
      refine XR.s rfl (wg rfl rfl rfl) rfl ?_
      refine XR.s rfl (wg rfl rfl rfl) rfl ?_
      refine XR.s rfl (wgu rfl rfl) rfl ?_
      refine XR.s rfl (wgu rfl rfl) rfl ?_
      refine XR.s rfl (wg rfl rfl rfl) rfl ?_
      refine XR.rd rfl rfl rfl (Reads.pick_false rfl rfl) ?_
      refine XR.nil ?_
      refine XQ.then_normal ?_
      refine XC.cond rfl (fun hx => by cases hx) (fun _ => ?_)
      refine XC.skip ?_
      refine XQ.then_normal ?_
      refine XC.seq ?_
      refine XC.seq ?_
      refine XC.weaken (E' := [(7, _), (9, _), (10, _), (11, _), (14, _)]) ⟨rfl, rfl, rfl, rfl, rfl, trivial⟩ ?_
      refine XC.region ?_
      refine XO.rd rfl rfl rfl (Reads.move rfl) ?_
      refine XO.nil ?_
      refine XQ.then_normal ?_
      refine XC.cond rfl (fun hx => by cases hx) (fun _ => ?_)
      refine XC.skip ?_
      refine XQ.then_normal ?_
      refine XC.seq ?_
      refine XC.region ?_
      refine XO.rd rfl rfl rfl (Reads.load_whole k28 z28 rfl (by first | exact WholeAt.of 0 rfl | exact WholeAt.of 1 rfl | exact WholeAt.of 2 rfl | exact WholeAt.of 3 rfl | exact WholeAt.of 4 rfl | exact WholeAt.of 5 rfl | exact WholeAt.of 6 rfl | exact WholeAt.of 7 rfl | exact WholeAt.of 8 rfl) (by rfl)) ?_
      refine XO.rd rfl rfl rfl (fa30_1 rfl) ?_
      refine XO.rd rfl rfl rfl (Reads.load_own k3 rfl (by first | exact OwnAt.of 0 rfl rfl | exact OwnAt.of 1 rfl rfl | exact OwnAt.of 2 rfl rfl | exact OwnAt.of 3 rfl rfl | exact OwnAt.of 4 rfl rfl | exact OwnAt.of 5 rfl rfl | exact OwnAt.of 6 rfl rfl | exact OwnAt.of 7 rfl rfl | exact OwnAt.of 8 rfl rfl)) ?_
      refine XO.rd rfl rfl rfl (fa30_0 rfl) ?_
      refine XO.rd rfl rfl rfl (Reads.load_own k3 rfl (by first | exact OwnAt.of 0 rfl rfl | exact OwnAt.of 1 rfl rfl | exact OwnAt.of 2 rfl rfl | exact OwnAt.of 3 rfl rfl | exact OwnAt.of 4 rfl rfl | exact OwnAt.of 5 rfl rfl | exact OwnAt.of 6 rfl rfl | exact OwnAt.of 7 rfl rfl | exact OwnAt.of 8 rfl rfl)) ?_
      refine XO.rd rfl rfl rfl (fa30_2 rfl) ?_
      refine XO.rd rfl rfl rfl (Reads.load_own k3 rfl (by first | exact OwnAt.of 0 rfl rfl | exact OwnAt.of 1 rfl rfl | exact OwnAt.of 2 rfl rfl | exact OwnAt.of 3 rfl rfl | exact OwnAt.of 4 rfl rfl | exact OwnAt.of 5 rfl rfl | exact OwnAt.of 6 rfl rfl | exact OwnAt.of 7 rfl rfl | exact OwnAt.of 8 rfl rfl)) ?_
      refine XO.rd rfl rfl rfl (Reads.neg rfl (by omega)) ?_
      refine XO.rd rfl rfl rfl (Reads.sub rfl rfl (by omega)) ?_
      refine XO.rd rfl rfl rfl (bd30 (vs := [(0, _), (1, _), (2, _)]) #[.int .i64 (pickI y1 x.hit.hidN), .int .i64 (pickI y0 x.hit.hidN), .int .i64 (-(x.hit.hidF (pickI y1 x.hit.hidN).toNat - x.hit.hidF (pickI y0 x.hit.hidN).toNat + (pickI y2 60 - 20)) - 1)] ⟨rfl, rfl, rfl, rfl, rfl, rfl, trivial⟩ rfl) ?_
      refine XO.call rfl rfl en36 (with_any x.hit.made (x.hit.vb y0 y1 (pickI y2 60 - 20)).opp a cap _ hA (by omega)) ⟨rfl, rfl, trivial⟩ ?_
      rintro u J66 hle66 hr
      replace hI := Im.le_trans hI hle66
      replace hH := hH.mono hle66
      replace hB := hB.mono hle66
      replace hY := hY.mono hle66
      replace hA := hA.mono hle66
      replace hHd := hHd.mono hle66
      replace hIm := hIm.mono hle66
      replace hS := hS.mono hle66
      obtain ⟨aw, cw, rfl, hcw, hAw⟩ := hr
      refine XO.alloc (cs := #[.int .i64 0, .slice none 0 0]) rfl rfl zo28 rfl (fun b15 => ?_)
      refine XO.store_agg (vs := [.int .i64 (x.hit.made.more (x.hit.vb y0 y1 (pickI y2 60 - 20)).opp).n, .slice aw (x.hit.made.more (x.hit.vb y0 y1 (pickI y2 60 - 20)).opp).bs.length cw]) 0 rfl z28 rfl rfl (by simp [Value.oneCell']) rfl (by simp) ?_
      refine XO.nil ?_
      refine XQ.then_normal ?_
      refine XC.seq ?_
      refine XC.region ?_
      refine XO.rd rfl rfl rfl (Reads.load_whole k28 z28 rfl (by first | exact WholeAt.of 0 rfl | exact WholeAt.of 1 rfl | exact WholeAt.of 2 rfl | exact WholeAt.of 3 rfl | exact WholeAt.of 4 rfl | exact WholeAt.of 5 rfl | exact WholeAt.of 6 rfl | exact WholeAt.of 7 rfl | exact WholeAt.of 8 rfl) (by rfl)) ?_
      refine XO.call rfl rfl en18 (solve_any (x.hit.made.more (x.hit.vb y0 y1 (pickI y2 60 - 20)).opp) aw cw _ hAw (by omega)) ⟨rfl, trivial⟩ ?_
      rintro u J67 hle67 hr
      replace hI := Im.le_trans hI hle67
      replace hH := hH.mono hle67
      replace hB := hB.mono hle67
      replace hY := hY.mono hle67
      replace hA := hA.mono hle67
      replace hHd := hHd.mono hle67
      replace hIm := hIm.mono hle67
      replace hS := hS.mono hle67
      replace hAw := hAw.mono hle67
      obtain ⟨v8, rfl, h80⟩ := hr.yes hsolt
      obtain ⟨at_, ct, rfl, _, hT⟩ := h80.ex
      simp only [List.length_map, List.length_range]
      refine XO.rd rfl rfl rfl (Reads.move rfl) ?_
      refine XO.rd rfl rfl rfl (Reads.extract rfl rfl) ?_
      refine XO.rd rfl rfl rfl (Reads.extract rfl rfl) ?_
      refine XO.rd rfl rfl rfl (Reads.assign rfl) ?_
      refine XO.rd rfl rfl rfl (Reads.assign rfl) ?_
      refine XO.nil ?_
      refine XQ.then_normal ?_
      refine XC.seq ?_
      refine XC.draw m_mixed none (.pure 0 (.pure 1 (.pure 2 (.pure 3 (.pure 4 (.pure 5 (.pure 6 (.pure 7 (.pure 8 (.pure 9 (.eff 10 (.pure 11 (.pure 12 (.pure 13 (.pure 14 (.pure 15 (.pure 16 (.pure 17 (.pure 18 (.pure 19 (.pure 20 (.pure 21 (.pure 22 (.pure 23 (.pure 24 (.pure 25 (.pure 26 (.pure 27 (.pure 28 (.done)))))))))))))))))))))))))))))) _ (by kernel_rfl) (List.Sublist.refl _) ?_
      refine XR.rd rfl rfl rfl (Reads.move rfl) ?_
      refine XR.rd rfl rfl rfl (Reads.len_slice Try.underlying22 rfl) ?_
      refine XR.rd rfl rfl rfl (Reads.cmp rfl rfl rfl) ?_
      rw [hl0]
      rw [show cmpInt .eql ((0 : Nat) : Int) 0 = true from rfl]
      refine XR.rd rfl rfl rfl (Reads.move rfl) ?_
      refine XR.rd rfl (wg rfl rfl rfl) rfl (Reads.move rfl) ?_
      refine XR.rd rfl (wg rfl rfl rfl) rfl (Reads.cmp rfl rfl rfl) ?_
      rw [show cmpInt .eql 0 0 = true from rfl]
      refine XR.rd rfl rfl rfl (Reads.pick_true rfl rfl) ?_
      refine XR.rd rfl rfl rfl (Reads.move rfl) ?_
      refine XR.rd rfl (wg rfl rfl rfl) rfl (Reads.load_whole k28 z28 rfl (by first | exact WholeAt.of 0 rfl | exact WholeAt.of 1 rfl | exact WholeAt.of 2 rfl | exact WholeAt.of 3 rfl | exact WholeAt.of 4 rfl | exact WholeAt.of 5 rfl | exact WholeAt.of 6 rfl | exact WholeAt.of 7 rfl | exact WholeAt.of 8 rfl) (by rfl)) ?_
      refine XR.rd rfl (wg rfl rfl rfl) rfl (Reads.move rfl) ?_
      have hal := FC.boolEq (allowed_any x.hit.made a cap at_ ((List.range x.hit.hidN).map tv) ct _ hA hT (by omega) (by simp only [List.length_map, List.length_range]; omega)) halt
      simp only [List.length_map, List.length_range] at hal
      refine XR.callp rfl (wg rfl rfl rfl) rfl en27 hal ⟨rfl, rfl, trivial⟩ (List.Sublist.refl _) ?_
      refine XR.rd rfl rfl rfl (Reads.pick_true rfl rfl) ?_
      refine XR.rd rfl rfl rfl (Reads.move rfl) ?_
      refine XR.rd rfl (wg rfl rfl rfl) rfl (Reads.move rfl) ?_
      refine XR.rd rfl (wg rfl rfl rfl) rfl (fa30_1 rfl) ?_
      refine XR.rd rfl (wg rfl rfl rfl) rfl (Reads.load_own k3 rfl (by first | exact OwnAt.of 0 rfl rfl | exact OwnAt.of 1 rfl rfl | exact OwnAt.of 2 rfl rfl | exact OwnAt.of 3 rfl rfl | exact OwnAt.of 4 rfl rfl | exact OwnAt.of 5 rfl rfl | exact OwnAt.of 6 rfl rfl | exact OwnAt.of 7 rfl rfl | exact OwnAt.of 8 rfl rfl)) ?_
      refine XR.rd rfl (wg rfl rfl rfl) rfl (Reads.index_slot Try.underlying22 z3 rfl rfl (by omega) (row_int hT htt).isSome rfl) ?_
      refine XR.rd rfl (wg rfl rfl rfl) rfl (Reads.load_at k3 rfl (row_int hT htt)) ?_
      refine XR.rd rfl (wg rfl rfl rfl) rfl (Reads.move rfl) ?_
      refine XR.rd rfl (wg rfl rfl rfl) rfl (fa30_0 rfl) ?_
      refine XR.rd rfl (wg rfl rfl rfl) rfl (Reads.load_own k3 rfl (by first | exact OwnAt.of 0 rfl rfl | exact OwnAt.of 1 rfl rfl | exact OwnAt.of 2 rfl rfl | exact OwnAt.of 3 rfl rfl | exact OwnAt.of 4 rfl rfl | exact OwnAt.of 5 rfl rfl | exact OwnAt.of 6 rfl rfl | exact OwnAt.of 7 rfl rfl | exact OwnAt.of 8 rfl rfl)) ?_
      refine XR.rd rfl (wg rfl rfl rfl) rfl (Reads.index_slot Try.underlying22 z3 rfl rfl (by omega) (row_int hT hft).isSome rfl) ?_
      refine XR.rd rfl (wg rfl rfl rfl) rfl (Reads.load_at k3 rfl (row_int hT hft)) ?_
      refine XR.rd rfl (wg rfl rfl rfl) rfl (Reads.sub rfl rfl (by omega)) ?_
      refine XR.rd rfl (wg rfl rfl rfl) rfl (fa30_2 rfl) ?_
      refine XR.rd rfl (wg rfl rfl rfl) rfl (Reads.load_own k3 rfl (by first | exact OwnAt.of 0 rfl rfl | exact OwnAt.of 1 rfl rfl | exact OwnAt.of 2 rfl rfl | exact OwnAt.of 3 rfl rfl | exact OwnAt.of 4 rfl rfl | exact OwnAt.of 5 rfl rfl | exact OwnAt.of 6 rfl rfl | exact OwnAt.of 7 rfl rfl | exact OwnAt.of 8 rfl rfl)) ?_
      refine XR.rd rfl (wg rfl rfl rfl) rfl (Reads.cmp rfl rfl rfl) ?_
      rw [show cmpInt .gtr (tv (pickI y1 x.hit.hidN).toNat - tv (pickI y0 x.hit.hidN).toNat) (x.hit.hidF (pickI y1 x.hit.hidN).toNat - x.hit.hidF (pickI y0 x.hit.hidN).toNat + (pickI y2 60 - 20)) = true by simp only [cmpInt, decide_eq_true_eq]; exact hgt]
      refine XR.rd rfl rfl rfl (Reads.pick_true rfl rfl) ?_
      refine XR.rd rfl rfl rfl (Reads.assign rfl) ?_
      refine XR.nil ?_
      refine XQ.then_normal ?_
      refine XC.ret ?_
      refine XQ.dropn 5 ?_
      refine XQ.done1 rfl rfl hI ?_
      exact ⟨rfl, rfl⟩
    · skip
      skip
      refine XR.s rfl (wg rfl rfl rfl) rfl ?_
      refine XR.s rfl (wg rfl rfl rfl) rfl ?_
      refine XR.s rfl (wg rfl rfl rfl) rfl ?_
      refine XR.s rfl (wg rfl rfl rfl) rfl ?_
      refine XR.s rfl (wg rfl rfl rfl) rfl ?_
      refine XR.s rfl (wg rfl rfl rfl) rfl ?_
      refine XR.s rfl (wg rfl rfl rfl) rfl ?_
      refine XR.s rfl (wg rfl rfl rfl) rfl ?_
      refine XR.s rfl (wg rfl rfl rfl) rfl ?_
      refine XR.s rfl (wg rfl rfl rfl) rfl ?_
      refine XR.s rfl (wg rfl rfl rfl) rfl ?_
      refine XR.s rfl (wg rfl rfl rfl) rfl ?_
      refine XR.s rfl (wg rfl rfl rfl) rfl ?_
      refine XR.s rfl (wg rfl rfl rfl) rfl ?_
      refine XR.rd rfl rfl rfl (Reads.pick_false rfl rfl) ?_
      refine XR.rd rfl rfl rfl (Reads.assign rfl) ?_
      refine XR.nil ?_
      refine XQ.then_normal ?_
      refine XC.seq ?_
      refine XC.seq ?_
      refine XC.draw m_mixed none (.pure 0 (.pure 1 (.pure 2 (.eff 3 (.eff 4 (.pure 5 (.pure 6 (.pure 7 (.pure 8 (.pure 9 (.pure 10 (.pure 11 (.pure 12 (.done)))))))))))))) _ (by kernel_rfl) (List.Sublist.refl _) ?_
      refine XR.rd rfl rfl rfl (Reads.load_whole k28 z28 rfl (by first | exact WholeAt.of 0 rfl | exact WholeAt.of 1 rfl | exact WholeAt.of 2 rfl | exact WholeAt.of 3 rfl | exact WholeAt.of 4 rfl | exact WholeAt.of 5 rfl | exact WholeAt.of 6 rfl | exact WholeAt.of 7 rfl | exact WholeAt.of 8 rfl) (by rfl)) ?_
      refine XR.rd rfl rfl rfl (Reads.load_whole (c := (x.hit.vb y0 y1 (pickI y2 60 - 20)).cs.toArray) k30 z30 rfl (WholeAt.of 0 rfl) rfl) ?_
      refine XR.rd rfl rfl rfl (Reads.move rfl) ?_
      refine XR.callp rfl rfl rfl en11 (short_any _ _ _ _ hyc) ⟨rfl, trivial⟩ (List.Sublist.refl _) ?_
      refine XR.callp rfl rfl rfl en31 (FC.boolEq (checkChain_any x.hit.made (x.hit.vb y0 y1 (pickI y2 60 - 20)) a cap ay (y.take 20) cy _ hA (hY.take 20) (by omega) (by rw [List.length_take]; omega)) hck) ⟨rfl, rfl, rfl, trivial⟩ (List.Sublist.refl _) ?_
      refine XR.rd rfl rfl rfl (Reads.move rfl) ?_
      refine XR.s rfl (wg rfl rfl rfl) rfl ?_
      refine XR.s rfl (wg rfl rfl rfl) rfl ?_
      refine XR.s rfl (wg rfl rfl rfl) rfl ?_
      refine XR.s rfl (wgu rfl rfl) rfl ?_
      refine XR.s rfl (wgu rfl rfl) rfl ?_
      refine XR.s rfl (wg rfl rfl rfl) rfl ?_
      refine XR.rd rfl rfl rfl (Reads.pick_false rfl rfl) ?_
      refine XR.nil ?_
      refine XQ.then_normal ?_
      refine XC.cond rfl (fun hx => by cases hx) (fun _ => ?_)
      refine XC.skip ?_
      refine XQ.then_normal ?_
      refine XC.seq ?_
      refine XC.seq ?_
      refine XC.weaken (E' := [(7, _), (9, _), (10, _), (11, _), (14, _)]) ⟨rfl, rfl, rfl, rfl, rfl, trivial⟩ ?_
      refine XC.region ?_
      refine XO.rd rfl rfl rfl (Reads.move rfl) ?_
      refine XO.nil ?_
      refine XQ.then_normal ?_
      refine XC.cond rfl (fun hx => by cases hx) (fun _ => ?_)
      refine XC.skip ?_
      refine XQ.then_normal ?_
      refine XC.seq ?_
      refine XC.region ?_
      refine XO.rd rfl rfl rfl (Reads.load_whole k28 z28 rfl (by first | exact WholeAt.of 0 rfl | exact WholeAt.of 1 rfl | exact WholeAt.of 2 rfl | exact WholeAt.of 3 rfl | exact WholeAt.of 4 rfl | exact WholeAt.of 5 rfl | exact WholeAt.of 6 rfl | exact WholeAt.of 7 rfl | exact WholeAt.of 8 rfl) (by rfl)) ?_
      refine XO.rd rfl rfl rfl (fa30_1 rfl) ?_
      refine XO.rd rfl rfl rfl (Reads.load_own k3 rfl (by first | exact OwnAt.of 0 rfl rfl | exact OwnAt.of 1 rfl rfl | exact OwnAt.of 2 rfl rfl | exact OwnAt.of 3 rfl rfl | exact OwnAt.of 4 rfl rfl | exact OwnAt.of 5 rfl rfl | exact OwnAt.of 6 rfl rfl | exact OwnAt.of 7 rfl rfl | exact OwnAt.of 8 rfl rfl)) ?_
      refine XO.rd rfl rfl rfl (fa30_0 rfl) ?_
      refine XO.rd rfl rfl rfl (Reads.load_own k3 rfl (by first | exact OwnAt.of 0 rfl rfl | exact OwnAt.of 1 rfl rfl | exact OwnAt.of 2 rfl rfl | exact OwnAt.of 3 rfl rfl | exact OwnAt.of 4 rfl rfl | exact OwnAt.of 5 rfl rfl | exact OwnAt.of 6 rfl rfl | exact OwnAt.of 7 rfl rfl | exact OwnAt.of 8 rfl rfl)) ?_
      refine XO.rd rfl rfl rfl (fa30_2 rfl) ?_
      refine XO.rd rfl rfl rfl (Reads.load_own k3 rfl (by first | exact OwnAt.of 0 rfl rfl | exact OwnAt.of 1 rfl rfl | exact OwnAt.of 2 rfl rfl | exact OwnAt.of 3 rfl rfl | exact OwnAt.of 4 rfl rfl | exact OwnAt.of 5 rfl rfl | exact OwnAt.of 6 rfl rfl | exact OwnAt.of 7 rfl rfl | exact OwnAt.of 8 rfl rfl)) ?_
      refine XO.rd rfl rfl rfl (Reads.neg rfl (by omega)) ?_
      refine XO.rd rfl rfl rfl (Reads.sub rfl rfl (by omega)) ?_
      refine XO.rd rfl rfl rfl (bd30 (vs := [(0, _), (1, _), (2, _)]) #[.int .i64 (pickI y1 x.hit.hidN), .int .i64 (pickI y0 x.hit.hidN), .int .i64 (-(x.hit.hidF (pickI y1 x.hit.hidN).toNat - x.hit.hidF (pickI y0 x.hit.hidN).toNat + (pickI y2 60 - 20)) - 1)] ⟨rfl, rfl, rfl, rfl, rfl, rfl, trivial⟩ rfl) ?_
      refine XO.call rfl rfl en36 (with_any x.hit.made (x.hit.vb y0 y1 (pickI y2 60 - 20)).opp a cap _ hA (by omega)) ⟨rfl, rfl, trivial⟩ ?_
      rintro u J68 hle68 hr
      replace hI := Im.le_trans hI hle68
      replace hH := hH.mono hle68
      replace hB := hB.mono hle68
      replace hY := hY.mono hle68
      replace hA := hA.mono hle68
      replace hHd := hHd.mono hle68
      replace hIm := hIm.mono hle68
      replace hS := hS.mono hle68
      obtain ⟨aw, cw, rfl, hcw, hAw⟩ := hr
      refine XO.alloc (cs := #[.int .i64 0, .slice none 0 0]) rfl rfl zo28 rfl (fun b15 => ?_)
      refine XO.store_agg (vs := [.int .i64 (x.hit.made.more (x.hit.vb y0 y1 (pickI y2 60 - 20)).opp).n, .slice aw (x.hit.made.more (x.hit.vb y0 y1 (pickI y2 60 - 20)).opp).bs.length cw]) 0 rfl z28 rfl rfl (by simp [Value.oneCell']) rfl (by simp) ?_
      refine XO.nil ?_
      refine XQ.then_normal ?_
      refine XC.seq ?_
      refine XC.region ?_
      refine XO.rd rfl rfl rfl (Reads.load_whole k28 z28 rfl (by first | exact WholeAt.of 0 rfl | exact WholeAt.of 1 rfl | exact WholeAt.of 2 rfl | exact WholeAt.of 3 rfl | exact WholeAt.of 4 rfl | exact WholeAt.of 5 rfl | exact WholeAt.of 6 rfl | exact WholeAt.of 7 rfl | exact WholeAt.of 8 rfl) (by rfl)) ?_
      refine XO.call rfl rfl en18 (solve_any (x.hit.made.more (x.hit.vb y0 y1 (pickI y2 60 - 20)).opp) aw cw _ hAw (by omega)) ⟨rfl, trivial⟩ ?_
      rintro u J69 hle69 hr
      replace hI := Im.le_trans hI hle69
      replace hH := hH.mono hle69
      replace hB := hB.mono hle69
      replace hY := hY.mono hle69
      replace hA := hA.mono hle69
      replace hHd := hHd.mono hle69
      replace hIm := hIm.mono hle69
      replace hS := hS.mono hle69
      replace hAw := hAw.mono hle69
      obtain ⟨v8, rfl, h80⟩ := hr.yes hsolt
      obtain ⟨at_, ct, rfl, _, hT⟩ := h80.ex
      simp only [List.length_map, List.length_range]
      refine XO.rd rfl rfl rfl (Reads.move rfl) ?_
      refine XO.rd rfl rfl rfl (Reads.extract rfl rfl) ?_
      refine XO.rd rfl rfl rfl (Reads.extract rfl rfl) ?_
      refine XO.rd rfl rfl rfl (Reads.assign rfl) ?_
      refine XO.rd rfl rfl rfl (Reads.assign rfl) ?_
      refine XO.nil ?_
      refine XQ.then_normal ?_
      refine XC.seq ?_
      refine XC.draw m_mixed none (.pure 0 (.pure 1 (.pure 2 (.pure 3 (.pure 4 (.pure 5 (.pure 6 (.pure 7 (.pure 8 (.pure 9 (.eff 10 (.pure 11 (.pure 12 (.pure 13 (.pure 14 (.pure 15 (.pure 16 (.pure 17 (.pure 18 (.pure 19 (.pure 20 (.pure 21 (.pure 22 (.pure 23 (.pure 24 (.pure 25 (.pure 26 (.pure 27 (.pure 28 (.done)))))))))))))))))))))))))))))) _ (by kernel_rfl) (List.Sublist.refl _) ?_
      refine XR.rd rfl rfl rfl (Reads.move rfl) ?_
      refine XR.rd rfl rfl rfl (Reads.len_slice Try.underlying22 rfl) ?_
      refine XR.rd rfl rfl rfl (Reads.cmp rfl rfl rfl) ?_
      rw [hl0]
      rw [show cmpInt .eql ((0 : Nat) : Int) 0 = true from rfl]
      refine XR.rd rfl rfl rfl (Reads.move rfl) ?_
      refine XR.rd rfl (wg rfl rfl rfl) rfl (Reads.move rfl) ?_
      refine XR.rd rfl (wg rfl rfl rfl) rfl (Reads.cmp rfl rfl rfl) ?_
      rw [show cmpInt .eql 0 0 = true from rfl]
      refine XR.rd rfl rfl rfl (Reads.pick_true rfl rfl) ?_
      refine XR.rd rfl rfl rfl (Reads.move rfl) ?_
      refine XR.rd rfl (wg rfl rfl rfl) rfl (Reads.load_whole k28 z28 rfl (by first | exact WholeAt.of 0 rfl | exact WholeAt.of 1 rfl | exact WholeAt.of 2 rfl | exact WholeAt.of 3 rfl | exact WholeAt.of 4 rfl | exact WholeAt.of 5 rfl | exact WholeAt.of 6 rfl | exact WholeAt.of 7 rfl | exact WholeAt.of 8 rfl) (by rfl)) ?_
      refine XR.rd rfl (wg rfl rfl rfl) rfl (Reads.move rfl) ?_
      have hal := FC.boolEq (allowed_any x.hit.made a cap at_ ((List.range x.hit.hidN).map tv) ct _ hA hT (by omega) (by simp only [List.length_map, List.length_range]; omega)) halt
      simp only [List.length_map, List.length_range] at hal
      refine XR.callp rfl (wg rfl rfl rfl) rfl en27 hal ⟨rfl, rfl, trivial⟩ (List.Sublist.refl _) ?_
      refine XR.rd rfl rfl rfl (Reads.pick_true rfl rfl) ?_
      refine XR.rd rfl rfl rfl (Reads.move rfl) ?_
      refine XR.rd rfl (wg rfl rfl rfl) rfl (Reads.move rfl) ?_
      refine XR.rd rfl (wg rfl rfl rfl) rfl (fa30_1 rfl) ?_
      refine XR.rd rfl (wg rfl rfl rfl) rfl (Reads.load_own k3 rfl (by first | exact OwnAt.of 0 rfl rfl | exact OwnAt.of 1 rfl rfl | exact OwnAt.of 2 rfl rfl | exact OwnAt.of 3 rfl rfl | exact OwnAt.of 4 rfl rfl | exact OwnAt.of 5 rfl rfl | exact OwnAt.of 6 rfl rfl | exact OwnAt.of 7 rfl rfl | exact OwnAt.of 8 rfl rfl)) ?_
      refine XR.rd rfl (wg rfl rfl rfl) rfl (Reads.index_slot Try.underlying22 z3 rfl rfl (by omega) (row_int hT htt).isSome rfl) ?_
      refine XR.rd rfl (wg rfl rfl rfl) rfl (Reads.load_at k3 rfl (row_int hT htt)) ?_
      refine XR.rd rfl (wg rfl rfl rfl) rfl (Reads.move rfl) ?_
      refine XR.rd rfl (wg rfl rfl rfl) rfl (fa30_0 rfl) ?_
      refine XR.rd rfl (wg rfl rfl rfl) rfl (Reads.load_own k3 rfl (by first | exact OwnAt.of 0 rfl rfl | exact OwnAt.of 1 rfl rfl | exact OwnAt.of 2 rfl rfl | exact OwnAt.of 3 rfl rfl | exact OwnAt.of 4 rfl rfl | exact OwnAt.of 5 rfl rfl | exact OwnAt.of 6 rfl rfl | exact OwnAt.of 7 rfl rfl | exact OwnAt.of 8 rfl rfl)) ?_
      refine XR.rd rfl (wg rfl rfl rfl) rfl (Reads.index_slot Try.underlying22 z3 rfl rfl (by omega) (row_int hT hft).isSome rfl) ?_
      refine XR.rd rfl (wg rfl rfl rfl) rfl (Reads.load_at k3 rfl (row_int hT hft)) ?_
      refine XR.rd rfl (wg rfl rfl rfl) rfl (Reads.sub rfl rfl (by omega)) ?_
      refine XR.rd rfl (wg rfl rfl rfl) rfl (fa30_2 rfl) ?_
      refine XR.rd rfl (wg rfl rfl rfl) rfl (Reads.load_own k3 rfl (by first | exact OwnAt.of 0 rfl rfl | exact OwnAt.of 1 rfl rfl | exact OwnAt.of 2 rfl rfl | exact OwnAt.of 3 rfl rfl | exact OwnAt.of 4 rfl rfl | exact OwnAt.of 5 rfl rfl | exact OwnAt.of 6 rfl rfl | exact OwnAt.of 7 rfl rfl | exact OwnAt.of 8 rfl rfl)) ?_
      refine XR.rd rfl (wg rfl rfl rfl) rfl (Reads.cmp rfl rfl rfl) ?_
      rw [show cmpInt .gtr (tv (pickI y1 x.hit.hidN).toNat - tv (pickI y0 x.hit.hidN).toNat) (x.hit.hidF (pickI y1 x.hit.hidN).toNat - x.hit.hidF (pickI y0 x.hit.hidN).toNat + (pickI y2 60 - 20)) = true by simp only [cmpInt, decide_eq_true_eq]; exact hgt]
      refine XR.rd rfl rfl rfl (Reads.pick_true rfl rfl) ?_
      refine XR.rd rfl rfl rfl (Reads.assign rfl) ?_
      refine XR.nil ?_
      refine XQ.then_normal ?_
      refine XC.ret ?_
      refine XQ.dropn 5 ?_
      refine XQ.done1 rfl rfl hI ?_
      exact ⟨rfl, rfl⟩

end Go.Proofs.Ytlgfpieokaegiaa
