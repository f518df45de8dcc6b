/- Walks of layer 6: BetweenMore. -/
import Derived.Test.YtlgfpieokaegiaaB7
import Derived.Test.YtlgfpieokaegiaaB11
import Derived.Test.YtlgfpieokaegiaaP9
namespace Go.Proofs.Ytlgfpieokaegiaa
open Go.Xe

theorem more_any (x : Nums) (ah ab : Option Addr) (ch cb : Nat) (y0 y1 y2 : Int) (I : Im) (hx : x.Ok) (hH : Arr I ah x.hidden) (hB : Arr I ab x.bnds) (hy0 : In64 y0) (hy1 : In64 y1) (hy2 : In64 y2) : FC Try.prog 8 [.agg #[.int .i64 x.n, .slice ah x.hidden.length ch, .slice ab x.bnds.length cb, .int .i64 x.miss], .agg #[.int .i64 y0, .int .i64 y1, .int .i64 y2]] I (fun u I' => u = .bool true) := by
  have hI := Im.le_refl I
  have hxy := Nums.hit_ok hx
  have hN := x.hit.hidN_range
  have hsm := x.hit.made_small
  have hok := x.hit.made_ok
  have hml := x.hit.made_len
  have hsit := Nums.hid_sit x.hit_no
  have hfi := hsm.sit hsit x.hit.hid_bd
  have hy0p := pickI_range (c := y0) (n := x.hit.hidN) (by omega)
  have hy1p := pickI_range (c := y1) (n := x.hit.hidN) (by omega)
  have hy2p := pickI_range (c := y2) (n := 60) (by omega)
  have hft : (pickI y0 x.hit.hidN).toNat < x.hit.hidN := by omega
  have htt : (pickI y1 x.hit.hidN).toNat < x.hit.hidN := by omega
  have hff := x.hit.hidF_range (pickI y0 x.hit.hidN).toNat
  have htf := x.hit.hidF_range (pickI y1 x.hit.hidN).toNat
  have hvr := x.hit.vb_range y0 y1 (m := pickI y2 60) (by omega)
  have hmo := hsm.more hvr
  have hmok : (x.hit.made.more (x.hit.vb y0 y1 (pickI y2 60))).ok = true := hmo.ok (by simp [Btw.more]; omega)
  have hml2 : (x.hit.made.more (x.hit.vb y0 y1 (pickI y2 60))).bs.length ≤ 17 := by simp [Btw.more]; omega
  have hsm2 : Sit (x.hit.made.more (x.hit.vb y0 y1 (pickI y2 60))) x.hit.hidF := Sit.more.2 ⟨hsit, by simp only [Nums.vb]; omega⟩
  have hfm := hmo.sit hsm2 x.hit.hid_bd
  have hle := hsm.more_le hmo hfm.1
  have his := hsm.more_is hok hvr hmo hfi.1 hfm.1
  refine FSo.intro (n := 120) Try.func8 rfl rfl rfl (fun K Lf => ?_)
  refine XC.seq ?_
  refine XC.region ?_
  refine XO.box_agg rfl rfl rfl (fun b2 => ?_)
  refine XO.box_agg rfl rfl rfl (fun b3 => ?_)
  refine XO.rd rfl rfl rfl (Reads.assign rfl) ?_
  refine XO.nil ?_
  refine XQ.then_normal ?_
  refine XC.seq ?_
  refine XC.seq ?_
  refine XC.region ?_
  refine XO.call rfl rfl en10 (sane_any _) trivial ?_
  rintro u J49 hle49 hr
  replace hI := Im.le_trans hI hle49
  replace hH := hH.mono hle49
  replace hB := hB.mono hle49
  subst hr
  refine XO.rd rfl rfl rfl (Reads.not rfl) ?_
  refine XO.nil ?_
  refine XQ.then_normal ?_
  refine XC.cond rfl (fun hx => by cases hx) (fun _ => ?_)
  refine XC.skip ?_
  refine XQ.then_normal ?_
  refine XC.seq ?_
  refine XC.region ?_
  refine XO.rd rfl rfl rfl (fa25_3 rfl) ?_
  refine XO.store 1 rfl z3 rfl rfl rfl rfl (by simp) ?_
  refine XO.nil ?_
  refine XQ.then_normal ?_
  refine XC.seq ?_
  refine XC.region ?_
  refine XO.rd rfl rfl rfl (Reads.load_whole k25 z25 rfl (by first | exact WholeAt.of 0 rfl | exact WholeAt.of 1 rfl | exact WholeAt.of 2 rfl | exact WholeAt.of 3 rfl | exact WholeAt.of 4 rfl | exact WholeAt.of 5 rfl | exact WholeAt.of 6 rfl | exact WholeAt.of 7 rfl | exact WholeAt.of 8 rfl) (by rfl)) ?_
  refine XO.call rfl rfl en12 (made_any x.hit ah ab ch cb _ hxy hH hB) ⟨rfl, trivial⟩ ?_
  rintro u J50 hle50 hr
  replace hI := Im.le_trans hI hle50
  replace hH := hH.mono hle50
  replace hB := hB.mono hle50
  obtain ⟨a, cap, rfl, hcap, hA⟩ := hr
  refine XO.alloc (cs := #[.int .i64 0, .slice none 0 0]) rfl rfl zo28 rfl (fun b5 => ?_)
  refine XO.store_agg (vs := [.int .i64 x.hit.made.n, .slice a x.hit.made.bs.length cap]) 0 rfl z28 rfl rfl (by simp [Value.oneCell']) rfl (by simp) ?_
  refine XO.nil ?_
  refine XQ.then_normal ?_
  refine XC.seq ?_
  refine XC.region ?_
  refine XO.rd rfl rfl rfl (Reads.load_whole k25 z25 rfl (by first | exact WholeAt.of 0 rfl | exact WholeAt.of 1 rfl | exact WholeAt.of 2 rfl | exact WholeAt.of 3 rfl | exact WholeAt.of 4 rfl | exact WholeAt.of 5 rfl | exact WholeAt.of 6 rfl | exact WholeAt.of 7 rfl | exact WholeAt.of 8 rfl) (by rfl)) ?_
  refine XO.call rfl rfl en26 (hidden_any x.hit ah ab ch cb _ hxy hH hB) ⟨rfl, trivial⟩ ?_
  rintro u J51 hle51 hr
  replace hI := Im.le_trans hI hle51
  replace hH := hH.mono hle51
  replace hB := hB.mono hle51
  replace hA := hA.mono hle51
  obtain ⟨av, cv, rfl, _, hHd⟩ := hr.ex
  simp only [Nums.hid_len]
  refine XO.rd rfl rfl rfl (Reads.assign rfl) ?_
  refine XO.nil ?_
  refine XQ.then_normal ?_
  refine XC.seq ?_
  refine XC.join (ι := Nat) (fun q => [(3, .pointer (some ⟨b3, 0, none⟩)), (5, .pointer (some ⟨b5, 0, none⟩)), (6, .slice av x.hit.hidN cv), (7, .pointer (some ⟨q, 0, none⟩))]) (fun q => J51) (fun q => some (q, .cells #[.int .i64 (pickI y0 x.hit.hidN), .int .i64 (pickI y1 x.hit.hidN), .int .i64 0] 30 (0, 0)) :: some (b5, .cells #[.int .i64 x.hit.made.n, .slice a x.hit.made.bs.length cap] 28 (0, 0)) :: some (b3, .cells #[.int .i64 y0, .int .i64 y1, .int .i64 y2] 57 (0, 0)) :: some (b2, .cells #[.int .i64 x.n, .slice ah x.hidden.length ch, .slice ab x.bnds.length cb, .int .i64 0] 25 (0, 0)) :: ([] ++ Lf)) (fun q => True) ?_ (fun b7 hb7 => ?_)
  · skip
    refine XC.draw m_mixed (some 12) (.pure 0 (.pure 1 (.pure 2 (.pure 3 (.pure 5 (.pure 6 (.pure 7 (.pure 8 (.alt 4 (.alt 9 (.pure 10 (.eff 11 (.eff 12 (.done)))) (.eff 11 (.eff 9 (.pure 10 (.eff 12 (.done)))))) (.eff 11 (.eff 4 (.eff 9 (.pure 10 (.eff 12 (.done))))))))))))))) _ (by kernel_rfl) (List.Sublist.refl _) ?_
    refine XR.rd rfl rfl rfl (Reads.index_arr_own (q := 0) Try.underlying57 z3 rfl rfl (by decide) (by simp)) ?_
    refine XR.rd rfl rfl rfl (Reads.load_own k3 rfl (by first | exact OwnAt.of 0 rfl rfl | exact OwnAt.of 1 rfl rfl | exact OwnAt.of 2 rfl rfl | exact OwnAt.of 3 rfl rfl | exact OwnAt.of 4 rfl rfl | exact OwnAt.of 5 rfl rfl | exact OwnAt.of 6 rfl rfl | exact OwnAt.of 7 rfl rfl | exact OwnAt.of 8 rfl rfl)) ?_
    refine XR.rd rfl rfl rfl (fa28_0 rfl) ?_
    refine XR.rd rfl rfl rfl (Reads.load_own (v := .int .i64 (x.hit.hidN : Int)) k3 rfl (OwnAt.of 0 rfl rfl)) ?_
    refine XR.rd rfl rfl rfl (Reads.index_arr_own (q := 1) Try.underlying57 z3 rfl rfl (by decide) (by simp)) ?_
    refine XR.rd rfl rfl rfl (Reads.load_own k3 rfl (by first | exact OwnAt.of 0 rfl rfl | exact OwnAt.of 1 rfl rfl | exact OwnAt.of 2 rfl rfl | exact OwnAt.of 3 rfl rfl | exact OwnAt.of 4 rfl rfl | exact OwnAt.of 5 rfl rfl | exact OwnAt.of 6 rfl rfl | exact OwnAt.of 7 rfl rfl | exact OwnAt.of 8 rfl rfl)) ?_
    refine XR.rd rfl rfl rfl (fa28_0 rfl) ?_
    refine XR.rd rfl rfl rfl (Reads.load_own (v := .int .i64 (x.hit.hidN : Int)) k3 rfl (OwnAt.of 0 rfl rfl)) ?_
    refine XR.alt ?_ ?_
    · skip
      refine XR.callp rfl rfl rfl en13 (pickL_any y0 _ _ hy0 (by omega)) ⟨rfl, rfl, trivial⟩ (List.Sublist.refl _) ?_
      refine XR.alt ?_ ?_
      · skip
        refine XR.callp rfl rfl rfl en13 (pickL_any y1 _ _ hy1 (by omega)) ⟨rfl, rfl, trivial⟩ (List.Sublist.refl _) ?_
        refine XR.rd rfl rfl rfl (bd30 (vs := [(0, _), (1, _)]) #[_, _, .int .i64 0] ⟨rfl, rfl, rfl, rfl, trivial⟩ rfl) ?_
        refine XR.alloc (cs := #[.int .i64 0, .int .i64 0, .int .i64 0]) rfl rfl rfl zo30 rfl (List.Sublist.refl _) (fun b7 => ?_)
        refine XR.store_agg (vs := [.int .i64 (pickI y0 x.hit.hidN), .int .i64 (pickI y1 x.hit.hidN), .int .i64 0]) 0 rfl rfl z30 rfl rfl (by simp [Value.oneCell']) rfl (by simp) (.inl rfl) ?_
        refine XR.nil ?_
        refine XQ.joined b7 trivial ⟨rfl, rfl, rfl, rfl, trivial⟩ rfl (List.Perm.refl _)
      · skip
        refine XR.alloc (cs := #[.int .i64 0, .int .i64 0, .int .i64 0]) rfl rfl rfl zo30 rfl (List.Sublist.refl _) (fun b7 => ?_)
        refine XR.callp rfl rfl rfl en13 (pickL_any y1 _ _ hy1 (by omega)) ⟨rfl, rfl, trivial⟩ (List.sublist_cons_self _ _) ?_
        refine XR.rd rfl rfl rfl (bd30 (vs := [(0, _), (1, _)]) #[_, _, .int .i64 0] ⟨rfl, rfl, rfl, rfl, trivial⟩ rfl) ?_
        refine XR.store_agg (vs := [.int .i64 (pickI y0 x.hit.hidN), .int .i64 (pickI y1 x.hit.hidN), .int .i64 0]) 0 rfl rfl z30 rfl rfl (by simp [Value.oneCell']) rfl (by simp) (.inl rfl) ?_
        refine XR.nil ?_
        refine XQ.joined b7 trivial ⟨rfl, rfl, rfl, rfl, trivial⟩ rfl (List.Perm.refl _)
    · skip
      refine XR.alloc (cs := #[.int .i64 0, .int .i64 0, .int .i64 0]) rfl rfl rfl zo30 rfl (List.Sublist.refl _) (fun b7 => ?_)
      refine XR.callp rfl rfl rfl en13 (pickL_any y0 _ _ hy0 (by omega)) ⟨rfl, rfl, trivial⟩ (List.sublist_cons_self _ _) ?_
      refine XR.callp rfl rfl rfl en13 (pickL_any y1 _ _ hy1 (by omega)) ⟨rfl, rfl, trivial⟩ (List.sublist_cons_self _ _) ?_
      refine XR.rd rfl rfl rfl (bd30 (vs := [(0, _), (1, _)]) #[_, _, .int .i64 0] ⟨rfl, rfl, rfl, rfl, trivial⟩ rfl) ?_
      refine XR.store_agg (vs := [.int .i64 (pickI y0 x.hit.hidN), .int .i64 (pickI y1 x.hit.hidN), .int .i64 0]) 0 rfl rfl z30 rfl rfl (by simp [Value.oneCell']) rfl (by simp) (.inl rfl) ?_
      refine XR.nil ?_
      refine XQ.joined b7 trivial ⟨rfl, rfl, rfl, rfl, trivial⟩ rfl (List.Perm.refl _)
  · skip
    refine XQ.then_normal ?_
    refine XC.seq ?_
    refine XC.draw m_mixed (some 16) (.pure 0 (.pure 1 (.pure 2 (.pure 3 (.pure 4 (.pure 5 (.pure 6 (.pure 7 (.pure 8 (.pure 9 (.pure 10 (.pure 11 (.pure 12 (.eff 13 (.pure 14 (.pure 15 (.eff 16 (.done)))))))))))))))))) _ (by kernel_rfl) (List.Sublist.refl _) ?_
    refine XR.rd rfl rfl rfl (Reads.move rfl) ?_
    refine XR.rd rfl rfl rfl (fa30_1 rfl) ?_
    refine XR.rd rfl rfl rfl (Reads.load_own k3 rfl (by first | exact OwnAt.of 0 rfl rfl | exact OwnAt.of 1 rfl rfl | exact OwnAt.of 2 rfl rfl | exact OwnAt.of 3 rfl rfl | exact OwnAt.of 4 rfl rfl | exact OwnAt.of 5 rfl rfl | exact OwnAt.of 6 rfl rfl | exact OwnAt.of 7 rfl rfl | exact OwnAt.of 8 rfl rfl)) ?_
    refine XR.rd rfl rfl rfl (Reads.index_slot Try.underlying22 z3 rfl rfl (by omega) (row_int hHd htt).isSome rfl) ?_
    refine XR.rd rfl rfl rfl (Reads.load_at k3 rfl (row_int hHd htt)) ?_
    refine XR.rd rfl rfl rfl (Reads.move rfl) ?_
    refine XR.rd rfl rfl rfl (fa30_0 rfl) ?_
    refine XR.rd rfl rfl rfl (Reads.load_own k3 rfl (by first | exact OwnAt.of 0 rfl rfl | exact OwnAt.of 1 rfl rfl | exact OwnAt.of 2 rfl rfl | exact OwnAt.of 3 rfl rfl | exact OwnAt.of 4 rfl rfl | exact OwnAt.of 5 rfl rfl | exact OwnAt.of 6 rfl rfl | exact OwnAt.of 7 rfl rfl | exact OwnAt.of 8 rfl rfl)) ?_
    refine XR.rd rfl rfl rfl (Reads.index_slot Try.underlying22 z3 rfl rfl (by omega) (row_int hHd hft).isSome rfl) ?_
    refine XR.rd rfl rfl rfl (Reads.load_at k3 rfl (row_int hHd hft)) ?_
    refine XR.rd rfl rfl rfl (Reads.sub rfl rfl (by omega)) ?_
    refine XR.rd rfl rfl rfl (Reads.index_arr_own (q := 2) Try.underlying57 z3 rfl rfl (by decide) (by simp)) ?_
    refine XR.rd rfl rfl rfl (Reads.load_own k3 rfl (by first | exact OwnAt.of 0 rfl rfl | exact OwnAt.of 1 rfl rfl | exact OwnAt.of 2 rfl rfl | exact OwnAt.of 3 rfl rfl | exact OwnAt.of 4 rfl rfl | exact OwnAt.of 5 rfl rfl | exact OwnAt.of 6 rfl rfl | exact OwnAt.of 7 rfl rfl | exact OwnAt.of 8 rfl rfl)) ?_
    refine XR.callp rfl rfl rfl en13 (pickL_any y2 60 _ hy2 (by decide)) ⟨rfl, rfl, trivial⟩ (List.Sublist.refl _) ?_
    refine XR.rd rfl rfl rfl (Reads.add rfl rfl (by omega)) ?_
    refine XR.rd rfl rfl rfl (fa30_2 rfl) ?_
    refine XR.store 0 rfl rfl z3 rfl rfl rfl rfl (by simp) (.inl rfl) ?_
    refine XR.nil ?_
    refine XQ.then_normal ?_
    refine XC.seq ?_
    refine XC.region ?_
    refine XO.rd rfl rfl rfl (Reads.load_whole k28 z28 rfl (by first | exact WholeAt.of 0 rfl | exact WholeAt.of 1 rfl | exact WholeAt.of 2 rfl | exact WholeAt.of 3 rfl | exact WholeAt.of 4 rfl | exact WholeAt.of 5 rfl | exact WholeAt.of 6 rfl | exact WholeAt.of 7 rfl | exact WholeAt.of 8 rfl) (by rfl)) ?_
    refine XO.rd rfl rfl rfl (Reads.load_whole (c := (x.hit.vb y0 y1 (pickI y2 60)).cs.toArray) k30 z30 rfl (WholeAt.of 0 rfl) rfl) ?_
    refine XO.call rfl rfl en33 (implied_any x.hit.made (x.hit.vb y0 y1 (pickI y2 60)) a cap _ hA (by omega) (Btw.steps _)) ⟨rfl, rfl, trivial⟩ ?_
    rintro u J52 hle52 hr
    replace hI := Im.le_trans hI hle52
    replace hH := hH.mono hle52
    replace hB := hB.mono hle52
    replace hA := hA.mono hle52
    replace hHd := hHd.mono hle52
    obtain ⟨ai, ci, rfl, hIm⟩ := hr.any
    rw [hsm.implied_is]
    refine XO.rd rfl rfl rfl (Reads.move rfl) ?_
    refine XO.rd rfl rfl rfl (Reads.extract rfl rfl) ?_
    refine XO.rd rfl rfl rfl (Reads.extract rfl rfl) ?_
    refine XO.rd rfl rfl rfl (Reads.assign rfl) ?_
    refine XO.rd rfl rfl rfl (Reads.assign rfl) ?_
    refine XO.nil ?_
    refine XQ.then_normal ?_
    refine XC.seq ?_
    refine XC.region ?_
    refine XO.rd rfl rfl rfl (Reads.load_whole k28 z28 rfl (by first | exact WholeAt.of 0 rfl | exact WholeAt.of 1 rfl | exact WholeAt.of 2 rfl | exact WholeAt.of 3 rfl | exact WholeAt.of 4 rfl | exact WholeAt.of 5 rfl | exact WholeAt.of 6 rfl | exact WholeAt.of 7 rfl | exact WholeAt.of 8 rfl) (by rfl)) ?_
    refine XO.call rfl rfl en16 (close_any x.hit.made a cap _ hA (by omega)) ⟨rfl, trivial⟩ ?_
    rintro u J53 hle53 hr
    replace hI := Im.le_trans hI hle53
    replace hH := hH.mono hle53
    replace hB := hB.mono hle53
    replace hA := hA.mono hle53
    replace hHd := hHd.mono hle53
    obtain ⟨v9, rfl, h90⟩ := hr.yes (hsm.close_some hok hfi.1)
    obtain ⟨ad, cd, rfl, _, hD⟩ := h90.ex
    simp only [rows_len]
    refine XO.rd rfl rfl rfl (Reads.move rfl) ?_
    refine XO.rd rfl rfl rfl (Reads.extract rfl rfl) ?_
    refine XO.rd rfl rfl rfl (Reads.extract rfl rfl) ?_
    refine XO.rd rfl rfl rfl (Reads.assign rfl) ?_
    refine XO.rd rfl rfl rfl (Reads.assign rfl) ?_
    refine XO.nil ?_
    refine XQ.then_normal ?_
    refine XC.seq ?_
    refine XC.region ?_
    refine XO.rd rfl rfl rfl (Reads.load_whole k28 z28 rfl (by first | exact WholeAt.of 0 rfl | exact WholeAt.of 1 rfl | exact WholeAt.of 2 rfl | exact WholeAt.of 3 rfl | exact WholeAt.of 4 rfl | exact WholeAt.of 5 rfl | exact WholeAt.of 6 rfl | exact WholeAt.of 7 rfl | exact WholeAt.of 8 rfl) (by rfl)) ?_
    refine XO.rd rfl rfl rfl (Reads.load_whole (c := (x.hit.vb y0 y1 (pickI y2 60)).cs.toArray) k30 z30 rfl (WholeAt.of 0 rfl) rfl) ?_
    refine XO.call rfl rfl en36 (with_any x.hit.made (x.hit.vb y0 y1 (pickI y2 60)) a cap _ hA (by omega)) ⟨rfl, rfl, trivial⟩ ?_
    rintro u J54 hle54 hr
    replace hI := Im.le_trans hI hle54
    replace hH := hH.mono hle54
    replace hB := hB.mono hle54
    replace hA := hA.mono hle54
    replace hHd := hHd.mono hle54
    replace hD := hD.mono hle54
    obtain ⟨aw, cw, rfl, hcw, hAw⟩ := hr
    refine XO.call rfl rfl en16 (close_any (x.hit.made.more (x.hit.vb y0 y1 (pickI y2 60))) aw cw _ hAw (by omega)) ⟨rfl, trivial⟩ ?_
    rintro u J55 hle55 hr
    replace hI := Im.le_trans hI hle55
    replace hH := hH.mono hle55
    replace hB := hB.mono hle55
    replace hA := hA.mono hle55
    replace hHd := hHd.mono hle55
    replace hD := hD.mono hle55
    replace hAw := hAw.mono hle55
    obtain ⟨v10, rfl, h100⟩ := hr.yes (hmo.close_some hmok hfm.1)
    obtain ⟨ae, ce, rfl, _, hE⟩ := h100.ex
    simp only [rows_len]
    refine XO.rd rfl rfl rfl (Reads.move rfl) ?_
    refine XO.rd rfl rfl rfl (Reads.extract rfl rfl) ?_
    refine XO.rd rfl rfl rfl (Reads.extract rfl rfl) ?_
    refine XO.rd rfl rfl rfl (Reads.assign rfl) ?_
    refine XO.rd rfl rfl rfl (Reads.assign rfl) ?_
    refine XO.nil ?_
    refine XQ.then_normal ?_
    refine XC.seq ?_
    refine XC.seq ?_
    refine XC.region ?_
    refine XO.rd rfl rfl rfl (Reads.move rfl) ?_
    refine XO.rd rfl rfl rfl (Reads.cmp rfl rfl rfl) ?_
    rw [show cmpInt .neq 0 0 = false from rfl]
    refine XO.rd rfl rfl rfl (Reads.move rfl) ?_
    refine XO.rd (wg rfl rfl rfl) rfl rfl (Reads.move rfl) ?_
    refine XO.rd (wg rfl rfl rfl) rfl rfl (Reads.cmp rfl rfl rfl) ?_
    rw [show cmpInt .neq 0 0 = false from rfl]
    refine XO.rd rfl rfl rfl (Reads.pick_false rfl rfl) ?_
    refine XO.rd rfl rfl rfl (Reads.move rfl) ?_
    refine XO.rd (wg rfl rfl rfl) rfl rfl (Reads.move rfl) ?_
    refine XO.rd (wg rfl rfl rfl) rfl rfl (Reads.len_slice Try.underlying38 rfl) ?_
    refine XO.rd (wg rfl rfl rfl) rfl rfl (fa28_0 rfl) ?_
    refine XO.rd (wg rfl rfl rfl) rfl rfl (Reads.load_own k3 rfl (by first | exact OwnAt.of 0 rfl rfl | exact OwnAt.of 1 rfl rfl | exact OwnAt.of 2 rfl rfl | exact OwnAt.of 3 rfl rfl | exact OwnAt.of 4 rfl rfl | exact OwnAt.of 5 rfl rfl | exact OwnAt.of 6 rfl rfl | exact OwnAt.of 7 rfl rfl | exact OwnAt.of 8 rfl rfl)) ?_
    refine XO.rd (wg rfl rfl rfl) rfl rfl (Reads.cmp rfl rfl rfl) ?_
    try rw [show x.hit.made.n = (x.hit.hidN : Int) from rfl]
    rw [cmp_ne_self]
    refine XO.rd rfl rfl rfl (Reads.pick_false rfl rfl) ?_
    refine XO.rd rfl rfl rfl (Reads.move rfl) ?_
    refine XO.rd (wg rfl rfl rfl) rfl rfl (Reads.move rfl) ?_
    refine XO.rd (wg rfl rfl rfl) rfl rfl (Reads.len_slice Try.underlying38 rfl) ?_
    refine XO.rd (wg rfl rfl rfl) rfl rfl (fa28_0 rfl) ?_
    refine XO.rd (wg rfl rfl rfl) rfl rfl (Reads.load_own k3 rfl (by first | exact OwnAt.of 0 rfl rfl | exact OwnAt.of 1 rfl rfl | exact OwnAt.of 2 rfl rfl | exact OwnAt.of 3 rfl rfl | exact OwnAt.of 4 rfl rfl | exact OwnAt.of 5 rfl rfl | exact OwnAt.of 6 rfl rfl | exact OwnAt.of 7 rfl rfl | exact OwnAt.of 8 rfl rfl)) ?_
    refine XO.rd (wg rfl rfl rfl) rfl rfl (Reads.cmp rfl rfl rfl) ?_
    try rw [show x.hit.made.n = (x.hit.hidN : Int) from rfl]
    rw [cmp_ne_self]
    refine XO.rd rfl rfl rfl (Reads.pick_false rfl rfl) ?_
    refine XO.nil ?_
    refine XQ.then_normal ?_
    refine XC.cond rfl (fun hx => by cases hx) (fun _ => ?_)
    refine XC.skip ?_
    refine XQ.then_normal ?_
    refine XC.seq ?_
    refine XC.seq ?_
    refine XC.weaken (E' := [(5, _), (9, _), (10, _), (12, _)]) ⟨rfl, rfl, rfl, rfl, trivial⟩ ?_
    refine XC.region ?_
    refine XO.rd rfl rfl rfl (Reads.assign rfl) ?_
    refine XO.nil ?_
    refine XQ.then_normal ?_
    refine XC.block ?_
    refine XC.dropn 1 ?_
    refine XC.drop (L' := some (b5, .cells #[.int .i64 x.hit.made.n, .slice a x.hit.made.bs.length cap] 28 (0, 0)) :: ([] ++ Lf)) (List.Sublist.cons_cons _ (List.Sublist.cons _ (List.Sublist.cons _ (List.Sublist.refl _)))) ?_
    refine XC.loop (ι := Nat) (fun q => [(5, .pointer (some ⟨b5, 0, none⟩)), (9, .bool (x.hit.made.keeps (x.hit.vb y0 y1 (pickI y2 60)))), (10, .slice ad x.hit.hidN cd), (12, .slice ae x.hit.hidN ce), (14, .int .i64 q)]) (fun q => J55) (fun q => some (b5, .cells #[.int .i64 x.hit.made.n, .slice a x.hit.made.bs.length cap] 28 (0, 0)) :: ([] ++ Lf)) (fun q => q ≤ x.hit.hidN) (fun q => x.hit.hidN - q) 0 (Nat.zero_le _) ⟨rfl, rfl, rfl, rfl, rfl, trivial⟩ rfl (List.Perm.refl _) (fun i hi => ?_)
    refine XC.seq ?_
    refine XC.seq ?_
    refine XC.region ?_
    refine XO.rd rfl rfl rfl (Reads.move rfl) ?_
    refine XO.rd rfl rfl rfl (fa28_0 rfl) ?_
    refine XO.rd rfl rfl rfl (Reads.load_own k3 rfl (by first | exact OwnAt.of 0 rfl rfl | exact OwnAt.of 1 rfl rfl | exact OwnAt.of 2 rfl rfl | exact OwnAt.of 3 rfl rfl | exact OwnAt.of 4 rfl rfl | exact OwnAt.of 5 rfl rfl | exact OwnAt.of 6 rfl rfl | exact OwnAt.of 7 rfl rfl | exact OwnAt.of 8 rfl rfl)) ?_
    refine XO.rd rfl rfl rfl (Reads.cmp rfl rfl rfl) ?_
    refine XO.nil ?_
    refine XQ.then_normal ?_
    refine XC.cond rfl (fun h1 => ?_) (fun h1 => ?_)
    · skip
      try rw [show x.hit.made.n = (x.hit.hidN : Int) from rfl] at h1
      simp only [cmpInt, decide_eq_true_eq] at h1
      have hiN : i < x.hit.hidN := by omega
      obtain ⟨ar, cr, hr1, hr2⟩ := tab_row hD hiN
      obtain ⟨aq, cq, hq1, hq2⟩ := tab_row hE hiN
      refine XC.skip ?_
      refine XQ.then_normal ?_
      refine XC.seq ?_
      refine XC.block ?_
      refine XC.seq ?_
      refine XC.region ?_
      refine XO.rd rfl rfl rfl (Reads.assign rfl) ?_
      refine XO.nil ?_
      refine XQ.then_normal ?_
      refine XC.block ?_
      refine XC.loop (ι := Nat) (fun q => [(5, .pointer (some ⟨b5, 0, none⟩)), (9, .bool (x.hit.made.keeps (x.hit.vb y0 y1 (pickI y2 60)))), (10, .slice ad x.hit.hidN cd), (12, .slice ae x.hit.hidN ce), (14, .int .i64 i), (15, .int .i64 q)]) (fun q => J55) (fun q => some (b5, .cells #[.int .i64 x.hit.made.n, .slice a x.hit.made.bs.length cap] 28 (0, 0)) :: ([] ++ Lf)) (fun q => q ≤ x.hit.hidN) (fun q => x.hit.hidN - q) 0 (Nat.zero_le _) ⟨rfl, rfl, rfl, rfl, rfl, rfl, trivial⟩ rfl (List.Perm.refl _) (fun k hk => ?_)
      refine XC.seq ?_
      refine XC.seq ?_
      refine XC.region ?_
      refine XO.rd rfl rfl rfl (Reads.move rfl) ?_
      refine XO.rd rfl rfl rfl (fa28_0 rfl) ?_
      refine XO.rd rfl rfl rfl (Reads.load_own k3 rfl (by first | exact OwnAt.of 0 rfl rfl | exact OwnAt.of 1 rfl rfl | exact OwnAt.of 2 rfl rfl | exact OwnAt.of 3 rfl rfl | exact OwnAt.of 4 rfl rfl | exact OwnAt.of 5 rfl rfl | exact OwnAt.of 6 rfl rfl | exact OwnAt.of 7 rfl rfl | exact OwnAt.of 8 rfl rfl)) ?_
      refine XO.rd rfl rfl rfl (Reads.cmp rfl rfl rfl) ?_
      refine XO.nil ?_
      refine XQ.then_normal ?_
      refine XC.cond rfl (fun h2 => ?_) (fun h2 => ?_)
      · skip
        try rw [show x.hit.made.n = (x.hit.hidN : Int) from rfl] at h2
        simp only [cmpInt, decide_eq_true_eq] at h2
        have hkN : k < x.hit.hidN := by omega
        have hik := hle i k hiN hkN
        refine XC.skip ?_
        refine XQ.then_normal ?_
        refine XC.seq ?_
        refine XC.block ?_
        refine XC.seq ?_
        refine XC.draw m_mixed none (.pure 0 (.pure 1 (.pure 2 (.pure 3 (.pure 4 (.pure 5 (.pure 6 (.pure 7 (.pure 8 (.pure 9 (.pure 10 (.pure 11 (.pure 12 (.pure 13 (.pure 14 (.done)))))))))))))))) _ (by kernel_rfl) (List.Sublist.refl _) ?_
        refine XR.rd rfl rfl rfl (Reads.move rfl) ?_
        refine XR.rd rfl rfl rfl (Reads.move rfl) ?_
        refine XR.rd rfl rfl rfl (Reads.index_slot Try.underlying38 z22 rfl rfl (by omega) hq1.isSome rfl) ?_
        refine XR.rd rfl rfl rfl (Reads.load_at k22 rfl hq1) ?_
        refine XR.rd rfl rfl rfl (Reads.move rfl) ?_
        refine XR.rd rfl rfl rfl (Reads.index_slot (q := k * 1) Try.underlying22 z3 rfl rfl (by omega) (row_int hq2 hkN).isSome (by simp)) ?_
        refine XR.rd rfl rfl rfl (Reads.load_at k3 rfl (row_int hq2 hkN)) ?_
        refine XR.rd rfl rfl rfl (Reads.move rfl) ?_
        refine XR.rd rfl rfl rfl (Reads.move rfl) ?_
        refine XR.rd rfl rfl rfl (Reads.index_slot Try.underlying38 z22 rfl rfl (by omega) hr1.isSome rfl) ?_
        refine XR.rd rfl rfl rfl (Reads.load_at k22 rfl hr1) ?_
        refine XR.rd rfl rfl rfl (Reads.move rfl) ?_
        refine XR.rd rfl rfl rfl (Reads.index_slot (q := k * 1) Try.underlying22 z3 rfl rfl (by omega) (row_int hr2 hkN).isSome (by simp)) ?_
        refine XR.rd rfl rfl rfl (Reads.load_at k3 rfl (row_int hr2 hkN)) ?_
        refine XR.rd rfl rfl rfl (Reads.cmp rfl rfl rfl) ?_
        refine XR.nil ?_
        refine XQ.then_normal ?_
        refine XC.cond rfl (fun h3 => ?_) (fun h3 => ?_)
        · skip
          simp only [cmpInt, decide_eq_true_eq] at h3
          exfalso; omega
        · skip
          skip
          refine XC.skip ?_
          refine XQ.block_normal ?_
          refine XQ.then_normal ?_
          refine XC.region ?_
          refine XO.rd rfl rfl rfl (Reads.move rfl) ?_
          refine XO.rd rfl rfl rfl (Reads.add rfl rfl (by omega)) ?_
          refine XO.rd rfl rfl rfl (Reads.assign rfl) ?_
          refine XO.nil ?_
          refine XQ.back (k + 1) (by omega) (by omega) ⟨rfl, rfl, rfl, rfl, rfl, rfl, trivial⟩ rfl (List.Perm.refl _)
      · skip
        skip
        refine XC.exit ?_
        refine XQ.then_exit ?_
        refine XQ.then_exit ?_
        refine XQ.block_exit ?_
        refine XQ.block_normal ?_
        refine XQ.then_normal ?_
        refine XC.region ?_
        refine XO.rd rfl rfl rfl (Reads.move rfl) ?_
        refine XO.rd rfl rfl rfl (Reads.add rfl rfl (by omega)) ?_
        refine XO.rd rfl rfl rfl (Reads.assign rfl) ?_
        refine XO.nil ?_
        refine XQ.back (i + 1) (by omega) (by omega) ⟨rfl, rfl, rfl, rfl, rfl, trivial⟩ rfl (List.Perm.refl _)
    · skip
      skip
      refine XC.exit ?_
      refine XQ.then_exit ?_
      refine XQ.then_exit ?_
      refine XQ.block_exit ?_
      refine XQ.then_normal ?_
      refine XC.seq ?_
      refine XC.region ?_
      refine XO.rd rfl rfl rfl (Reads.move rfl) ?_
      refine XO.rd rfl rfl rfl (Reads.move rfl) ?_
      refine XO.rd rfl rfl rfl (Reads.move rfl) ?_
      have htb := tables_any ae ad ce cd ((x.hit.made.more (x.hit.vb y0 y1 (pickI y2 60))).dist.rows x.hit.hidN) (x.hit.made.dist.rows x.hit.hidN) _ hE hD (by rw [rows_len]; omega) (fun r hr => by obtain ⟨i, _, rfl⟩ := List.mem_map.1 hr; simp; omega)
      simp only [rows_len] at htb
      refine XO.callp rfl rfl en24 htb ⟨rfl, rfl, trivial⟩ ?_
      refine XO.rd rfl rfl rfl (Reads.eql_bool Try.underlying4 rfl rfl) ?_
      rw [his]
      refine XO.rd rfl rfl rfl (Reads.assign rfl) ?_
      refine XO.nil ?_
      refine XQ.then_normal ?_
      refine XC.ret ?_
      refine XQ.dropn 1 ?_
      refine XQ.done1 rfl rfl hI ?_
      exact ⟨rfl, rfl⟩

end Go.Proofs.Ytlgfpieokaegiaa
