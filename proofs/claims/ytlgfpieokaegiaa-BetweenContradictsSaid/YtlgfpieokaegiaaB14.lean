/- Walks of layer 6: BetweenContradicts. -/
import Derived.Test.YtlgfpieokaegiaaB7
import Derived.Test.YtlgfpieokaegiaaBs
import Derived.Test.YtlgfpieokaegiaaP11
namespace Go.Proofs.Ytlgfpieokaegiaa
open Go.Xe

theorem bndC_append (a : List Bnd) (x : Bnd) : bndC (a ++ [x]) = bndC a ++ x.cs := by simp [bndC]
theorem contradicts_yes (x : Nums) (ah ab al ay : Option Addr) (ch cb cl cy : Nat) (z : Int) (l y : List Int) (I : Im) (hx : x.Ok) (hH : Arr I ah x.hidden) (hB : Arr I ab x.bnds) (hz : In64 z) (hL : Arr I al l) (hlc : l.length ≤ cl) (hY : Arr I ay y) (hyc : y.length ≤ cy) (hf : x.made.dist.fine x.hidN = false) : FC Try.prog 5 [.agg #[.int .i64 x.n, .slice ah x.hidden.length ch, .slice ab x.bnds.length cb, .int .i64 x.miss], .int .i64 z, .slice al l.length cl, .slice ay y.length cy] I (fun u I' => u = .bool true) := by
  have hI := Im.le_refl I
  have hN := x.hidN_range
  have hsm := x.made_small
  have hok := x.made_ok
  have hml := x.made_len
  have hnn : x.made.n.toNat = x.hidN := by rw [hsm.num]; rfl
  obtain ⟨c, hcy, hc0, hc16, hcc, hin, hfall, hfless⟩ := hsm.cyc hok hf
  have hpk := pickI_range (c := z) (n := c.length) (by omega)
  have hkk : (pickI z (c.length : Int)).toNat < c.length := by omega
  have hsno := (hsm.solve_none hf).1
  have hna : ∀ l, x.made.allowed l = false := fun l => by
    rw [Bool.eq_false_iff]; intro hh
    have := hsm.allowed_fine hh; rw [hf] at this; cases this
  have hms : x.misses = true := by
    cases hm : x.misses with
    | true => rfl
    | false => have := (hsm.sit (Nums.hid_sit hm) x.hid_bd).1; rw [hf] at this; cases this
  have hs1 := hsm.part (c := c.eraseIdx (pickI z (c.length : Int)).toNat) (fun i hi => (hin i (List.mem_of_mem_eraseIdx hi)).2)
  have hs2 := hsm.part (c := c) (fun i hi => (hin i hi).2)
  have hel := List.length_eraseIdx_le c (pickI z (c.length : Int)).toNat
  have hok1 : (x.made.part (c.eraseIdx (pickI z (c.length : Int)).toNat)).ok = true := hs1.ok (by simp only [Btw.part, List.length_map]; omega)
  have hsl1 := hs1.solve_some hok1 (hfless _ hkk)
  have hsl2 := (hs2.solve_none hfall).1
  refine FSo.intro (n := 155) Try.func5 rfl rfl rfl (fun K Lf => ?_)
  refine XC.seq ?_
  refine XC.region ?_
  refine XO.box_agg rfl rfl rfl (fun b4 => ?_)
  refine XO.rd rfl rfl rfl (Reads.assign rfl) ?_
  refine XO.nil ?_
  refine XQ.then_normal ?_
  refine XC.seq ?_
  refine XC.seq ?_
  refine XC.region ?_
  refine XO.call rfl rfl en10 (sane_any _) trivial ?_
  rintro u J70 hle70 hr
  replace hI := Im.le_trans hI hle70
  replace hH := hH.mono hle70
  replace hB := hB.mono hle70
  replace hL := hL.mono hle70
  replace hY := hY.mono hle70
  subst hr
  refine XO.rd rfl rfl rfl (Reads.not rfl) ?_
  refine XO.nil ?_
  refine XQ.then_normal ?_
  refine XC.cond rfl (fun hx => by cases hx) (fun _ => ?_)
  refine XC.skip ?_
  refine XQ.then_normal ?_
  refine XC.seq ?_
  refine XC.region ?_
  refine XO.rd rfl rfl rfl (Reads.load_whole k25 z25 rfl (by first | exact WholeAt.of 0 rfl | exact WholeAt.of 1 rfl | exact WholeAt.of 2 rfl | exact WholeAt.of 3 rfl | exact WholeAt.of 4 rfl | exact WholeAt.of 5 rfl | exact WholeAt.of 6 rfl | exact WholeAt.of 7 rfl | exact WholeAt.of 8 rfl) (by rfl)) ?_
  refine XO.call rfl rfl en12 (made_any x ah ab ch cb _ hx hH hB) ⟨rfl, trivial⟩ ?_
  rintro u J71 hle71 hr
  replace hI := Im.le_trans hI hle71
  replace hH := hH.mono hle71
  replace hB := hB.mono hle71
  replace hL := hL.mono hle71
  replace hY := hY.mono hle71
  obtain ⟨a, cap, rfl, hcap, hA⟩ := hr
  refine XO.alloc (cs := #[.int .i64 0, .slice none 0 0]) rfl rfl zo28 rfl (fun b9 => ?_)
  refine XO.store_agg (vs := [.int .i64 x.made.n, .slice a x.made.bs.length cap]) 0 rfl z28 rfl rfl (by simp [Value.oneCell']) rfl (by simp) ?_
  refine XO.nil ?_
  refine XQ.then_normal ?_
  refine XC.seq ?_
  refine XC.region ?_
  refine XO.rd rfl rfl rfl (Reads.load_whole k28 z28 rfl (by first | exact WholeAt.of 0 rfl | exact WholeAt.of 1 rfl | exact WholeAt.of 2 rfl | exact WholeAt.of 3 rfl | exact WholeAt.of 4 rfl | exact WholeAt.of 5 rfl | exact WholeAt.of 6 rfl | exact WholeAt.of 7 rfl | exact WholeAt.of 8 rfl) (by rfl)) ?_
  refine XO.call rfl rfl en20 (cycle_any x.made a cap _ hA (by omega) Btw.csteps) ⟨rfl, trivial⟩ ?_
  rintro u J72 hle72 hr
  replace hI := Im.le_trans hI hle72
  replace hH := hH.mono hle72
  replace hB := hB.mono hle72
  replace hL := hL.mono hle72
  replace hY := hY.mono hle72
  replace hA := hA.mono hle72
  obtain ⟨v7, rfl, h70⟩ := hr.yes hcy
  obtain ⟨ac, cc, rfl, _, hC⟩ := h70.ex
  refine XO.rd rfl rfl rfl (Reads.move rfl) ?_
  refine XO.rd rfl rfl rfl (Reads.extract rfl rfl) ?_
  refine XO.rd rfl rfl rfl (Reads.extract rfl rfl) ?_
  refine XO.rd rfl rfl rfl (Reads.assign rfl) ?_
  refine XO.rd rfl rfl rfl (Reads.assign rfl) ?_
  refine XO.nil ?_
  refine XQ.then_normal ?_
  refine XC.seq ?_
  refine XC.region ?_
  refine XO.rd rfl rfl rfl (Reads.load_whole k28 z28 rfl (by first | exact WholeAt.of 0 rfl | exact WholeAt.of 1 rfl | exact WholeAt.of 2 rfl | exact WholeAt.of 3 rfl | exact WholeAt.of 4 rfl | exact WholeAt.of 5 rfl | exact WholeAt.of 6 rfl | exact WholeAt.of 7 rfl | exact WholeAt.of 8 rfl) (by rfl)) ?_
  refine XO.call rfl rfl en18 (solve_any x.made a cap _ hA (by omega)) ⟨rfl, trivial⟩ ?_
  rintro u J73 hle73 hr
  replace hI := Im.le_trans hI hle73
  replace hH := hH.mono hle73
  replace hB := hB.mono hle73
  replace hL := hL.mono hle73
  replace hY := hY.mono hle73
  replace hA := hA.mono hle73
  replace hC := hC.mono hle73
  have := hr.no hsno
  subst this
  refine XO.rd rfl rfl rfl (Reads.move rfl) ?_
  refine XO.rd rfl rfl rfl (Reads.extract rfl rfl) ?_
  refine XO.rd rfl rfl rfl (Reads.extract rfl rfl) ?_
  refine XO.rd rfl rfl rfl (Reads.assign rfl) ?_
  refine XO.rd rfl rfl rfl (Reads.assign rfl) ?_
  refine XO.nil ?_
  refine XQ.then_normal ?_
  refine XC.seq ?_
  refine XC.seq ?_
  refine XC.region ?_
  refine XO.rd rfl rfl rfl (Reads.move rfl) ?_
  refine XO.rd rfl rfl rfl (Reads.move rfl) ?_
  refine XO.rd rfl rfl rfl (Reads.cmp rfl rfl rfl) ?_
  rw [show cmpInt .eql 60 0 = false from rfl]
  refine XO.rd rfl rfl rfl (Reads.eql_bool Try.underlying4 rfl rfl) ?_
  rw [show (true == false) = false from rfl]
  refine XO.rd rfl rfl rfl (Reads.move rfl) ?_
  refine XO.rd (wg rfl rfl rfl) rfl rfl (Reads.move rfl) ?_
  refine XO.rd (wg rfl rfl rfl) rfl rfl (Reads.cmp rfl rfl rfl) ?_
  rw [show cmpInt .eql 60 0 = false from rfl]
  refine XO.rd (wg rfl rfl rfl) rfl rfl (Reads.move rfl) ?_
  refine XO.s (wg rfl rfl rfl) rfl ?_
  refine XO.s (wg rfl rfl rfl) rfl ?_
  refine XO.s (wg rfl rfl rfl) rfl ?_
  refine XO.s (wg rfl rfl rfl) rfl ?_
  refine XO.rd (wg rfl rfl rfl) rfl rfl (Reads.pick_false rfl rfl) ?_
  refine XO.rd rfl rfl rfl (Reads.pick_false rfl rfl) ?_
  refine XO.nil ?_
  refine XQ.then_normal ?_
  refine XC.cond rfl (fun hx => by cases hx) (fun _ => ?_)
  refine XC.skip ?_
  refine XQ.then_normal ?_
  refine XC.seq ?_
  refine XC.seq ?_
  refine XC.region ?_
  refine XO.rd rfl rfl rfl (Reads.move rfl) ?_
  refine XO.rd rfl rfl rfl (Reads.move rfl) ?_
  refine XO.rd (wg rfl rfl rfl) rfl rfl (Reads.load_whole k25 z25 rfl (by first | exact WholeAt.of 0 rfl | exact WholeAt.of 1 rfl | exact WholeAt.of 2 rfl | exact WholeAt.of 3 rfl | exact WholeAt.of 4 rfl | exact WholeAt.of 5 rfl | exact WholeAt.of 6 rfl | exact WholeAt.of 7 rfl | exact WholeAt.of 8 rfl) (by rfl)) ?_
  refine XO.callp (wg rfl rfl rfl) rfl en35 (FC.boolEq (misses_any x ah ab ch cb _ hx) hms) ⟨rfl, trivial⟩ ?_
  refine XO.rd (wg rfl rfl rfl) rfl rfl (Reads.not rfl) ?_
  refine XO.rd (wg rfl rfl rfl) rfl rfl (Reads.move rfl) ?_
  refine XO.rd (wg rfl rfl rfl) rfl rfl (Reads.load_whole k28 z28 rfl (by first | exact WholeAt.of 0 rfl | exact WholeAt.of 1 rfl | exact WholeAt.of 2 rfl | exact WholeAt.of 3 rfl | exact WholeAt.of 4 rfl | exact WholeAt.of 5 rfl | exact WholeAt.of 6 rfl | exact WholeAt.of 7 rfl | exact WholeAt.of 8 rfl) (by rfl)) ?_
  refine XO.rd (wg rfl rfl rfl) rfl rfl (Reads.move rfl) ?_
  refine XO.callp (wg rfl rfl rfl) rfl en29 (FC.boolEq (checkCycle_any x.made a cap ac c cc _ hA hC (by omega) (by omega)) hcc) ⟨rfl, rfl, trivial⟩ ?_
  refine XO.rd (wg rfl rfl rfl) rfl rfl (Reads.not rfl) ?_
  refine XO.rd (wg rfl rfl rfl) rfl rfl (Reads.pick_false rfl rfl) ?_
  refine XO.rd rfl rfl rfl (Reads.pick_true rfl rfl) ?_
  refine XO.nil ?_
  refine XQ.then_normal ?_
  refine XC.cond rfl (fun hx => by cases hx) (fun _ => ?_)
  refine XC.skip ?_
  refine XQ.then_normal ?_
  refine XC.seq ?_
  refine XC.weaken (E' := [(1, _), (2, _), (3, _), (4, _), (9, _), (10, _), (11, _), (13, _)]) ⟨rfl, rfl, rfl, rfl, rfl, rfl, rfl, rfl, trivial⟩ ?_
  refine XC.draw m_mixed none (.pure 0 (.pure 1 (.eff 2 (.pure 3 (.pure 4 (.pure 5 (.eff 6 (.eff 7 (.pure 8 (.pure 9 (.done))))))))))) _ (by kernel_rfl) (List.Sublist.refl _) ?_
  refine XR.rd rfl rfl rfl (Reads.load_whole k28 z28 rfl (by first | exact WholeAt.of 0 rfl | exact WholeAt.of 1 rfl | exact WholeAt.of 2 rfl | exact WholeAt.of 3 rfl | exact WholeAt.of 4 rfl | exact WholeAt.of 5 rfl | exact WholeAt.of 6 rfl | exact WholeAt.of 7 rfl | exact WholeAt.of 8 rfl) (by rfl)) ?_
  refine XR.rd rfl rfl rfl (Reads.move rfl) ?_
  refine XR.callp rfl rfl rfl en29 (FC.boolEq (checkCycle_any x.made a cap ac c cc _ hA hC (by omega) (by omega)) hcc) ⟨rfl, rfl, trivial⟩ (List.Sublist.refl _) ?_
  refine XR.rd rfl rfl rfl (Reads.move rfl) ?_
  refine XR.s rfl (wg rfl rfl rfl) rfl ?_
  refine XR.s rfl (wg rfl rfl rfl) rfl ?_
  refine XR.se rfl (wg rfl rfl rfl) rfl (List.Sublist.refl _) ?_
  refine XR.se rfl (wg rfl rfl rfl) rfl (List.Sublist.refl _) ?_
  refine XR.rd rfl rfl rfl (Reads.pick_true rfl rfl) ?_
  refine XR.rd rfl rfl rfl (Reads.assign rfl) ?_
  refine XR.nil ?_
  refine XQ.then_normal ?_
  refine XC.seq ?_
  refine XC.seq ?_
  refine XC.draw m_mixed none (.pure 0 (.pure 1 (.pure 2 (.pure 3 (.pure 4 (.pure 5 (.pure 6 (.eff 7 (.eff 8 (.pure 9 (.pure 10 (.pure 11 (.pure 12 (.eff 13 (.eff 14 (.pure 15 (.pure 16 (.done)))))))))))))))))) _ (by kernel_rfl) (List.Sublist.refl _) ?_
  refine XR.rd rfl rfl rfl (Reads.move rfl) ?_
  refine XR.rd rfl rfl rfl (Reads.move rfl) ?_
  refine XR.rd rfl (wg rfl rfl rfl) rfl (Reads.move rfl) ?_
  refine XR.rd rfl (wg rfl rfl rfl) rfl (Reads.cmp rfl rfl rfl) ?_
  rw [show cmpInt .eql 60 0 = false from rfl]
  refine XR.rd rfl (wg rfl rfl rfl) rfl (Reads.move rfl) ?_
  refine XR.rd rfl (wg rfl rfl rfl) rfl (Reads.load_whole k28 z28 rfl (by first | exact WholeAt.of 0 rfl | exact WholeAt.of 1 rfl | exact WholeAt.of 2 rfl | exact WholeAt.of 3 rfl | exact WholeAt.of 4 rfl | exact WholeAt.of 5 rfl | exact WholeAt.of 6 rfl | exact WholeAt.of 7 rfl | exact WholeAt.of 8 rfl) (by rfl)) ?_
  refine XR.rd rfl (wg rfl rfl rfl) rfl (Reads.move rfl) ?_
  refine XR.callp rfl (wg rfl rfl rfl) rfl en11 (short_any _ _ _ _ hyc) ⟨rfl, trivial⟩ (List.Sublist.refl _) ?_
  have hal := FC.boolEq (allowed_any x.made a cap ay (y.take 20) cy _ hA (hY.take 20) (by omega) (by rw [List.length_take]; omega)) (hna _)
  refine XR.callp rfl (wg rfl rfl rfl) rfl en27 hal ⟨rfl, rfl, trivial⟩ (List.Sublist.refl _) ?_
  refine XR.rd rfl (wg rfl rfl rfl) rfl (Reads.pick_false rfl rfl) ?_
  refine XR.rd rfl (wg rfl rfl rfl) rfl (Reads.move rfl) ?_
  refine XR.rd rfl (wg rfl rfl rfl) rfl (Reads.load_whole k28 z28 rfl (by first | exact WholeAt.of 0 rfl | exact WholeAt.of 1 rfl | exact WholeAt.of 2 rfl | exact WholeAt.of 3 rfl | exact WholeAt.of 4 rfl | exact WholeAt.of 5 rfl | exact WholeAt.of 6 rfl | exact WholeAt.of 7 rfl | exact WholeAt.of 8 rfl) (by rfl)) ?_
  refine XR.rd rfl (wg rfl rfl rfl) rfl (Reads.load_whole k25 z25 rfl (by first | exact WholeAt.of 0 rfl | exact WholeAt.of 1 rfl | exact WholeAt.of 2 rfl | exact WholeAt.of 3 rfl | exact WholeAt.of 4 rfl | exact WholeAt.of 5 rfl | exact WholeAt.of 6 rfl | exact WholeAt.of 7 rfl | exact WholeAt.of 8 rfl) (by rfl)) ?_
  refine XR.call rfl (wg rfl rfl rfl) rfl en26 (hidden_any x ah ab ch cb _ hx hH hB) ⟨rfl, trivial⟩ (List.Sublist.refl _) ?_
  rintro u J74 hle74 hr
  replace hI := Im.le_trans hI hle74
  replace hH := hH.mono hle74
  replace hB := hB.mono hle74
  replace hL := hL.mono hle74
  replace hY := hY.mono hle74
  replace hA := hA.mono hle74
  replace hC := hC.mono hle74
  obtain ⟨av, cv, rfl, _, hHd⟩ := hr.ex
  simp only [Nums.hid_len]
  have hal := FC.boolEq (allowed_any x.made a cap av ((List.range x.hidN).map x.hidF) cv _ hA hHd (by omega) (by simp only [List.length_map, List.length_range]; omega)) (hna _)
  simp only [List.length_map, List.length_range] at hal
  refine XR.callp rfl (wg rfl rfl rfl) rfl en27 hal ⟨rfl, rfl, trivial⟩ (List.Sublist.refl _) ?_
  refine XR.rd rfl (wg rfl rfl rfl) rfl (Reads.pick_false rfl rfl) ?_
  refine XR.rd rfl rfl rfl (Reads.pick_true rfl rfl) ?_
  refine XR.nil ?_
  refine XQ.then_normal ?_
  refine XC.cond rfl (fun hx => by cases hx) (fun _ => ?_)
  refine XC.skip ?_
  refine XQ.then_normal ?_
  refine XC.seq ?_
  refine XC.seq ?_
  refine XC.region ?_
  refine XO.rd rfl rfl rfl (Reads.move rfl) ?_
  refine XO.rd rfl rfl rfl (Reads.not rfl) ?_
  refine XO.nil ?_
  refine XQ.then_normal ?_
  refine XC.cond rfl (fun hx => by cases hx) (fun _ => ?_)
  refine XC.skip ?_
  refine XQ.then_normal ?_
  refine XC.seq ?_
  refine XC.region ?_
  refine XO.rd rfl rfl rfl (Reads.move rfl) ?_
  refine XO.rd rfl rfl rfl (Reads.move rfl) ?_
  refine XO.rd rfl rfl rfl (Reads.len_slice Try.underlying22 rfl) ?_
  refine XO.callp rfl rfl en13 (pickL_any z c.length _ hz (by omega)) ⟨rfl, rfl, trivial⟩ ?_
  refine XO.rd rfl rfl rfl (Reads.assign rfl) ?_
  refine XO.nil ?_
  refine XQ.then_normal ?_
  refine XC.seq ?_
  refine XC.region ?_
  refine XO.rd rfl rfl rfl (fa28_0 rfl) ?_
  refine XO.rd rfl rfl rfl (Reads.load_own k3 rfl (by first | exact OwnAt.of 0 rfl rfl | exact OwnAt.of 1 rfl rfl | exact OwnAt.of 2 rfl rfl | exact OwnAt.of 3 rfl rfl | exact OwnAt.of 4 rfl rfl | exact OwnAt.of 5 rfl rfl | exact OwnAt.of 6 rfl rfl | exact OwnAt.of 7 rfl rfl | exact OwnAt.of 8 rfl rfl)) ?_
  refine XO.rd rfl rfl rfl (bd28 (vs := [(0, _)]) #[_, .slice none 0 0] ⟨rfl, rfl, trivial⟩ rfl) ?_
  refine XO.alloc (cs := #[.int .i64 0, .slice none 0 0]) rfl rfl zo28 rfl (fun b16 => ?_)
  refine XO.store_agg (vs := [.int .i64 x.made.n, .slice none 0 0]) 0 rfl z28 rfl rfl (by simp [Value.oneCell']) rfl (by simp) ?_
  refine XO.nil ?_
  refine XQ.then_normal ?_
  refine XC.seq ?_
  refine XC.weaken (E' := [(9, _), (10, _), (15, _), (16, _)]) ⟨rfl, rfl, rfl, rfl, trivial⟩ ?_
  refine XC.region ?_
  refine XO.rd rfl rfl rfl (fa28_0 rfl) ?_
  refine XO.rd rfl rfl rfl (Reads.load_own k3 rfl (by first | exact OwnAt.of 0 rfl rfl | exact OwnAt.of 1 rfl rfl | exact OwnAt.of 2 rfl rfl | exact OwnAt.of 3 rfl rfl | exact OwnAt.of 4 rfl rfl | exact OwnAt.of 5 rfl rfl | exact OwnAt.of 6 rfl rfl | exact OwnAt.of 7 rfl rfl | exact OwnAt.of 8 rfl rfl)) ?_
  refine XO.rd rfl rfl rfl (bd28 (vs := [(0, _)]) #[_, .slice none 0 0] ⟨rfl, rfl, trivial⟩ rfl) ?_
  refine XO.alloc (cs := #[.int .i64 0, .slice none 0 0]) rfl rfl zo28 rfl (fun b17 => ?_)
  refine XO.store_agg (vs := [.int .i64 x.made.n, .slice none 0 0]) 0 rfl z28 rfl rfl (by simp [Value.oneCell']) rfl (by simp) ?_
  refine XO.nil ?_
  refine XQ.then_normal ?_
  refine XC.seq ?_
  refine XC.seq ?_
  refine XC.region ?_
  refine XO.rd rfl rfl rfl (Reads.assign rfl) ?_
  refine XO.nil ?_
  refine XQ.then_normal ?_
  refine XC.block ?_
  refine XC.vec0 30 ?_
  refine XC.vec0 30 ?_
  refine XC.loop (ι := Nat × Vec × Vec) (fun q => [(9, .pointer (some ⟨b9, 0, none⟩)), (10, .slice ac c.length cc), (15, .int .i64 (pickI z c.length)), (16, .pointer (some ⟨b16, 0, none⟩)), (17, .pointer (some ⟨b17, 0, none⟩)), (18, .int .i64 q.1)]) (fun q => J74) (fun q => q.2.1.ent 30 :: q.2.2.ent 30 :: some (b17, .cells #[.int .i64 x.made.n, q.2.2.val] 28 (0, 0)) :: some (b16, .cells #[.int .i64 x.made.n, q.2.1.val] 28 (0, 0)) :: some (b9, .cells #[.int .i64 x.made.n, .slice a x.made.bs.length cap] 28 (0, 0)) :: some (b4, .cells #[.int .i64 x.n, .slice ah x.hidden.length ch, .slice ab x.bnds.length cb, .int .i64 x.miss] 25 (0, 0)) :: ([] ++ Lf)) (fun q => q.1 ≤ c.length ∧ q.2.1.Is 3 (bndC (((c.take q.1).eraseIdx (pickI z (c.length : Int)).toNat).map x.made.nth)) ∧ q.2.2.Is 3 (bndC ((c.take q.1).map x.made.nth))) (fun q => c.length - q.1) (0, Vec.nil, Vec.nil) ⟨Nat.zero_le _, by simpa [bndC] using Vec.nil_is 3, by simpa [bndC] using Vec.nil_is 3⟩ ⟨rfl, rfl, rfl, rfl, rfl, rfl, trivial⟩ rfl (List.Perm.refl _) (fun q hq => ?_)
  obtain ⟨i, V1, V2⟩ := q
  obtain ⟨hi1, hV1, hV2⟩ := hq
  simp only at hi1 hV1 hV2 ⊢
  have hV1l : V1.len = ((c.take i).eraseIdx (pickI z (c.length : Int)).toNat).length := by have := hV1.len; rw [bndC_len] at this; simp only [List.length_map] at this; omega
  have hV2l : V2.len = (c.take i).length := by have := hV2.len; rw [bndC_len] at this; simp only [List.length_map] at this; omega
  have hel1 := List.length_eraseIdx_le (c.take i) (pickI z (c.length : Int)).toNat
  have hel2 : (c.take i).length ≤ 16 := by rw [List.length_take]; omega
  refine XC.seq ?_
  refine XC.seq ?_
  refine XC.region ?_
  refine XO.rd rfl rfl rfl (Reads.move rfl) ?_
  refine XO.rd rfl rfl rfl (Reads.move rfl) ?_
  refine XO.rd rfl rfl rfl (Reads.len_slice Try.underlying22 rfl) ?_
  refine XO.rd rfl rfl rfl (Reads.cmp rfl rfl rfl) ?_
  refine XO.nil ?_
  refine XQ.then_normal ?_
  refine XC.cond rfl (fun h1 => ?_) (fun h1 => ?_)
  · skip
    simp only [cmpInt, decide_eq_true_eq] at h1
    have hi3 : i < c.length := by omega
    have hcj := hin _ (List.getElem_mem hi3)
    have hnth : x.made.nth c[i] = x.made.bs[c[i].toNat]'hcj.2 := getD_get _ _ hcj.2
    refine XC.skip ?_
    refine XQ.then_normal ?_
    refine XC.seq ?_
    refine XC.block ?_
    refine XC.seq ?_
    refine XC.draw m_mixed (some 13) (.pure 0 (.pure 1 (.pure 2 (.pure 3 (.pure 4 (.pure 5 (.pure 6 (.pure 7 (.pure 8 (.pure 9 (.eff 10 (.eff 11 (.pure 12 (.eff 13 (.done))))))))))))))) [some (b17, .cells #[.int .i64 x.made.n, V2.val] 28 (0, 0)), some (b9, .cells #[.int .i64 x.made.n, .slice a x.made.bs.length cap] 28 (0, 0))] (by kernel_rfl) (List.Sublist.cons _ (List.Sublist.cons _ (List.Sublist.cons_cons _ (List.Sublist.cons _ (List.Sublist.cons_cons _ (List.nil_sublist _)))))) ?_
    refine XR.rd rfl rfl rfl (fa28_1 rfl) ?_
    refine XR.rd rfl rfl rfl (Reads.load_own k26 rfl (by first | exact OwnAt.of 0 rfl rfl | exact OwnAt.of 1 rfl rfl | exact OwnAt.of 2 rfl rfl | exact OwnAt.of 3 rfl rfl | exact OwnAt.of 4 rfl rfl | exact OwnAt.of 5 rfl rfl | exact OwnAt.of 6 rfl rfl | exact OwnAt.of 7 rfl rfl | exact OwnAt.of 8 rfl rfl)) ?_
    refine XR.rd rfl rfl rfl (fa28_1 rfl) ?_
    refine XR.rd rfl rfl rfl (Reads.load_own k26 rfl (by first | exact OwnAt.of 0 rfl rfl | exact OwnAt.of 1 rfl rfl | exact OwnAt.of 2 rfl rfl | exact OwnAt.of 3 rfl rfl | exact OwnAt.of 4 rfl rfl | exact OwnAt.of 5 rfl rfl | exact OwnAt.of 6 rfl rfl | exact OwnAt.of 7 rfl rfl | exact OwnAt.of 8 rfl rfl)) ?_
    refine XR.rd rfl rfl rfl (Reads.move rfl) ?_
    refine XR.rd rfl rfl rfl (Reads.move rfl) ?_
    refine XR.rd rfl rfl rfl (Reads.index_slot Try.underlying22 z3 rfl rfl (by omega) (hC.isSome (by decide) (by omega)) rfl) ?_
    refine XR.rd rfl rfl rfl (Reads.load_at k3 rfl (hC.int hi3)) ?_
    refine XR.rd rfl rfl rfl (Reads.index_slot (q := c[i].toNat * 3) Try.underlying26 z30 rfl rfl (by omega) (hA.isSome (by decide) (by omega)) rfl) ?_
    refine XR.rd rfl rfl rfl (Reads.load_agg_at (vs := (x.made.nth c[i]).cs) k30 z30 rfl (hA.addr (by decide) (by omega)) (by rw [hnth]; exact hA.bnd hcj.2)) ?_
    refine XR.buildL [.agg (x.made.nth c[i]).cs.toArray] (x.made.nth c[i]).cs rfl rfl rfl Try.underlying26 el30 rfl (by simp) ⟨rfl, rfl, trivial⟩ rfl rfl (List.Sublist.cons _ (List.Sublist.cons _ (List.Sublist.cons_cons _ (List.Sublist.cons _ (List.Sublist.cons_cons _ (List.nil_sublist _)))))) (fun bu => ?_)
    refine XR.append (V := V2) 2 rfl rfl rfl Try.underlying26 el30 rfl rfl hV2 rfl (.slice Try.underlying26 (.inr (.inr ⟨bu, 0, rfl, fun j v hj => ⟨(x.made.nth c[i]).cs.toArray, 30, (0, 0), by simp, by simpa using hj⟩⟩)) rfl (by simp [Bnd.cs, Value.oneCell'])) (by omega) (by omega) ?_
    intro V2' hV2' _
    refine ⟨.inr (List.Sublist.cons _ (List.Sublist.cons _ (List.Sublist.cons _ (List.Sublist.cons_cons _ (List.Sublist.cons _ (List.Sublist.cons_cons _ (List.nil_sublist _))))))), ?_⟩
    refine XR.rd rfl rfl rfl (fa28_1 rfl) ?_
    refine XR.store 3 rfl rfl z26 rfl rfl rfl rfl (by simp) (.inl rfl) ?_
    refine XR.nil ?_
    refine XQ.then_normal ?_
    refine XC.seq ?_
    refine XC.region ?_
    refine XO.rd rfl rfl rfl (Reads.move rfl) ?_
    refine XO.rd rfl rfl rfl (Reads.move rfl) ?_
    refine XO.rd rfl rfl rfl (Reads.cmp rfl rfl rfl) ?_
    refine XO.nil ?_
    refine XQ.then_normal ?_
    refine XC.cond rfl (fun h2 => ?_) (fun h2 => ?_)
    · skip
      simp only [cmpInt, bne_iff_ne, ne_eq] at h2
      have hiK : ¬ i = (pickI z (c.length : Int)).toNat := by omega
      refine XC.draw m_mixed (some 13) (.pure 0 (.pure 1 (.pure 2 (.pure 3 (.pure 4 (.pure 5 (.pure 6 (.pure 7 (.pure 8 (.pure 9 (.eff 10 (.eff 11 (.pure 12 (.eff 13 (.done))))))))))))))) [some (b16, .cells #[.int .i64 x.made.n, V1.val] 28 (0, 0)), some (b9, .cells #[.int .i64 x.made.n, .slice a x.made.bs.length cap] 28 (0, 0))] (by kernel_rfl) (List.Sublist.cons _ (List.Sublist.cons _ (List.Sublist.cons _ (List.Sublist.cons _ (List.Sublist.cons_cons _ (List.Sublist.cons_cons _ (List.nil_sublist _))))))) ?_
      refine XR.rd rfl rfl rfl (fa28_1 rfl) ?_
      refine XR.rd rfl rfl rfl (Reads.load_own k26 rfl (by first | exact OwnAt.of 0 rfl rfl | exact OwnAt.of 1 rfl rfl | exact OwnAt.of 2 rfl rfl | exact OwnAt.of 3 rfl rfl | exact OwnAt.of 4 rfl rfl | exact OwnAt.of 5 rfl rfl | exact OwnAt.of 6 rfl rfl | exact OwnAt.of 7 rfl rfl | exact OwnAt.of 8 rfl rfl)) ?_
      refine XR.rd rfl rfl rfl (fa28_1 rfl) ?_
      refine XR.rd rfl rfl rfl (Reads.load_own k26 rfl (by first | exact OwnAt.of 0 rfl rfl | exact OwnAt.of 1 rfl rfl | exact OwnAt.of 2 rfl rfl | exact OwnAt.of 3 rfl rfl | exact OwnAt.of 4 rfl rfl | exact OwnAt.of 5 rfl rfl | exact OwnAt.of 6 rfl rfl | exact OwnAt.of 7 rfl rfl | exact OwnAt.of 8 rfl rfl)) ?_
      refine XR.rd rfl rfl rfl (Reads.move rfl) ?_
      refine XR.rd rfl rfl rfl (Reads.move rfl) ?_
      refine XR.rd rfl rfl rfl (Reads.index_slot Try.underlying22 z3 rfl rfl (by omega) (hC.isSome (by decide) (by omega)) rfl) ?_
      refine XR.rd rfl rfl rfl (Reads.load_at k3 rfl (hC.int hi3)) ?_
      refine XR.rd rfl rfl rfl (Reads.index_slot (q := c[i].toNat * 3) Try.underlying26 z30 rfl rfl (by omega) (hA.isSome (by decide) (by omega)) rfl) ?_
      refine XR.rd rfl rfl rfl (Reads.load_agg_at (vs := (x.made.nth c[i]).cs) k30 z30 rfl (hA.addr (by decide) (by omega)) (by rw [hnth]; exact hA.bnd hcj.2)) ?_
      refine XR.buildL [.agg (x.made.nth c[i]).cs.toArray] (x.made.nth c[i]).cs rfl rfl rfl Try.underlying26 el30 rfl (by simp) ⟨rfl, rfl, trivial⟩ rfl rfl (List.Sublist.cons _ (List.Sublist.cons _ (List.Sublist.cons _ (List.Sublist.cons _ (List.Sublist.cons_cons _ (List.Sublist.cons_cons _ (List.nil_sublist _))))))) (fun bu2 => ?_)
      refine XR.append (V := V1) 2 rfl rfl rfl Try.underlying26 el30 rfl rfl hV1 rfl (.slice Try.underlying26 (.inr (.inr ⟨bu2, 0, rfl, fun j v hj => ⟨(x.made.nth c[i]).cs.toArray, 30, (0, 0), by simp, by simpa using hj⟩⟩)) rfl (by simp [Bnd.cs, Value.oneCell'])) (by omega) (by omega) ?_
      intro V1' hV1' _
      refine ⟨.inr (List.Sublist.cons _ (List.Sublist.cons _ (List.Sublist.cons _ (List.Sublist.cons _ (List.Sublist.cons _ (List.Sublist.cons_cons _ (List.Sublist.cons_cons _ (List.nil_sublist _)))))))), ?_⟩
      refine XR.rd rfl rfl rfl (fa28_1 rfl) ?_
      refine XR.store 5 rfl rfl z26 rfl rfl rfl rfl (by simp) (.inl rfl) ?_
      refine XR.nil ?_
      refine XQ.block_normal ?_
      refine XQ.then_normal ?_
      refine XC.region ?_
      refine XO.rd rfl rfl rfl (Reads.move rfl) ?_
      refine XO.rd rfl rfl rfl (Reads.add rfl rfl (by omega)) ?_
      refine XO.rd rfl rfl rfl (Reads.assign rfl) ?_
      refine XO.nil ?_
      refine XQ.dropn 2 ?_
      refine XQ.back (i + 1, V1', V2') ⟨by simp only; omega, (by rw [eraseIdx_take_succ hi3, if_neg hiK, List.map_append, List.map_singleton, bndC_append]; exact hV1'), (by rw [List.take_succ_eq_append_getElem hi3, List.map_append, List.map_singleton, bndC_append]; exact hV2')⟩ (by simp only; omega) ⟨rfl, rfl, rfl, rfl, rfl, rfl, trivial⟩ rfl (List.Perm.refl _)
    · skip
      simp only [cmpInt, bne_eq_false_iff_eq] at h2
      have hiK : i = (pickI z (c.length : Int)).toNat := by omega
      refine XC.skip ?_
      refine XQ.block_normal ?_
      refine XQ.then_normal ?_
      refine XC.region ?_
      refine XO.rd rfl rfl rfl (Reads.move rfl) ?_
      refine XO.rd rfl rfl rfl (Reads.add rfl rfl (by omega)) ?_
      refine XO.rd rfl rfl rfl (Reads.assign rfl) ?_
      refine XO.nil ?_
      refine XQ.dropn 1 ?_
      refine XQ.back (i + 1, V1, V2') ⟨by simp only; omega, (by rw [eraseIdx_take_succ hi3, if_pos hiK]; exact hV1), (by rw [List.take_succ_eq_append_getElem hi3, List.map_append, List.map_singleton, bndC_append]; exact hV2')⟩ (by simp only; omega) ⟨rfl, rfl, rfl, rfl, rfl, rfl, trivial⟩ rfl (List.Perm.refl _)
  · skip
    simp only [cmpInt, decide_eq_false_iff_not] at h1
    have hiN : i = c.length := by omega
    subst hiN
    rw [List.take_length] at hV1 hV2 hV1l hV2l
    refine XC.exit ?_
    refine XQ.then_exit ?_
    refine XQ.then_exit ?_
    refine XQ.block_exit ?_
    refine XQ.then_normal ?_
    refine XC.seq ?_
    refine XC.region ?_
    refine XO.vec_done (α := Bnd) (by decide) hV1 (flat_bnd _ _) (fun J75 hle75 hL1 => ?_)
    replace hI := Im.le_trans hI hle75
    replace hH := hH.mono hle75
    replace hB := hB.mono hle75
    replace hL := hL.mono hle75
    replace hY := hY.mono hle75
    replace hA := hA.mono hle75
    replace hC := hC.mono hle75
    replace hHd := hHd.mono hle75
    refine XO.vec_done (α := Bnd) (by decide) hV2 (flat_bnd _ _) (fun J76 hle76 hL2 => ?_)
    replace hI := Im.le_trans hI hle76
    replace hH := hH.mono hle76
    replace hB := hB.mono hle76
    replace hL := hL.mono hle76
    replace hY := hY.mono hle76
    replace hA := hA.mono hle76
    replace hC := hC.mono hle76
    replace hHd := hHd.mono hle76
    replace hL1 := hL1.mono hle76
    refine XO.rd rfl rfl rfl (Reads.load_whole k28 z28 rfl (WholeAt.of 1 rfl) (by rfl)) ?_
    have hcl := solve_any (x.made.part (c.eraseIdx (pickI z (c.length : Int)).toNat)) V1.addr V1.cap _ hL1.arr.1 (by simp only [Btw.part, List.length_map]; omega)
    rw [show (x.made.part (c.eraseIdx (pickI z (c.length : Int)).toNat)).bs.length = V1.len by simp only [Btw.part, List.length_map]; exact hV1l.symm] at hcl
    refine XO.call rfl rfl en18 (hcl) ⟨rfl, trivial⟩ ?_
    rintro u J77 hle77 hr
    replace hI := Im.le_trans hI hle77
    replace hH := hH.mono hle77
    replace hB := hB.mono hle77
    replace hL := hL.mono hle77
    replace hY := hY.mono hle77
    replace hA := hA.mono hle77
    replace hC := hC.mono hle77
    replace hHd := hHd.mono hle77
    replace hL1 := hL1.mono hle77
    replace hL2 := hL2.mono hle77
    obtain ⟨v8, rfl, _⟩ := hr.yes hsl1
    refine XO.rd rfl rfl rfl (Reads.move rfl) ?_
    refine XO.rd rfl rfl rfl (Reads.extract rfl rfl) ?_
    refine XO.rd rfl rfl rfl (Reads.extract rfl rfl) ?_
    refine XO.rd rfl rfl rfl (Reads.assign rfl) ?_
    refine XO.rd rfl rfl rfl (Reads.assign rfl) ?_
    refine XO.nil ?_
    refine XQ.then_normal ?_
    refine XC.seq ?_
    refine XC.region ?_
    refine XO.rd rfl rfl rfl (Reads.load_whole k28 z28 rfl (by first | exact WholeAt.of 0 rfl | exact WholeAt.of 1 rfl | exact WholeAt.of 2 rfl | exact WholeAt.of 3 rfl | exact WholeAt.of 4 rfl | exact WholeAt.of 5 rfl | exact WholeAt.of 6 rfl | exact WholeAt.of 7 rfl | exact WholeAt.of 8 rfl) (by rfl)) ?_
    have hcl := solve_any (x.made.part c) V2.addr V2.cap _ hL2.arr.1 (by simp only [Btw.part, List.length_map]; omega)
    rw [show (x.made.part c).bs.length = V2.len by simp only [Btw.part, List.length_map]; exact hV2l.symm] at hcl
    refine XO.call rfl rfl en18 (hcl) ⟨rfl, trivial⟩ ?_
    rintro u J78 hle78 hr
    replace hI := Im.le_trans hI hle78
    replace hH := hH.mono hle78
    replace hB := hB.mono hle78
    replace hL := hL.mono hle78
    replace hY := hY.mono hle78
    replace hA := hA.mono hle78
    replace hC := hC.mono hle78
    replace hHd := hHd.mono hle78
    replace hL1 := hL1.mono hle78
    replace hL2 := hL2.mono hle78
    have := hr.no hsl2
    subst this
    refine XO.rd rfl rfl rfl (Reads.move rfl) ?_
    refine XO.rd rfl rfl rfl (Reads.extract rfl rfl) ?_
    refine XO.rd rfl rfl rfl (Reads.extract rfl rfl) ?_
    refine XO.rd rfl rfl rfl (Reads.assign rfl) ?_
    refine XO.rd rfl rfl rfl (Reads.assign rfl) ?_
    refine XO.nil ?_
    refine XQ.then_normal ?_
    refine XC.seq ?_
    refine XC.region ?_
    refine XO.rd rfl rfl rfl (Reads.move rfl) ?_
    refine XO.rd rfl rfl rfl (Reads.cmp rfl rfl rfl) ?_
    rw [show cmpInt .eql 0 0 = true from rfl]
    refine XO.rd rfl rfl rfl (Reads.move rfl) ?_
    refine XO.rd (wg rfl rfl rfl) rfl rfl (Reads.move rfl) ?_
    refine XO.rd (wg rfl rfl rfl) rfl rfl (Reads.cmp rfl rfl rfl) ?_
    rw [show cmpInt .eql 60 60 = true from rfl]
    refine XO.rd rfl rfl rfl (Reads.pick_true rfl rfl) ?_
    refine XO.rd rfl rfl rfl (Reads.assign rfl) ?_
    refine XO.nil ?_
    refine XQ.then_normal ?_
    refine XC.ret ?_
    refine XQ.dropn 4 ?_
    refine XQ.done1 rfl rfl hI ?_
    exact ⟨rfl, rfl⟩

theorem contradicts_no (x : Nums) (ah ab al ay : Option Addr) (ch cb cl cy : Nat) (z : Int) (l y : List Int) (I : Im) (hx : x.Ok) (hH : Arr I ah x.hidden) (hB : Arr I ab x.bnds) (hz : In64 z) (hL : Arr I al l) (hlc : l.length ≤ cl) (hY : Arr I ay y) (hyc : y.length ≤ cy) (hf : x.made.dist.fine x.hidN = true) : FC Try.prog 5 [.agg #[.int .i64 x.n, .slice ah x.hidden.length ch, .slice ab x.bnds.length cb, .int .i64 x.miss], .int .i64 z, .slice al l.length cl, .slice ay y.length cy] I (fun u I' => u = .bool true) := by
  have hI := Im.le_refl I
  have hN := x.hidN_range
  have hsm := x.made_small
  have hok := x.made_ok
  have hml := x.made_len
  have hnn : x.made.n.toNat = x.hidN := by rw [hsm.num]; rfl
  have hsol := hsm.solve_some hok hf
  have hsd := hsm.solved hf
  have hp3 := x.pow300
  have hal0 := (hsm.allowed (p := solveP x.made.dist x.hidN) hok (fun i hi => by have := hsd.neg i hi; omega)).2 hsd.sit
  generalize hSV : solveP x.made.dist x.hidN = sv at hsol hsd hal0
  have hcn : x.made.cycle = none := by simp [Btw.cycle, hnn, hf]
  have hcc0 : x.made.checkCycle [] = false := by simp [Btw.checkCycle]
  have hcl : x.made.checkCycle (l.take 20) = false := by
    rw [Bool.eq_false_iff]; intro hh
    have := hsm.check_cycle hh; rw [hf] at this; cases this
  refine FSo.intro (n := 155) Try.func5 rfl rfl rfl (fun K Lf => ?_)
  refine XC.seq ?_
  refine XC.region ?_
  refine XO.box_agg rfl rfl rfl (fun b4 => ?_)
  refine XO.rd rfl rfl rfl (Reads.assign rfl) ?_
  refine XO.nil ?_
  refine XQ.then_normal ?_
  refine XC.seq ?_
  refine XC.seq ?_
  refine XC.region ?_
  refine XO.call rfl rfl en10 (sane_any _) trivial ?_
  rintro u J79 hle79 hr
  replace hI := Im.le_trans hI hle79
  replace hH := hH.mono hle79
  replace hB := hB.mono hle79
  replace hL := hL.mono hle79
  replace hY := hY.mono hle79
  subst hr
  refine XO.rd rfl rfl rfl (Reads.not rfl) ?_
  refine XO.nil ?_
  refine XQ.then_normal ?_
  refine XC.cond rfl (fun hx => by cases hx) (fun _ => ?_)
  refine XC.skip ?_
  refine XQ.then_normal ?_
  refine XC.seq ?_
  refine XC.region ?_
  refine XO.rd rfl rfl rfl (Reads.load_whole k25 z25 rfl (by first | exact WholeAt.of 0 rfl | exact WholeAt.of 1 rfl | exact WholeAt.of 2 rfl | exact WholeAt.of 3 rfl | exact WholeAt.of 4 rfl | exact WholeAt.of 5 rfl | exact WholeAt.of 6 rfl | exact WholeAt.of 7 rfl | exact WholeAt.of 8 rfl) (by rfl)) ?_
  refine XO.call rfl rfl en12 (made_any x ah ab ch cb _ hx hH hB) ⟨rfl, trivial⟩ ?_
  rintro u J80 hle80 hr
  replace hI := Im.le_trans hI hle80
  replace hH := hH.mono hle80
  replace hB := hB.mono hle80
  replace hL := hL.mono hle80
  replace hY := hY.mono hle80
  obtain ⟨a, cap, rfl, hcap, hA⟩ := hr
  refine XO.alloc (cs := #[.int .i64 0, .slice none 0 0]) rfl rfl zo28 rfl (fun b9 => ?_)
  refine XO.store_agg (vs := [.int .i64 x.made.n, .slice a x.made.bs.length cap]) 0 rfl z28 rfl rfl (by simp [Value.oneCell']) rfl (by simp) ?_
  refine XO.nil ?_
  refine XQ.then_normal ?_
  refine XC.seq ?_
  refine XC.region ?_
  refine XO.rd rfl rfl rfl (Reads.load_whole k28 z28 rfl (by first | exact WholeAt.of 0 rfl | exact WholeAt.of 1 rfl | exact WholeAt.of 2 rfl | exact WholeAt.of 3 rfl | exact WholeAt.of 4 rfl | exact WholeAt.of 5 rfl | exact WholeAt.of 6 rfl | exact WholeAt.of 7 rfl | exact WholeAt.of 8 rfl) (by rfl)) ?_
  refine XO.call rfl rfl en20 (cycle_any x.made a cap _ hA (by omega) Btw.csteps) ⟨rfl, trivial⟩ ?_
  rintro u J81 hle81 hr
  replace hI := Im.le_trans hI hle81
  replace hH := hH.mono hle81
  replace hB := hB.mono hle81
  replace hL := hL.mono hle81
  replace hY := hY.mono hle81
  replace hA := hA.mono hle81
  have := hr.no hcn
  subst this
  refine XO.rd rfl rfl rfl (Reads.move rfl) ?_
  refine XO.rd rfl rfl rfl (Reads.extract rfl rfl) ?_
  refine XO.rd rfl rfl rfl (Reads.extract rfl rfl) ?_
  refine XO.rd rfl rfl rfl (Reads.assign rfl) ?_
  refine XO.rd rfl rfl rfl (Reads.assign rfl) ?_
  refine XO.nil ?_
  refine XQ.then_normal ?_
  refine XC.seq ?_
  refine XC.region ?_
  refine XO.rd rfl rfl rfl (Reads.load_whole k28 z28 rfl (by first | exact WholeAt.of 0 rfl | exact WholeAt.of 1 rfl | exact WholeAt.of 2 rfl | exact WholeAt.of 3 rfl | exact WholeAt.of 4 rfl | exact WholeAt.of 5 rfl | exact WholeAt.of 6 rfl | exact WholeAt.of 7 rfl | exact WholeAt.of 8 rfl) (by rfl)) ?_
  refine XO.call rfl rfl en18 (solve_any x.made a cap _ hA (by omega)) ⟨rfl, trivial⟩ ?_
  rintro u J82 hle82 hr
  replace hI := Im.le_trans hI hle82
  replace hH := hH.mono hle82
  replace hB := hB.mono hle82
  replace hL := hL.mono hle82
  replace hY := hY.mono hle82
  replace hA := hA.mono hle82
  obtain ⟨v7, rfl, h70⟩ := hr.yes hsol
  obtain ⟨a7, c7, rfl, _, hS⟩ := h70.ex
  simp only [List.length_map, List.length_range]
  refine XO.rd rfl rfl rfl (Reads.move rfl) ?_
  refine XO.rd rfl rfl rfl (Reads.extract rfl rfl) ?_
  refine XO.rd rfl rfl rfl (Reads.extract rfl rfl) ?_
  refine XO.rd rfl rfl rfl (Reads.assign rfl) ?_
  refine XO.rd rfl rfl rfl (Reads.assign rfl) ?_
  refine XO.nil ?_
  refine XQ.then_normal ?_
  refine XC.seq ?_
  refine XC.seq ?_
  refine XC.region ?_
  refine XO.rd rfl rfl rfl (Reads.move rfl) ?_
  refine XO.rd rfl rfl rfl (Reads.move rfl) ?_
  refine XO.rd rfl rfl rfl (Reads.cmp rfl rfl rfl) ?_
  rw [show cmpInt .eql 0 0 = true from rfl]
  refine XO.rd rfl rfl rfl (Reads.eql_bool Try.underlying4 rfl rfl) ?_
  rw [show (false == true) = false from rfl]
  refine XO.rd rfl rfl rfl (Reads.move rfl) ?_
  refine XO.rd (wg rfl rfl rfl) rfl rfl (Reads.move rfl) ?_
  refine XO.rd (wg rfl rfl rfl) rfl rfl (Reads.cmp rfl rfl rfl) ?_
  rw [show cmpInt .eql 0 0 = true from rfl]
  refine XO.rd (wg rfl rfl rfl) rfl rfl (Reads.move rfl) ?_
  refine XO.rd (wg rfl rfl rfl) rfl rfl (Reads.load_whole k28 z28 rfl (by first | exact WholeAt.of 0 rfl | exact WholeAt.of 1 rfl | exact WholeAt.of 2 rfl | exact WholeAt.of 3 rfl | exact WholeAt.of 4 rfl | exact WholeAt.of 5 rfl | exact WholeAt.of 6 rfl | exact WholeAt.of 7 rfl | exact WholeAt.of 8 rfl) (by rfl)) ?_
  refine XO.rd (wg rfl rfl rfl) rfl rfl (Reads.move rfl) ?_
  have hal := FC.boolEq (allowed_any x.made a cap a7 ((List.range x.hidN).map sv) c7 _ hA hS (by omega) (by simp only [List.length_map, List.length_range]; omega)) hal0
  simp only [List.length_map, List.length_range] at hal
  refine XO.callp (wg rfl rfl rfl) rfl en27 hal ⟨rfl, rfl, trivial⟩ ?_
  refine XO.rd (wg rfl rfl rfl) rfl rfl (Reads.not rfl) ?_
  refine XO.rd (wg rfl rfl rfl) rfl rfl (Reads.pick_true rfl rfl) ?_
  refine XO.rd rfl rfl rfl (Reads.pick_false rfl rfl) ?_
  refine XO.nil ?_
  refine XQ.then_normal ?_
  refine XC.cond rfl (fun hx => by cases hx) (fun _ => ?_)
  refine XC.skip ?_
  refine XQ.then_normal ?_
  refine XC.seq ?_
  refine XC.seq ?_
  refine XC.region ?_
  refine XO.rd rfl rfl rfl (Reads.move rfl) ?_
  refine XO.rd rfl rfl rfl (Reads.move rfl) ?_
  refine XO.s (wg rfl rfl rfl) rfl ?_
  refine XO.s (wg rfl rfl rfl) rfl ?_
  refine XO.s (wg rfl rfl rfl) rfl ?_
  refine XO.s (wg rfl rfl rfl) rfl ?_
  refine XO.s (wgu rfl rfl) rfl ?_
  refine XO.s (wgu rfl rfl) rfl ?_
  refine XO.s (wgu rfl rfl) rfl ?_
  refine XO.s (wgu rfl rfl) rfl ?_
  refine XO.s (wg rfl rfl rfl) rfl ?_
  refine XO.rd rfl rfl rfl (Reads.pick_false rfl rfl) ?_
  refine XO.nil ?_
  refine XQ.then_normal ?_
  refine XC.cond rfl (fun hx => by cases hx) (fun _ => ?_)
  refine XC.skip ?_
  refine XQ.then_normal ?_
  refine XC.seq ?_
  refine XC.weaken (E' := [(1, _), (2, _), (3, _), (4, _), (9, _), (10, _), (11, _), (13, _)]) ⟨rfl, rfl, rfl, rfl, rfl, rfl, rfl, rfl, trivial⟩ ?_
  refine XC.draw m_mixed none (.pure 0 (.pure 1 (.eff 2 (.pure 3 (.pure 4 (.pure 5 (.eff 6 (.eff 7 (.pure 8 (.pure 9 (.done))))))))))) _ (by kernel_rfl) (List.Sublist.refl _) ?_
  refine XR.rd rfl rfl rfl (Reads.load_whole k28 z28 rfl (by first | exact WholeAt.of 0 rfl | exact WholeAt.of 1 rfl | exact WholeAt.of 2 rfl | exact WholeAt.of 3 rfl | exact WholeAt.of 4 rfl | exact WholeAt.of 5 rfl | exact WholeAt.of 6 rfl | exact WholeAt.of 7 rfl | exact WholeAt.of 8 rfl) (by rfl)) ?_
  refine XR.rd rfl rfl rfl (Reads.move rfl) ?_
  refine XR.callp rfl rfl rfl en29 (FC.boolEq (checkCycle_any x.made a cap none [] 0 _ hA Arr.nil (by omega) (by simp)) hcc0) ⟨rfl, rfl, trivial⟩ (List.Sublist.refl _) ?_
  refine XR.rd rfl rfl rfl (Reads.move rfl) ?_
  refine XR.rd rfl (wg rfl rfl rfl) rfl (Reads.load_whole k28 z28 rfl (by first | exact WholeAt.of 0 rfl | exact WholeAt.of 1 rfl | exact WholeAt.of 2 rfl | exact WholeAt.of 3 rfl | exact WholeAt.of 4 rfl | exact WholeAt.of 5 rfl | exact WholeAt.of 6 rfl | exact WholeAt.of 7 rfl | exact WholeAt.of 8 rfl) (by rfl)) ?_
  refine XR.rd rfl (wg rfl rfl rfl) rfl (Reads.move rfl) ?_
  refine XR.callp rfl (wg rfl rfl rfl) rfl en11 (short_any _ _ _ _ hlc) ⟨rfl, trivial⟩ (List.Sublist.refl _) ?_
  refine XR.callp rfl (wg rfl rfl rfl) rfl en29 (FC.boolEq (checkCycle_any x.made a cap al (l.take 20) cl _ hA (hL.take 20) (by omega) (by rw [List.length_take]; omega)) hcl) ⟨rfl, rfl, trivial⟩ (List.Sublist.refl _) ?_
  refine XR.rd rfl rfl rfl (Reads.pick_false rfl rfl) ?_
  refine XR.rd rfl rfl rfl (Reads.assign rfl) ?_
  refine XR.nil ?_
  refine XQ.then_normal ?_
  refine XC.seq ?_
  refine XC.seq ?_
  refine XC.draw m_mixed none (.pure 0 (.pure 1 (.pure 2 (.pure 3 (.pure 4 (.pure 5 (.pure 6 (.eff 7 (.eff 8 (.pure 9 (.pure 10 (.pure 11 (.pure 12 (.eff 13 (.eff 14 (.pure 15 (.pure 16 (.done)))))))))))))))))) _ (by kernel_rfl) (List.Sublist.refl _) ?_
  refine XR.rd rfl rfl rfl (Reads.move rfl) ?_
  refine XR.rd rfl rfl rfl (Reads.move rfl) ?_
  refine XR.s rfl (wg rfl rfl rfl) rfl ?_
  refine XR.s rfl (wg rfl rfl rfl) rfl ?_
  refine XR.s rfl (wg rfl rfl rfl) rfl ?_
  refine XR.s rfl (wgu rfl rfl) rfl ?_
  refine XR.s rfl (wgu rfl rfl) rfl ?_
  refine XR.se rfl (wgu rfl rfl) rfl (List.Sublist.refl _) ?_
  refine XR.se rfl (wgu rfl rfl) rfl (List.Sublist.refl _) ?_
  refine XR.s rfl (wg rfl rfl rfl) rfl ?_
  refine XR.s rfl (wg rfl rfl rfl) rfl ?_
  refine XR.s rfl (wgu rfl rfl) rfl ?_
  refine XR.s rfl (wgu rfl rfl) rfl ?_
  refine XR.se rfl (wgu rfl rfl) rfl (List.Sublist.refl _) ?_
  refine XR.se rfl (wgu rfl rfl) rfl (List.Sublist.refl _) ?_
  refine XR.s rfl (wg rfl rfl rfl) rfl ?_
  refine XR.rd rfl rfl rfl (Reads.pick_false rfl rfl) ?_
  refine XR.nil ?_
  refine XQ.then_normal ?_
  refine XC.cond rfl (fun hx => by cases hx) (fun _ => ?_)
  refine XC.skip ?_
  refine XQ.then_normal ?_
  refine XC.seq ?_
  refine XC.seq ?_
  refine XC.region ?_
  refine XO.rd rfl rfl rfl (Reads.move rfl) ?_
  refine XO.rd rfl rfl rfl (Reads.not rfl) ?_
  refine XO.nil ?_
  refine XQ.then_normal ?_
  refine XC.cond rfl (fun _ => ?_) (fun hx => by cases hx)
  refine XC.seq ?_
  refine XC.region ?_
  refine XO.rd rfl rfl rfl (Reads.move rfl) ?_
  refine XO.rd rfl rfl rfl (Reads.len_slice Try.underlying22 rfl) ?_
  refine XO.rd rfl rfl rfl (Reads.cmp rfl rfl rfl) ?_
  rw [show cmpInt .eql ((0 : Nat) : Int) 0 = true from rfl]
  refine XO.rd rfl rfl rfl (Reads.assign rfl) ?_
  refine XO.nil ?_
  refine XQ.then_normal ?_
  refine XC.ret ?_
  refine XQ.then_ret ?_
  refine XQ.dropn 2 ?_
  refine XQ.done1 rfl rfl hI ?_
  exact ⟨rfl, rfl⟩

end Go.Proofs.Ytlgfpieokaegiaa
