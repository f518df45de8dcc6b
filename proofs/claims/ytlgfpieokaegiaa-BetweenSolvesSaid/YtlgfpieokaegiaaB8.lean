/- Walks of layer 6: BetweenSolves. -/
import Derived.Test.YtlgfpieokaegiaaB7
import Derived.Test.YtlgfpieokaegiaaP2
namespace Go.Proofs.Ytlgfpieokaegiaa
open Go.Xe

theorem solves_any (x : Nums) (ah ab : Option Addr) (ch cb : Nat) (y : Int) (I : Im) (hx : x.Ok) (hH : Arr I ah x.hidden) (hB : Arr I ab x.bnds) (hyb : In64 y) : FC Try.prog 7 [.agg #[.int .i64 x.n, .slice ah x.hidden.length ch, .slice ab x.bnds.length cb, .int .i64 x.miss], .int .i64 y] I (fun u I' => u = .bool true) := by
  have hI := Im.le_refl I
  have hxy := Nums.hit_ok hx
  have hN := x.hit.hidN_range
  have hsm := x.hit.made_small
  have hok := x.hit.made_ok
  have hml := x.hit.made_len
  have hsit := Nums.hid_sit x.hit_no
  have hfi := hsm.sit hsit x.hit.hid_bd
  have hsol := hsm.solve_some hok hfi.1
  have hsd := hsm.solved hfi.1
  have hp3 := x.hit.pow300
  have hal0 := (hsm.allowed (p := solveP x.hit.made.dist x.hit.hidN) hok (fun i hi => by have := hsd.neg i hi; omega)).2 hsd.sit
  generalize hSV : solveP x.hit.made.dist x.hit.hidN = sv at hsol hsd hal0
  have hpk := pickI_range (c := y) (n := 50) (by omega)
  refine FSo.intro (n := 87) Try.func7 rfl rfl rfl (fun K Lf => ?_)
  refine XC.seq ?_
  refine XC.region ?_
  refine XO.box_agg rfl rfl rfl (fun b2 => ?_)
  refine XO.rd rfl rfl rfl (Reads.assign rfl) ?_
  refine XO.nil ?_
  refine XQ.then_normal ?_
  refine XC.seq ?_
  refine XC.seq ?_
  refine XC.region ?_
  refine XO.call rfl rfl en10 (sane_any _) trivial ?_
  rintro u J30 hle30 hr
  replace hI := Im.le_trans hI hle30
  replace hH := hH.mono hle30
  replace hB := hB.mono hle30
  subst hr
  refine XO.rd rfl rfl rfl (Reads.not rfl) ?_
  refine XO.nil ?_
  refine XQ.then_normal ?_
  refine XC.cond rfl (fun hx => by cases hx) (fun _ => ?_)
  refine XC.skip ?_
  refine XQ.then_normal ?_
  refine XC.seq ?_
  refine XC.region ?_
  refine XO.rd rfl rfl rfl (fa25_3 rfl) ?_
  refine XO.store 0 rfl z3 rfl rfl rfl rfl (by simp) ?_
  refine XO.nil ?_
  refine XQ.then_normal ?_
  refine XC.seq ?_
  refine XC.region ?_
  refine XO.rd rfl rfl rfl (Reads.load_whole k25 z25 rfl (by first | exact WholeAt.of 0 rfl | exact WholeAt.of 1 rfl | exact WholeAt.of 2 rfl | exact WholeAt.of 3 rfl | exact WholeAt.of 4 rfl | exact WholeAt.of 5 rfl) (by rfl)) ?_
  refine XO.call rfl rfl en12 (made_any x.hit ah ab ch cb _ hxy hH hB) ⟨rfl, trivial⟩ ?_
  rintro u J31 hle31 hr
  replace hI := Im.le_trans hI hle31
  replace hH := hH.mono hle31
  replace hB := hB.mono hle31
  obtain ⟨a, cap, rfl, hcap, hA⟩ := hr
  refine XO.alloc (cs := #[.int .i64 0, .slice none 0 0]) rfl rfl zo28 rfl (fun b5 => ?_)
  refine XO.store_agg (vs := [.int .i64 x.hit.made.n, .slice a x.hit.made.bs.length cap]) 0 rfl z28 rfl rfl (by simp [Value.oneCell']) rfl (by simp) ?_
  refine XO.nil ?_
  refine XQ.then_normal ?_
  refine XC.seq ?_
  refine XC.region ?_
  refine XO.rd rfl rfl rfl (Reads.load_whole k25 z25 rfl (by first | exact WholeAt.of 0 rfl | exact WholeAt.of 1 rfl | exact WholeAt.of 2 rfl | exact WholeAt.of 3 rfl | exact WholeAt.of 4 rfl | exact WholeAt.of 5 rfl) (by rfl)) ?_
  refine XO.call rfl rfl en26 (hidden_any x.hit ah ab ch cb _ hxy hH hB) ⟨rfl, trivial⟩ ?_
  rintro u J32 hle32 hr
  replace hI := Im.le_trans hI hle32
  replace hH := hH.mono hle32
  replace hB := hB.mono hle32
  replace hA := hA.mono hle32
  obtain ⟨av, cv, rfl, _, hHd⟩ := hr.ex
  simp only [Nums.hid_len]
  refine XO.rd rfl rfl rfl (Reads.assign rfl) ?_
  refine XO.nil ?_
  refine XQ.then_normal ?_
  refine XC.seq ?_
  refine XC.region ?_
  refine XO.rd rfl rfl rfl (Reads.load_whole k28 z28 rfl (by first | exact WholeAt.of 0 rfl | exact WholeAt.of 1 rfl | exact WholeAt.of 2 rfl | exact WholeAt.of 3 rfl | exact WholeAt.of 4 rfl | exact WholeAt.of 5 rfl) (by rfl)) ?_
  refine XO.call rfl rfl en18 (solve_any x.hit.made a cap _ hA (by omega)) ⟨rfl, trivial⟩ ?_
  rintro u J33 hle33 hr
  replace hI := Im.le_trans hI hle33
  replace hH := hH.mono hle33
  replace hB := hB.mono hle33
  replace hA := hA.mono hle33
  replace hHd := hHd.mono hle33
  obtain ⟨v7, rfl, h70⟩ := hr.yes hsol
  obtain ⟨a7, c7, rfl, _, hS⟩ := h70.ex
  simp only [List.length_map, List.length_range]
  refine XO.rd rfl rfl rfl (Reads.move rfl) ?_
  refine XO.rd rfl rfl rfl (Reads.extract rfl rfl) ?_
  refine XO.rd rfl rfl rfl (Reads.extract rfl rfl) ?_
  refine XO.rd rfl rfl rfl (Reads.assign rfl) ?_
  refine XO.rd rfl rfl rfl (Reads.assign rfl) ?_
  refine XO.nil ?_
  refine XQ.then_normal ?_
  refine XC.seq ?_
  refine XC.seq ?_
  refine XC.region ?_
  refine XO.rd rfl rfl rfl (Reads.move rfl) ?_
  refine XO.rd rfl rfl rfl (Reads.cmp rfl rfl rfl) ?_
  refine XO.rd rfl rfl rfl (Reads.move rfl) ?_
  refine XO.rd (wg rfl rfl rfl) rfl rfl (Reads.load_whole k28 z28 rfl (by first | exact WholeAt.of 0 rfl | exact WholeAt.of 1 rfl | exact WholeAt.of 2 rfl | exact WholeAt.of 3 rfl | exact WholeAt.of 4 rfl | exact WholeAt.of 5 rfl) (by rfl)) ?_
  refine XO.rd (wg rfl rfl rfl) rfl rfl (Reads.move rfl) ?_
  have hal := FC.boolEq (allowed_any x.hit.made a cap a7 ((List.range x.hit.hidN).map sv) c7 _ hA hS (by omega) (by simp only [List.length_map, List.length_range]; omega)) hal0
  simp only [List.length_map, List.length_range] at hal
  refine XO.callp (wg rfl rfl rfl) rfl en27 hal ⟨rfl, rfl, trivial⟩ ?_
  refine XO.rd (wg rfl rfl rfl) rfl rfl (Reads.not rfl) ?_
  refine XO.rd rfl rfl rfl (Reads.pick_false rfl rfl) ?_
  refine XO.nil ?_
  refine XQ.then_normal ?_
  refine XC.cond rfl (fun hx => by cases hx) (fun _ => ?_)
  refine XC.skip ?_
  refine XQ.then_normal ?_
  refine XC.seq ?_
  refine XC.region ?_
  refine XO.rd rfl rfl rfl (Reads.move rfl) ?_
  refine XO.rd rfl rfl rfl (Reads.index_slot (i := 0) (q := 0 * 1) Try.underlying22 z3 rfl rfl (by omega) (row_int hHd (show 0 < x.hit.hidN by omega)).isSome (by simp)) ?_
  refine XO.rd rfl rfl rfl (Reads.load_at k3 rfl (row_int hHd (show 0 < x.hit.hidN by omega))) ?_
  refine XO.rd rfl rfl rfl (Reads.assign rfl) ?_
  refine XO.nil ?_
  refine XQ.then_normal ?_
  refine XC.seq ?_
  refine XC.seq ?_
  refine XC.region ?_
  refine XO.rd rfl rfl rfl (Reads.assign rfl) ?_
  refine XO.nil ?_
  refine XQ.then_normal ?_
  refine XC.block ?_
  refine XC.dropn 2 ?_
  refine XC.loop (ι := Nat × Int) (fun q => [(1, .int .i64 y), (6, .slice av x.hit.hidN cv), (7, .slice a7 x.hit.hidN c7), (9, .int .i64 q.2), (10, .int .i64 q.1)]) (fun q => J33) (fun q => [] ++ Lf) (fun q => q.1 ≤ x.hit.hidN ∧ (∀ i, i < q.1 → x.hit.hidF i ≤ q.2) ∧ -100 ≤ q.2 ∧ q.2 ≤ 99) (fun q => x.hit.hidN - q.1) (0, x.hit.hidF 0) ⟨Nat.zero_le _, fun _ h => absurd h (Nat.not_lt_zero _), x.hit.hidF_range 0⟩ ⟨rfl, rfl, rfl, rfl, rfl, trivial⟩ rfl (List.Perm.refl _) (fun q hq => ?_)
  obtain ⟨k, top⟩ := q
  obtain ⟨hk1, htop, htp1, htp2⟩ := hq
  simp only at hk1 htop htp1 htp2 ⊢
  refine XC.seq ?_
  refine XC.seq ?_
  refine XC.region ?_
  refine XO.rd rfl rfl rfl (Reads.move rfl) ?_
  refine XO.rd rfl rfl rfl (Reads.move rfl) ?_
  refine XO.rd rfl rfl rfl (Reads.len_slice Try.underlying22 rfl) ?_
  refine XO.rd rfl rfl rfl (Reads.cmp rfl rfl rfl) ?_
  refine XO.nil ?_
  refine XQ.then_normal ?_
  refine XC.cond rfl (fun h1 => ?_) (fun h1 => ?_)
  · skip
    simp only [cmpInt, decide_eq_true_eq] at h1
    have hkN : k < x.hit.hidN := by omega
    refine XC.skip ?_
    refine XQ.then_normal ?_
    refine XC.seq ?_
    refine XC.block ?_
    refine XC.region ?_
    refine XO.rd rfl rfl rfl (Reads.move rfl) ?_
    refine XO.rd rfl rfl rfl (Reads.move rfl) ?_
    refine XO.rd rfl rfl rfl (Reads.move rfl) ?_
    refine XO.rd rfl rfl rfl (Reads.index_slot (q := k * 1) Try.underlying22 z3 rfl rfl (by omega) (row_int hHd hkN).isSome (by simp)) ?_
    refine XO.rd rfl rfl rfl (Reads.load_at k3 rfl (row_int hHd hkN)) ?_
    refine XO.rd rfl rfl rfl (Reads.max rfl rfl) ?_
    refine XO.rd rfl rfl rfl (Reads.assign rfl) ?_
    refine XO.nil ?_
    refine XQ.block_normal ?_
    refine XQ.then_normal ?_
    refine XC.region ?_
    refine XO.rd rfl rfl rfl (Reads.move rfl) ?_
    refine XO.rd rfl rfl rfl (Reads.add rfl rfl (by omega)) ?_
    refine XO.rd rfl rfl rfl (Reads.assign rfl) ?_
    refine XO.nil ?_
    have hfk := x.hit.hidF_range k
    refine XQ.back (k + 1, max top (x.hit.hidF k)) ⟨by simp only; omega, fun i hi => by simp only; rcases Nat.lt_succ_iff_lt_or_eq.1 hi with h | rfl; have := htop i h; omega; omega, by simp only; omega, by simp only; omega⟩ (by simp only; omega) ⟨rfl, rfl, rfl, rfl, rfl, trivial⟩ rfl (List.Perm.refl _)
  · skip
    simp only [cmpInt, decide_eq_false_iff_not] at h1
    have hkN : k = x.hit.hidN := by omega
    refine XC.exit ?_
    refine XQ.then_exit ?_
    refine XQ.then_exit ?_
    refine XQ.block_exit ?_
    refine XQ.then_normal ?_
    refine XC.seq ?_
    refine XC.region ?_
    refine XO.rd rfl rfl rfl (Reads.move rfl) ?_
    refine XO.rd rfl rfl rfl (Reads.len_slice Try.underlying22 rfl) ?_
    refine XO.rd rfl rfl rfl (Reads.cmp rfl rfl rfl) ?_
    rw [show cmpInt .eql (x.hit.hidN : Int) 0 = false by simp [cmpInt]; omega]
    refine XO.rd rfl rfl rfl (Reads.assign rfl) ?_
    refine XO.nil ?_
    refine XQ.then_normal ?_
    refine XC.seq ?_
    refine XC.seq ?_
    refine XC.region ?_
    refine XO.rd rfl rfl rfl (Reads.assign rfl) ?_
    refine XO.nil ?_
    refine XQ.then_normal ?_
    refine XC.block ?_
    subst hkN
    clear hk1
    refine XC.loop (ι := Nat × Bool) (fun q => [(1, .int .i64 y), (6, .slice av x.hit.hidN cv), (7, .slice a7 x.hit.hidN c7), (9, .int .i64 top), (11, .bool q.2), (12, .int .i64 q.1)]) (fun q => J33) (fun q => [] ++ Lf) (fun q => q.1 ≤ x.hit.hidN ∧ (q.2 = true ↔ ∃ i, i < q.1 ∧ sv i = 0)) (fun q => x.hit.hidN - q.1) (0, false) ⟨Nat.zero_le _, by simp⟩ ⟨rfl, rfl, rfl, rfl, rfl, rfl, trivial⟩ rfl (List.Perm.refl _) (fun q hq => ?_)
    obtain ⟨k, z⟩ := q
    obtain ⟨hk1, hz⟩ := hq
    simp only at hk1 hz ⊢
    refine XC.seq ?_
    refine XC.seq ?_
    refine XC.region ?_
    refine XO.rd rfl rfl rfl (Reads.move rfl) ?_
    refine XO.rd rfl rfl rfl (Reads.move rfl) ?_
    refine XO.rd rfl rfl rfl (Reads.len_slice Try.underlying22 rfl) ?_
    refine XO.rd rfl rfl rfl (Reads.cmp rfl rfl rfl) ?_
    refine XO.nil ?_
    refine XQ.then_normal ?_
    refine XC.cond rfl (fun h2 => ?_) (fun h2 => ?_)
    · skip
      simp only [cmpInt, decide_eq_true_eq] at h2
      have hkN : k < x.hit.hidN := by omega
      refine XC.skip ?_
      refine XQ.then_normal ?_
      refine XC.seq ?_
      refine XC.block ?_
      refine XC.seq ?_
      refine XC.weaken (E' := [(1, _), (6, _), (7, _), (9, _), (11, _), (12, _)]) ⟨rfl, rfl, rfl, rfl, rfl, rfl, trivial⟩ ?_
      refine XC.region ?_
      refine XO.rd rfl rfl rfl (Reads.move rfl) ?_
      refine XO.rd rfl rfl rfl (Reads.move rfl) ?_
      refine XO.split (d := 58) rfl (fun h3 => ?_) (fun h3 => ?_)
      · skip
        skip
        refine XO.s (wg rfl rfl rfl) rfl ?_
        refine XO.s (wg rfl rfl rfl) rfl ?_
        refine XO.s (wg rfl rfl rfl) rfl ?_
        refine XO.s (wg rfl rfl rfl) rfl ?_
        refine XO.s (wg rfl rfl rfl) rfl ?_
        refine XO.rd rfl rfl rfl (Reads.pick_true rfl rfl) ?_
        refine XO.rd rfl rfl rfl (Reads.assign rfl) ?_
        refine XO.nil ?_
        refine XQ.then_normal ?_
        refine XC.seq ?_
        refine XC.draw m_mixed none (.pure 0 (.pure 1 (.pure 2 (.pure 3 (.pure 4 (.pure 5 (.pure 6 (.pure 7 (.pure 8 (.pure 9 (.pure 10 (.pure 11 (.pure 12 (.pure 15 (.pure 16 (.pure 17 (.pure 18 (.eff 13 (.pure 14 (.pure 19 (.pure 20 (.done)))))))))))))))))))))) _ (by kernel_rfl) (List.Sublist.refl _) ?_
        refine XR.rd rfl rfl rfl (Reads.move rfl) ?_
        refine XR.rd rfl rfl rfl (Reads.move rfl) ?_
        refine XR.rd rfl rfl rfl (Reads.index_slot (q := k * 1) Try.underlying22 z3 rfl rfl (by omega) (row_int hS hkN).isSome (by simp)) ?_
        refine XR.rd rfl rfl rfl (Reads.load_at k3 rfl (row_int hS hkN)) ?_
        refine XR.rd rfl rfl rfl (Reads.cmp rfl rfl rfl) ?_
        refine XR.rd rfl rfl rfl (Reads.move rfl) ?_
        refine XR.split (d := 70) rfl (fun h4 => ?_) (fun h4 => ?_)
        · skip
          exfalso
          simp [cmpInt] at h4
          have := (hsd.neg k hkN).2
          omega
        · skip
          skip
          have hfk := x.hit.hidF_range k
          have hmst := hsd.most (fun i => x.hit.hidF i - top) (fun i k hi hk => by have := hfi.2 i k hi hk; omega) (fun i hi => by have := htop i hi; omega) k hkN
          refine XR.rd rfl (wg rfl rfl rfl) rfl (Reads.move rfl) ?_
          refine XR.rd rfl (wg rfl rfl rfl) rfl (Reads.move rfl) ?_
          refine XR.rd rfl (wg rfl rfl rfl) rfl (Reads.index_slot (q := k * 1) Try.underlying22 z3 rfl rfl (by omega) (row_int hHd hkN).isSome (by simp)) ?_
          refine XR.rd rfl (wg rfl rfl rfl) rfl (Reads.load_at k3 rfl (row_int hHd hkN)) ?_
          refine XR.rd rfl (wg rfl rfl rfl) rfl (Reads.move rfl) ?_
          refine XR.rd rfl (wg rfl rfl rfl) rfl (Reads.sub rfl rfl (by omega)) ?_
          refine XR.rd rfl (wg rfl rfl rfl) rfl (Reads.move rfl) ?_
          refine XR.rd rfl (wg rfl rfl rfl) rfl (Reads.move rfl) ?_
          refine XR.rd rfl (wg rfl rfl rfl) rfl (Reads.move rfl) ?_
          refine XR.rd rfl (wg rfl rfl rfl) rfl (Reads.index_slot (q := k * 1) Try.underlying22 z3 rfl rfl (by omega) (row_int hS hkN).isSome (by simp)) ?_
          refine XR.rd rfl (wg rfl rfl rfl) rfl (Reads.load_at k3 rfl (row_int hS hkN)) ?_
          refine XR.callp rfl (wg rfl rfl rfl) rfl en13 (pickL_any y 50 _ hyb (by decide)) ⟨rfl, rfl, trivial⟩ (List.Sublist.refl _) ?_
          refine XR.rd rfl (wg rfl rfl rfl) rfl (Reads.sub rfl rfl (by omega)) ?_
          refine XR.rd rfl (wg rfl rfl rfl) rfl (Reads.cmp rfl rfl rfl) ?_
          refine XR.rd rfl rfl rfl (Reads.pick_false rfl rfl) ?_
          refine XR.nil ?_
          refine XQ.then_normal ?_
          refine XC.cond rfl (fun h5 => ?_) (fun h5 => ?_)
          · skip
            simp [cmpInt] at h5
            exfalso; omega
          · skip
            skip
            refine XC.skip ?_
            refine XQ.block_normal ?_
            refine XQ.then_normal ?_
            refine XC.region ?_
            refine XO.rd rfl rfl rfl (Reads.move rfl) ?_
            refine XO.rd rfl rfl rfl (Reads.add rfl rfl (by omega)) ?_
            refine XO.rd rfl rfl rfl (Reads.assign rfl) ?_
            refine XO.nil ?_
            refine XQ.back (k + 1, true) ⟨by simp only; omega, ?_⟩ (by simp only; omega) ⟨rfl, rfl, rfl, rfl, rfl, rfl, trivial⟩ rfl (List.Perm.refl _)
            simp only [true_iff]
            obtain ⟨i, hi, h0⟩ := hz.1 (by assumption)
            exact ⟨i, by omega, h0⟩
      · skip
        skip
        refine XO.rd (wg rfl rfl rfl) rfl rfl (Reads.move rfl) ?_
        refine XO.rd (wg rfl rfl rfl) rfl rfl (Reads.move rfl) ?_
        refine XO.rd (wg rfl rfl rfl) rfl rfl (Reads.index_slot (q := k * 1) Try.underlying22 z3 rfl rfl (by omega) (row_int hS hkN).isSome (by simp)) ?_
        refine XO.rd (wg rfl rfl rfl) rfl rfl (Reads.load_at k3 rfl (row_int hS hkN)) ?_
        refine XO.rd (wg rfl rfl rfl) rfl rfl (Reads.cmp rfl rfl rfl) ?_
        refine XO.rd rfl rfl rfl (Reads.pick_false rfl rfl) ?_
        refine XO.rd rfl rfl rfl (Reads.assign rfl) ?_
        refine XO.nil ?_
        refine XQ.then_normal ?_
        refine XC.seq ?_
        refine XC.draw m_mixed none (.pure 0 (.pure 1 (.pure 2 (.pure 3 (.pure 4 (.pure 5 (.pure 6 (.pure 7 (.pure 8 (.pure 9 (.pure 10 (.pure 11 (.pure 12 (.pure 15 (.pure 16 (.pure 17 (.pure 18 (.eff 13 (.pure 14 (.pure 19 (.pure 20 (.done)))))))))))))))))))))) _ (by kernel_rfl) (List.Sublist.refl _) ?_
        refine XR.rd rfl rfl rfl (Reads.move rfl) ?_
        refine XR.rd rfl rfl rfl (Reads.move rfl) ?_
        refine XR.rd rfl rfl rfl (Reads.index_slot (q := k * 1) Try.underlying22 z3 rfl rfl (by omega) (row_int hS hkN).isSome (by simp)) ?_
        refine XR.rd rfl rfl rfl (Reads.load_at k3 rfl (row_int hS hkN)) ?_
        refine XR.rd rfl rfl rfl (Reads.cmp rfl rfl rfl) ?_
        refine XR.rd rfl rfl rfl (Reads.move rfl) ?_
        refine XR.split (d := 70) rfl (fun h6 => ?_) (fun h6 => ?_)
        · skip
          exfalso
          simp [cmpInt] at h6
          have := (hsd.neg k hkN).2
          omega
        · skip
          skip
          have hfk := x.hit.hidF_range k
          have hmst := hsd.most (fun i => x.hit.hidF i - top) (fun i k hi hk => by have := hfi.2 i k hi hk; omega) (fun i hi => by have := htop i hi; omega) k hkN
          refine XR.rd rfl (wg rfl rfl rfl) rfl (Reads.move rfl) ?_
          refine XR.rd rfl (wg rfl rfl rfl) rfl (Reads.move rfl) ?_
          refine XR.rd rfl (wg rfl rfl rfl) rfl (Reads.index_slot (q := k * 1) Try.underlying22 z3 rfl rfl (by omega) (row_int hHd hkN).isSome (by simp)) ?_
          refine XR.rd rfl (wg rfl rfl rfl) rfl (Reads.load_at k3 rfl (row_int hHd hkN)) ?_
          refine XR.rd rfl (wg rfl rfl rfl) rfl (Reads.move rfl) ?_
          refine XR.rd rfl (wg rfl rfl rfl) rfl (Reads.sub rfl rfl (by omega)) ?_
          refine XR.rd rfl (wg rfl rfl rfl) rfl (Reads.move rfl) ?_
          refine XR.rd rfl (wg rfl rfl rfl) rfl (Reads.move rfl) ?_
          refine XR.rd rfl (wg rfl rfl rfl) rfl (Reads.move rfl) ?_
          refine XR.rd rfl (wg rfl rfl rfl) rfl (Reads.index_slot (q := k * 1) Try.underlying22 z3 rfl rfl (by omega) (row_int hS hkN).isSome (by simp)) ?_
          refine XR.rd rfl (wg rfl rfl rfl) rfl (Reads.load_at k3 rfl (row_int hS hkN)) ?_
          refine XR.callp rfl (wg rfl rfl rfl) rfl en13 (pickL_any y 50 _ hyb (by decide)) ⟨rfl, rfl, trivial⟩ (List.Sublist.refl _) ?_
          refine XR.rd rfl (wg rfl rfl rfl) rfl (Reads.sub rfl rfl (by omega)) ?_
          refine XR.rd rfl (wg rfl rfl rfl) rfl (Reads.cmp rfl rfl rfl) ?_
          refine XR.rd rfl rfl rfl (Reads.pick_false rfl rfl) ?_
          refine XR.nil ?_
          refine XQ.then_normal ?_
          refine XC.cond rfl (fun h7 => ?_) (fun h7 => ?_)
          · skip
            simp [cmpInt] at h7
            exfalso; omega
          · skip
            skip
            refine XC.skip ?_
            refine XQ.block_normal ?_
            refine XQ.then_normal ?_
            refine XC.region ?_
            refine XO.rd rfl rfl rfl (Reads.move rfl) ?_
            refine XO.rd rfl rfl rfl (Reads.add rfl rfl (by omega)) ?_
            refine XO.rd rfl rfl rfl (Reads.assign rfl) ?_
            refine XO.nil ?_
            refine XQ.back (k + 1, cmpInt .eql (sv k) 0) ⟨by simp only; omega, ?_⟩ (by simp only; omega) ⟨rfl, rfl, rfl, rfl, rfl, rfl, trivial⟩ rfl (List.Perm.refl _)
            simp only [cmpInt, beq_iff_eq]
            exact ⟨fun h => ⟨k, by omega, h⟩, fun ⟨i, hi, h0⟩ => by rcases Nat.lt_succ_iff_lt_or_eq.1 hi with h | rfl; exact absurd (hz.2 ⟨i, h, h0⟩) (by simp [*]); exact h0⟩
    · skip
      simp only [cmpInt, decide_eq_false_iff_not] at h2
      have hkN : k = x.hit.hidN := by omega
      refine XC.exit ?_
      refine XQ.then_exit ?_
      refine XQ.then_exit ?_
      refine XQ.block_exit ?_
      refine XQ.then_normal ?_
      refine XC.seq ?_
      refine XC.weaken (E' := [(11, _)]) ⟨rfl, trivial⟩ ?_
      refine XC.region ?_
      refine XO.rd rfl rfl rfl (Reads.move rfl) ?_
      refine XO.rd rfl rfl rfl (Reads.assign rfl) ?_
      refine XO.nil ?_
      refine XQ.then_normal ?_
      refine XC.ret ?_
      subst hkN
      obtain ⟨i0, hi0, hz0⟩ := hsd.zero (by omega)
      have hzt := hz.2 ⟨i0, hi0, hz0⟩
      subst hzt
      refine XQ.done1 rfl rfl hI ?_
      exact ⟨rfl, rfl⟩

end Go.Proofs.Ytlgfpieokaegiaa
