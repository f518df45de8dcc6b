/- Walks of layer 6: BetweenLeast. -/
import Derived.Test.YtlgfpieokaegiaaB7
import Derived.Test.YtlgfpieokaegiaaP4
namespace Go.Proofs.Ytlgfpieokaegiaa
open Go.Xe

theorem least_any (x : Nums) (ah ab : Option Addr) (ch cb : Nat) (c : Int) (I : Im) (hx : x.Ok) (hH : Arr I ah x.hidden) (hB : Arr I ab x.bnds) (hcb : In64 c) : FC Try.prog 4 [.agg #[.int .i64 x.n, .slice ah x.hidden.length ch, .slice ab x.bnds.length cb, .int .i64 x.miss], .int .i64 c] I (fun u I' => u = .bool true) := by
  have hI := Im.le_refl I
  have hN := x.hidN_range
  have hsm := x.made_small
  have hok := x.made_ok
  have hml := x.made_len
  have hp3 := x.pow300
  have hpk := pickI_range (c := c) (n := x.hidN) (by omega)
  have hk0 : (pickI c x.hidN).toNat < x.hidN := by omega
  refine FSo.intro (n := 161) Try.func4 rfl rfl rfl (fun K Lf => ?_)
  refine XC.seq ?_
  refine XC.region ?_
  refine XO.box_agg rfl rfl rfl (fun b2 => ?_)
  refine XO.rd rfl rfl rfl (Reads.assign rfl) ?_
  refine XO.nil ?_
  refine XQ.then_normal ?_
  refine XC.seq ?_
  refine XC.seq ?_
  refine XC.region ?_
  refine XO.call rfl rfl en10 (sane_any _) trivial ?_
  rintro u J42 hle42 hr
  replace hI := Im.le_trans hI hle42
  replace hH := hH.mono hle42
  replace hB := hB.mono hle42
  subst hr
  refine XO.rd rfl rfl rfl (Reads.not rfl) ?_
  refine XO.nil ?_
  refine XQ.then_normal ?_
  refine XC.cond rfl (fun hx => by cases hx) (fun _ => ?_)
  refine XC.skip ?_
  refine XQ.then_normal ?_
  refine XC.seq ?_
  refine XC.region ?_
  refine XO.rd rfl rfl rfl (Reads.load_whole k25 z25 rfl (by first | exact WholeAt.of 0 rfl | exact WholeAt.of 1 rfl | exact WholeAt.of 2 rfl | exact WholeAt.of 3 rfl | exact WholeAt.of 4 rfl | exact WholeAt.of 5 rfl | exact WholeAt.of 6 rfl | exact WholeAt.of 7 rfl | exact WholeAt.of 8 rfl) (by rfl)) ?_
  refine XO.call rfl rfl en12 (made_any x ah ab ch cb _ hx hH hB) ⟨rfl, trivial⟩ ?_
  rintro u J43 hle43 hr
  replace hI := Im.le_trans hI hle43
  replace hH := hH.mono hle43
  replace hB := hB.mono hle43
  obtain ⟨a, cap, rfl, hcap, hA⟩ := hr
  refine XO.alloc (cs := #[.int .i64 0, .slice none 0 0]) rfl rfl zo28 rfl (fun b5 => ?_)
  refine XO.store_agg (vs := [.int .i64 x.made.n, .slice a x.made.bs.length cap]) 0 rfl z28 rfl rfl (by simp [Value.oneCell']) rfl (by simp) ?_
  refine XO.nil ?_
  refine XQ.then_normal ?_
  refine XC.seq ?_
  refine XC.region ?_
  refine XO.rd rfl rfl rfl (Reads.load_whole k28 z28 rfl (by first | exact WholeAt.of 0 rfl | exact WholeAt.of 1 rfl | exact WholeAt.of 2 rfl | exact WholeAt.of 3 rfl | exact WholeAt.of 4 rfl | exact WholeAt.of 5 rfl | exact WholeAt.of 6 rfl | exact WholeAt.of 7 rfl | exact WholeAt.of 8 rfl) (by rfl)) ?_
  refine XO.call rfl rfl en16 (close_any x.made a cap _ hA (by omega)) ⟨rfl, trivial⟩ ?_
  rintro u J44 hle44 hr
  replace hI := Im.le_trans hI hle44
  replace hH := hH.mono hle44
  replace hB := hB.mono hle44
  replace hA := hA.mono hle44
  obtain ⟨ad, cd, rfl, hD⟩ := hr.any
  simp only [(hsm.close_eq hok).1, (hsm.close_eq hok).2, rowsD_len] at hD ⊢
  refine XO.rd rfl rfl rfl (Reads.move rfl) ?_
  refine XO.rd rfl rfl rfl (Reads.extract rfl rfl) ?_
  refine XO.rd rfl rfl rfl (Reads.extract rfl rfl) ?_
  refine XO.rd rfl rfl rfl (Reads.assign rfl) ?_
  refine XO.rd rfl rfl rfl (Reads.assign rfl) ?_
  refine XO.nil ?_
  refine XQ.then_normal ?_
  refine XC.seq ?_
  refine XC.region ?_
  refine XO.rd rfl rfl rfl (Reads.load_whole k28 z28 rfl (by first | exact WholeAt.of 0 rfl | exact WholeAt.of 1 rfl | exact WholeAt.of 2 rfl | exact WholeAt.of 3 rfl | exact WholeAt.of 4 rfl | exact WholeAt.of 5 rfl | exact WholeAt.of 6 rfl | exact WholeAt.of 7 rfl | exact WholeAt.of 8 rfl) (by rfl)) ?_
  refine XO.call rfl rfl en18 (solve_any x.made a cap _ hA (by omega)) ⟨rfl, trivial⟩ ?_
  rintro u J45 hle45 hr
  replace hI := Im.le_trans hI hle45
  replace hH := hH.mono hle45
  replace hB := hB.mono hle45
  replace hA := hA.mono hle45
  replace hD := hD.mono hle45
  obtain ⟨a7, c7, rfl, hc7, hS⟩ := hr.anyc
  simp only [(hsm.solve_eq hok).1, (hsm.solve_eq hok).2, solveD_len] at hc7 hS ⊢
  refine XO.rd rfl rfl rfl (Reads.move rfl) ?_
  refine XO.rd rfl rfl rfl (Reads.extract rfl rfl) ?_
  refine XO.rd rfl rfl rfl (Reads.extract rfl rfl) ?_
  refine XO.rd rfl rfl rfl (Reads.assign rfl) ?_
  refine XO.rd rfl rfl rfl (Reads.assign rfl) ?_
  refine XO.nil ?_
  refine XQ.then_normal ?_
  refine XC.seq ?_
  refine XC.seq ?_
  refine XC.region ?_
  refine XO.rd rfl rfl rfl (Reads.move rfl) ?_
  refine XO.rd rfl rfl rfl (Reads.move rfl) ?_
  refine XO.rd rfl rfl rfl (Reads.cmp rfl rfl rfl) ?_
  rw [cmp_ne_self]
  refine XO.rd rfl rfl rfl (Reads.move rfl) ?_
  refine XO.rd (wg rfl rfl rfl) rfl rfl (Reads.move rfl) ?_
  refine XO.rd (wg rfl rfl rfl) rfl rfl (Reads.cmp rfl rfl rfl) ?_
  refine XO.rd rfl rfl rfl (Reads.pick_false rfl rfl) ?_
  refine XO.nil ?_
  refine XQ.then_normal ?_
  refine XC.cond rfl (fun h1 => ?_) (fun h1 => ?_)
  · skip
    have hf0 : x.made.dist.fine x.hidN = false := by
      cases hf : x.made.dist.fine x.hidN with
      | false => rfl
      | true => rw [hf] at h1; simp [cmpInt] at h1
    have hms := Nums.not_fine hf0
    refine XC.seq ?_
    refine XC.region ?_
    refine XO.rd rfl rfl rfl (Reads.move rfl) ?_
    refine XO.rd rfl rfl rfl (Reads.move rfl) ?_
    refine XO.rd rfl rfl rfl (Reads.cmp rfl rfl rfl) ?_
    rw [cmp_eq_self]
    refine XO.rd rfl rfl rfl (Reads.move rfl) ?_
    refine XO.rd (wg rfl rfl rfl) rfl rfl (Reads.load_whole k25 z25 rfl (by first | exact WholeAt.of 0 rfl | exact WholeAt.of 1 rfl | exact WholeAt.of 2 rfl | exact WholeAt.of 3 rfl | exact WholeAt.of 4 rfl | exact WholeAt.of 5 rfl | exact WholeAt.of 6 rfl | exact WholeAt.of 7 rfl | exact WholeAt.of 8 rfl) (by rfl)) ?_
    refine XO.callp (wg rfl rfl rfl) rfl en35 (FC.boolEq (misses_any x ah ab ch cb _ hx) hms) ⟨rfl, trivial⟩ ?_
    refine XO.rd rfl rfl rfl (Reads.pick_true rfl rfl) ?_
    refine XO.rd rfl rfl rfl (Reads.move rfl) ?_
    refine XO.rd (wg rfl rfl rfl) rfl rfl (Reads.move rfl) ?_
    refine XO.rd (wg rfl rfl rfl) rfl rfl (Reads.len_slice Try.underlying38 rfl) ?_
    rw [show (if x.made.dist.fine x.hidN = true then x.hidN else 0) = 0 by rw [hf0]; rfl]
    refine XO.rd (wg rfl rfl rfl) rfl rfl (Reads.cmp rfl rfl rfl) ?_
    rw [show cmpInt .eql ((0 : Nat) : Int) 0 = true from rfl]
    refine XO.rd rfl rfl rfl (Reads.pick_true rfl rfl) ?_
    refine XO.rd rfl rfl rfl (Reads.assign rfl) ?_
    refine XO.nil ?_
    refine XQ.then_normal ?_
    refine XC.ret ?_
    refine XQ.then_ret ?_
    refine XQ.dropn 2 ?_
    refine XQ.done1 rfl rfl hI ?_
    exact ⟨rfl, rfl⟩
  · skip
    have hf : x.made.dist.fine x.hidN = true := by
      cases hf : x.made.dist.fine x.hidN with
      | true => rfl
      | false => rw [hf] at h1; simp [cmpInt] at h1
    have hth := hsm.there hp3 hf hk0
    have hsd := hsm.solved hf
    simp only [hf, if_true, Btw.rowsD, Btw.solveD] at hD hS hc7 ⊢
    generalize hSV : solveP x.made.dist x.hidN = sv at hth hsd hS ⊢
    obtain ⟨th, hthe⟩ : ∃ th, th = thereP x.made.dist sv (pickI c x.hidN).toNat := ⟨_, rfl⟩
    rw [← hthe] at hth
    obtain ⟨hth1, hth2, hth0⟩ := hth
    have htal := (hsm.allowed hok (fun i hi => by have := hth2 i hi; omega)).2 hth1
    refine XC.skip ?_
    refine XQ.then_normal ?_
    refine XC.seq ?_
    refine XC.seq ?_
    refine XC.region ?_
    refine XO.rd rfl rfl rfl (Reads.move rfl) ?_
    refine XO.rd rfl rfl rfl (Reads.len_slice Try.underlying38 rfl) ?_
    refine XO.rd rfl rfl rfl (fa28_0 rfl) ?_
    refine XO.rd rfl rfl rfl (Reads.load_own k3 rfl (by first | exact OwnAt.of 0 rfl rfl | exact OwnAt.of 1 rfl rfl | exact OwnAt.of 2 rfl rfl | exact OwnAt.of 3 rfl rfl | exact OwnAt.of 4 rfl rfl | exact OwnAt.of 5 rfl rfl | exact OwnAt.of 6 rfl rfl | exact OwnAt.of 7 rfl rfl | exact OwnAt.of 8 rfl rfl)) ?_
    refine XO.rd rfl rfl rfl (Reads.cmp rfl rfl rfl) ?_
    try rw [show x.made.n = (x.hidN : Int) from rfl]
    rw [cmp_ne_self]
    refine XO.rd rfl rfl rfl (Reads.move rfl) ?_
    refine XO.rd (wg rfl rfl rfl) rfl rfl (Reads.move rfl) ?_
    refine XO.rd (wg rfl rfl rfl) rfl rfl (Reads.len_slice Try.underlying22 rfl) ?_
    refine XO.rd (wg rfl rfl rfl) rfl rfl (fa28_0 rfl) ?_
    refine XO.rd (wg rfl rfl rfl) rfl rfl (Reads.load_own k3 rfl (by first | exact OwnAt.of 0 rfl rfl | exact OwnAt.of 1 rfl rfl | exact OwnAt.of 2 rfl rfl | exact OwnAt.of 3 rfl rfl | exact OwnAt.of 4 rfl rfl | exact OwnAt.of 5 rfl rfl | exact OwnAt.of 6 rfl rfl | exact OwnAt.of 7 rfl rfl | exact OwnAt.of 8 rfl rfl)) ?_
    refine XO.rd (wg rfl rfl rfl) rfl rfl (Reads.cmp rfl rfl rfl) ?_
    try rw [show x.made.n = (x.hidN : Int) from rfl]
    rw [cmp_ne_self]
    refine XO.rd rfl rfl rfl (Reads.pick_false rfl rfl) ?_
    refine XO.nil ?_
    refine XQ.then_normal ?_
    refine XC.cond rfl (fun hx => by cases hx) (fun _ => ?_)
    refine XC.skip ?_
    refine XQ.then_normal ?_
    refine XC.seq ?_
    refine XC.region ?_
    refine XO.rd rfl rfl rfl (Reads.move rfl) ?_
    refine XO.rd rfl rfl rfl (fa28_0 rfl) ?_
    refine XO.rd rfl rfl rfl (Reads.load_own k3 rfl (OwnAt.of 0 rfl rfl)) ?_
    try rw [show x.made.n = (x.hidN : Int) from rfl]
    refine XO.callp rfl rfl en13 (pickL_any c x.hidN _ hcb (by omega)) ⟨rfl, rfl, trivial⟩ ?_
    refine XO.rd rfl rfl rfl (Reads.assign rfl) ?_
    refine XO.nil ?_
    refine XQ.then_normal ?_
    refine XC.seq ?_
    refine XC.weaken (E' := [(2, _), (5, _), (6, _), (8, _), (10, _)]) ⟨rfl, rfl, rfl, rfl, rfl, trivial⟩ ?_
    refine XC.region ?_
    refine XO.rd rfl rfl rfl (Reads.assign rfl) ?_
    refine XO.nil ?_
    refine XQ.then_normal ?_
    refine XC.seq ?_
    refine XC.seq ?_
    refine XC.region ?_
    refine XO.rd rfl rfl rfl (Reads.assign rfl) ?_
    refine XO.nil ?_
    refine XQ.then_normal ?_
    refine XC.block ?_
    refine XC.vec0 3 ?_
    refine XC.loop (ι := Nat × Vec) (fun q => [(2, .pointer (some ⟨b2, 0, none⟩)), (5, .pointer (some ⟨b5, 0, none⟩)), (6, .slice ad x.hidN cd), (8, .slice a7 x.hidN c7), (10, .int .i64 (pickI c x.hidN)), (11, q.2.val), (12, .int .i64 q.1)]) (fun q => J45) (fun q => q.2.ent 3 :: some (b5, .cells #[.int .i64 x.made.n, .slice a x.made.bs.length cap] 28 (0, 0)) :: some (b2, .cells #[.int .i64 x.n, .slice ah x.hidden.length ch, .slice ab x.bnds.length cb, .int .i64 x.miss] 25 (0, 0)) :: ([] ++ Lf)) (fun q => q.1 ≤ x.hidN ∧ q.2.Is 1 (rowC q.1 th)) (fun q => x.hidN - q.1) (0, Vec.nil) ⟨Nat.zero_le _, Vec.nil_is 1⟩ ⟨rfl, rfl, rfl, rfl, rfl, rfl, rfl, trivial⟩ rfl (List.Perm.refl _) (fun q hq => ?_)
    obtain ⟨q, V⟩ := q
    obtain ⟨hk1, hV⟩ := hq
    simp only at hk1 hV ⊢
    have hVl := row_len hV
    refine XC.seq ?_
    refine XC.seq ?_
    refine XC.region ?_
    refine XO.rd rfl rfl rfl (Reads.move rfl) ?_
    refine XO.rd rfl rfl rfl (fa28_0 rfl) ?_
    refine XO.rd rfl rfl rfl (Reads.load_own k3 rfl (by first | exact OwnAt.of 0 rfl rfl | exact OwnAt.of 1 rfl rfl | exact OwnAt.of 2 rfl rfl | exact OwnAt.of 3 rfl rfl | exact OwnAt.of 4 rfl rfl | exact OwnAt.of 5 rfl rfl | exact OwnAt.of 6 rfl rfl | exact OwnAt.of 7 rfl rfl | exact OwnAt.of 8 rfl rfl)) ?_
    refine XO.rd rfl rfl rfl (Reads.cmp rfl rfl rfl) ?_
    refine XO.nil ?_
    refine XQ.then_normal ?_
    refine XC.cond rfl (fun h2 => ?_) (fun h2 => ?_)
    · skip
      try rw [show x.made.n = (x.hidN : Int) from rfl] at h2
      simp only [cmpInt, decide_eq_true_eq] at h2
      have hqN : q < x.hidN := by omega
      obtain ⟨ar, cr, hr1, hr2⟩ := tab_row hD hqN
      obtain ⟨ak, ck, hk1, hk2⟩ := tab_row hD hk0
      have hsq := hsd.neg q hqN
      refine XC.skip ?_
      refine XQ.then_normal ?_
      refine XC.seq ?_
      refine XC.block ?_
      refine XC.seq ?_
      refine XC.seq ?_
      refine XC.draw m_mixed none (.pure 0 (.pure 1 (.pure 2 (.pure 3 (.pure 4 (.pure 5 (.pure 6 (.pure 7 (.done))))))))) _ (by kernel_rfl) (List.Sublist.refl _) ?_
      refine XR.rd rfl rfl rfl (Reads.move rfl) ?_
      refine XR.rd rfl rfl rfl (Reads.move rfl) ?_
      refine XR.rd rfl rfl rfl (Reads.index_slot Try.underlying38 z22 rfl rfl (by omega) hr1.isSome rfl) ?_
      refine XR.rd rfl rfl rfl (Reads.load_at k22 rfl hr1) ?_
      refine XR.rd rfl rfl rfl (Reads.len_slice Try.underlying22 rfl) ?_
      refine XR.rd rfl rfl rfl (fa28_0 rfl) ?_
      refine XR.rd rfl rfl rfl (Reads.load_own k3 rfl (by first | exact OwnAt.of 0 rfl rfl | exact OwnAt.of 1 rfl rfl | exact OwnAt.of 2 rfl rfl | exact OwnAt.of 3 rfl rfl | exact OwnAt.of 4 rfl rfl | exact OwnAt.of 5 rfl rfl | exact OwnAt.of 6 rfl rfl | exact OwnAt.of 7 rfl rfl | exact OwnAt.of 8 rfl rfl)) ?_
      refine XR.rd rfl rfl rfl (Reads.cmp rfl rfl rfl) ?_
      try rw [show x.made.n = (x.hidN : Int) from rfl]
      rw [cmp_ne_self]
      refine XR.nil ?_
      refine XQ.then_normal ?_
      refine XC.cond rfl (fun hx => by cases hx) (fun _ => ?_)
      refine XC.skip ?_
      refine XQ.then_normal ?_
      refine XC.seq ?_
      refine XC.region ?_
      refine XO.rd rfl rfl rfl (Reads.move rfl) ?_
      refine XO.rd rfl rfl rfl (Reads.move rfl) ?_
      refine XO.rd rfl rfl rfl (Reads.index_slot Try.underlying38 z22 rfl rfl (by omega) hk1.isSome rfl) ?_
      refine XO.rd rfl rfl rfl (Reads.load_at k22 rfl hk1) ?_
      refine XO.rd rfl rfl rfl (Reads.move rfl) ?_
      refine XO.rd rfl rfl rfl (Reads.index_slot (q := q * 1) Try.underlying22 z3 rfl rfl (by omega) (row_int hk2 hqN).isSome (by simp)) ?_
      refine XO.rd rfl rfl rfl (Reads.load_at k3 rfl (row_int hk2 hqN)) ?_
      refine XO.rd rfl rfl rfl (Reads.cmp rfl rfl rfl) ?_
      refine XO.nil ?_
      refine XQ.then_normal ?_
      refine XC.cond rfl (fun h3 => ?_) (fun h3 => ?_)
      · skip
        simp [cmpInt] at h3
        change _ = far at h3
        refine XC.region ?_
        refine XO.rd rfl rfl rfl (Reads.move rfl) ?_
        refine XO.rd rfl rfl rfl (Reads.move rfl) ?_
        refine XO.rd rfl rfl rfl (Reads.move rfl) ?_
        refine XO.rd rfl rfl rfl (Reads.index_slot (q := q * 1) Try.underlying22 z3 rfl rfl (by omega) (row_int hS hqN).isSome (by simp)) ?_
        refine XO.rd rfl rfl rfl (Reads.load_at k3 rfl (row_int hS hqN)) ?_
        refine XO.rd rfl rfl rfl (Reads.add rfl rfl (by omega)) ?_
        rw [show (1000000000 : Int) + sv q = th q by rw [hthe]; unfold thereP; rw [if_pos (by assumption)]]
        refine XO.buildL [.int .i64 (th q)] [.int .i64 (th q)] rfl rfl Try.underlying22 el3 rfl (by simp) ⟨rfl, rfl, trivial⟩ rfl rfl (fun bu => ?_)
        refine XO.append (V := V) 1 rfl rfl Try.underlying22 el3 rfl rfl hV rfl (.slice Try.underlying22 (.inr (.inr ⟨bu, 0, rfl, fun j v hj => ⟨#[.int .i64 (th q)], 3, (0, 0), by simp, by simpa using hj⟩⟩)) rfl (by simp [Value.oneCell'])) (by omega) (by omega) ?_
        intro V' hV' _
        refine XO.rd rfl rfl rfl (Reads.assign rfl) ?_
        refine XO.nil ?_
        refine XQ.block_normal ?_
        refine XQ.then_normal ?_
        refine XC.region ?_
        refine XO.rd rfl rfl rfl (Reads.move rfl) ?_
        refine XO.rd rfl rfl rfl (Reads.add rfl rfl (by omega)) ?_
        refine XO.rd rfl rfl rfl (Reads.assign rfl) ?_
        refine XO.nil ?_
        refine XQ.dropn 1 ?_
        refine XQ.back (q + 1, V') ⟨by simp only; omega, by rw [rowC_succ]; exact hV'⟩ (by simp only; omega) ⟨rfl, rfl, rfl, rfl, rfl, rfl, rfl, trivial⟩ rfl (List.Perm.refl _)
      · skip
        simp [cmpInt] at h3
        change ¬ _ = far at h3
        refine XC.region ?_
        refine XO.rd rfl rfl rfl (Reads.move rfl) ?_
        refine XO.rd rfl rfl rfl (Reads.move rfl) ?_
        refine XO.rd rfl rfl rfl (Reads.move rfl) ?_
        refine XO.rd rfl rfl rfl (Reads.index_slot Try.underlying38 z22 rfl rfl (by omega) hk1.isSome rfl) ?_
        refine XO.rd rfl rfl rfl (Reads.load_at k22 rfl hk1) ?_
        refine XO.rd rfl rfl rfl (Reads.move rfl) ?_
        refine XO.rd rfl rfl rfl (Reads.index_slot (q := q * 1) Try.underlying22 z3 rfl rfl (by omega) (row_int hk2 hqN).isSome (by simp)) ?_
        refine XO.rd rfl rfl rfl (Reads.load_at k3 rfl (row_int hk2 hqN)) ?_
        rw [show x.made.dist (pickI c x.hidN).toNat q = th q by rw [hthe]; unfold thereP; rw [if_neg (by assumption)]]
        refine XO.buildL [.int .i64 (th q)] [.int .i64 (th q)] rfl rfl Try.underlying22 el3 rfl (by simp) ⟨rfl, rfl, trivial⟩ rfl rfl (fun bu => ?_)
        refine XO.append (V := V) 1 rfl rfl Try.underlying22 el3 rfl rfl hV rfl (.slice Try.underlying22 (.inr (.inr ⟨bu, 0, rfl, fun j v hj => ⟨#[.int .i64 (th q)], 3, (0, 0), by simp, by simpa using hj⟩⟩)) rfl (by simp [Value.oneCell'])) (by omega) (by omega) ?_
        intro V' hV' _
        refine XO.rd rfl rfl rfl (Reads.assign rfl) ?_
        refine XO.nil ?_
        refine XQ.block_normal ?_
        refine XQ.then_normal ?_
        refine XC.region ?_
        refine XO.rd rfl rfl rfl (Reads.move rfl) ?_
        refine XO.rd rfl rfl rfl (Reads.add rfl rfl (by omega)) ?_
        refine XO.rd rfl rfl rfl (Reads.assign rfl) ?_
        refine XO.nil ?_
        refine XQ.dropn 1 ?_
        refine XQ.back (q + 1, V') ⟨by simp only; omega, by rw [rowC_succ]; exact hV'⟩ (by simp only; omega) ⟨rfl, rfl, rfl, rfl, rfl, rfl, rfl, trivial⟩ rfl (List.Perm.refl _)
    · skip
      try rw [show x.made.n = (x.hidN : Int) from rfl] at h2
      simp only [cmpInt, decide_eq_false_iff_not] at h2
      have hqN : q = x.hidN := by omega
      subst hqN
      obtain ⟨Vt, rfl⟩ : ∃ Vt, Vt = V := ⟨_, rfl⟩
      have hVtl := hVl
      refine XC.exit ?_
      refine XQ.then_exit ?_
      refine XQ.then_exit ?_
      refine XQ.block_exit ?_
      refine XQ.then_normal ?_
      refine XC.seq ?_
      refine XC.seq ?_
      refine XC.region ?_
      refine XO.vec_done (α := Int) (by decide) hV (flat_row _ _ _) (fun J46 hle46 hs => ?_)
      replace hI := Im.le_trans hI hle46
      replace hH := hH.mono hle46
      replace hB := hB.mono hle46
      replace hA := hA.mono hle46
      replace hD := hD.mono hle46
      replace hS := hS.mono hle46
      refine XO.rd rfl rfl rfl (Reads.move rfl) ?_
      refine XO.rd rfl rfl rfl (Reads.move rfl) ?_
      refine XO.rd rfl rfl rfl (Reads.index_slot (q := (pickI c x.hidN).toNat * 1) Try.underlying22 z3 rfl rfl (by omega) (row_int hs.arr.1 hk0).isSome (by simp)) ?_
      refine XO.rd rfl rfl rfl (Reads.load_at k3 rfl (row_int hs.arr.1 hk0)) ?_
      refine XO.rd rfl rfl rfl (Reads.cmp rfl rfl rfl) ?_
      rw [hth0, show cmpInt .neq 0 0 = false from rfl]
      refine XO.rd rfl rfl rfl (Reads.move rfl) ?_
      refine XO.rd (wg rfl rfl rfl) rfl rfl (Reads.load_whole k28 z28 rfl (by first | exact WholeAt.of 0 rfl | exact WholeAt.of 1 rfl | exact WholeAt.of 2 rfl | exact WholeAt.of 3 rfl | exact WholeAt.of 4 rfl | exact WholeAt.of 5 rfl | exact WholeAt.of 6 rfl | exact WholeAt.of 7 rfl | exact WholeAt.of 8 rfl) (by rfl)) ?_
      refine XO.rd (wg rfl rfl rfl) rfl rfl (Reads.move rfl) ?_
      have hal := FC.boolEq (allowed_any x.made a cap Vt.addr ((List.range x.hidN).map th) Vt.cap _ hA hs.arr.1 (by omega) (by simp; omega)) htal
      simp only [List.length_map, List.length_range] at hal
      rw [← hVtl] at hal
      refine XO.callp (wg rfl rfl rfl) rfl en27 hal ⟨rfl, rfl, trivial⟩ ?_
      refine XO.rd (wg rfl rfl rfl) rfl rfl (Reads.not rfl) ?_
      refine XO.rd rfl rfl rfl (Reads.pick_false rfl rfl) ?_
      refine XO.nil ?_
      refine XQ.then_normal ?_
      refine XC.cond rfl (fun hx => by cases hx) (fun _ => ?_)
      refine XC.skip ?_
      refine XQ.then_normal ?_
      refine XC.seq ?_
      refine XC.seq ?_
      refine XC.region ?_
      refine XO.rd rfl rfl rfl (Reads.move rfl) ?_
      refine XO.rd rfl rfl rfl (Reads.load_whole k25 z25 rfl (by first | exact WholeAt.of 0 rfl | exact WholeAt.of 1 rfl | exact WholeAt.of 2 rfl | exact WholeAt.of 3 rfl | exact WholeAt.of 4 rfl | exact WholeAt.of 5 rfl | exact WholeAt.of 6 rfl | exact WholeAt.of 7 rfl | exact WholeAt.of 8 rfl) (by rfl)) ?_
      refine XO.call rfl rfl en26 (hidden_any x ah ab ch cb _ hx hH hB) ⟨rfl, trivial⟩ ?_
      rintro u J47 hle47 hr
      replace hI := Im.le_trans hI hle47
      replace hH := hH.mono hle47
      replace hB := hB.mono hle47
      replace hA := hA.mono hle47
      replace hD := hD.mono hle47
      replace hS := hS.mono hle47
      replace hs := hs.mono hle47
      obtain ⟨av, cv, rfl, hcv, hHd⟩ := hr.ex
      simp only [Nums.hid_len] at hcv ⊢
      refine XO.rd rfl rfl rfl (Reads.move rfl) ?_
      refine XO.lit (α := List Int) [(List.range x.hidN).map sv, (List.range x.hidN).map x.hidF, (List.range x.hidN).map th] [.slice a7 x.hidN c7, .slice av x.hidN cv, Vt.val] [.slice a7 x.hidN c7, .slice av x.hidN cv, Vt.val] rfl rfl Try.underlying38 el22 rfl (by simp) ⟨rfl, rfl, rfl, rfl, rfl, rfl, trivial⟩ rfl rfl (by decide) rfl (.cons (cs := [_]) ⟨_, rfl, ⟨a7, c7, by simp, by simpa using hc7, hS⟩⟩ (.cons (cs := [_]) ⟨_, rfl, ⟨av, cv, by simp, by simpa using hcv, hHd⟩⟩ (.cons (cs := [_]) ⟨_, rfl, hs⟩ .nil))) (fun bl J48 hle48 hLs => ?_)
      replace hI := Im.le_trans hI hle48
      replace hH := hH.mono hle48
      replace hB := hB.mono hle48
      replace hA := hA.mono hle48
      replace hD := hD.mono hle48
      replace hS := hS.mono hle48
      replace hs := hs.mono hle48
      replace hHd := hHd.mono hle48
      refine XO.rd rfl rfl rfl (Reads.len_slice Try.underlying38 rfl) ?_
      refine XO.rd rfl rfl rfl (Reads.move rfl) ?_
      refine XO.nil ?_
      refine XQ.then_normal ?_
      refine XC.block ?_
      refine XC.loop (ι := Nat) (fun q => [(5, .pointer (some ⟨b5, 0, none⟩)), (6, .slice ad x.hidN cd), (121, .slice (some ⟨bl, 0, none⟩) 3 3), (122, .int .i64 3), (123, .int .i64 q)]) (fun q => J48) (fun q => some (b5, .cells #[.int .i64 x.made.n, .slice a x.made.bs.length cap] 28 (0, 0)) :: some (b2, .cells #[.int .i64 x.n, .slice ah x.hidden.length ch, .slice ab x.bnds.length cb, .int .i64 x.miss] 25 (0, 0)) :: ([] ++ Lf)) (fun q => q ≤ 3) (fun q => 3 - q) 0 (Nat.zero_le _) ⟨rfl, rfl, rfl, rfl, rfl, trivial⟩ rfl (List.Perm.refl _) (fun r hr => ?_)
      refine XC.seq ?_
      refine XC.region ?_
      refine XO.rd rfl rfl rfl (Reads.cmp rfl rfl rfl) ?_
      refine XO.nil ?_
      refine XQ.then_normal ?_
      refine XC.seq ?_
      refine XC.cond rfl (fun h4 => ?_) (fun h4 => ?_)
      · skip
        simp only [cmpInt, decide_eq_true_eq] at h4
        have hq3 : r < 3 := by omega
        obtain ⟨p, ap, cp, hpc, hw1, hw2⟩ := three_rows hLs.arr.1 hq3
        have hpb : ∀ i, i < x.hidN → -2000000000 ≤ p i ∧ p i ≤ 2000000000 := fun i hi => by
          have g1 := hsd.neg i hi; have g2 := x.hidF_range i; have g3 := hth2 i hi
          rcases hpc with rfl | rfl | rfl <;> omega
        have hal := allowed_any x.made a cap ap ((List.range x.hidN).map p) cp _ hA hw2 (by omega) (by simp; omega)
        simp only [List.length_map, List.length_range] at hal
        refine XC.skip ?_
        refine XQ.then_normal ?_
        refine XC.seq ?_
        refine XC.block ?_
        refine XC.seq ?_
        refine XC.region ?_
        refine XO.rd rfl rfl rfl (Reads.index_slot Try.underlying38 z22 rfl rfl (by omega) hw1.isSome rfl) ?_
        refine XO.rd rfl rfl rfl (Reads.load_at k22 rfl hw1) ?_
        refine XO.rd rfl rfl rfl (Reads.assign rfl) ?_
        refine XO.nil ?_
        refine XQ.then_normal ?_
        refine XC.seq ?_
        refine XC.seq ?_
        refine XC.region ?_
        refine XO.rd rfl rfl rfl (Reads.load_whole k28 z28 rfl (by first | exact WholeAt.of 0 rfl | exact WholeAt.of 1 rfl | exact WholeAt.of 2 rfl | exact WholeAt.of 3 rfl | exact WholeAt.of 4 rfl | exact WholeAt.of 5 rfl | exact WholeAt.of 6 rfl | exact WholeAt.of 7 rfl | exact WholeAt.of 8 rfl) (by rfl)) ?_
        refine XO.rd rfl rfl rfl (Reads.move rfl) ?_
        refine XO.callp rfl rfl en27 (hal) ⟨rfl, rfl, trivial⟩ ?_
        refine XO.rd rfl rfl rfl (Reads.not rfl) ?_
        refine XO.nil ?_
        refine XQ.then_normal ?_
        refine XC.cond rfl (fun h5 => ?_) (fun h5 => ?_)
        · skip
          skip
          refine XC.exit ?_
          refine XQ.then_exit ?_
          refine XQ.block_exit ?_
          refine XQ.then_normal ?_
          refine XC.region ?_
          refine XO.rd rfl rfl rfl (Reads.add rfl rfl (by omega)) ?_
          refine XO.rd rfl rfl rfl (Reads.move rfl) ?_
          refine XO.nil ?_
          refine XQ.back (r + 1) (by omega) (by omega) ⟨rfl, rfl, rfl, rfl, rfl, trivial⟩ rfl (List.Perm.refl _)
        · skip
          simp at h5
          have hps := (hsm.allowed hok (fun i hi => by have := hpb i hi; omega)).1 h5
          have hpd := (hsm.sit hps (fun i hi => by have := hpb i hi; omega)).2
          refine XC.skip ?_
          refine XQ.then_normal ?_
          refine XC.seq ?_
          refine XC.region ?_
          refine XO.rd rfl rfl rfl (Reads.assign rfl) ?_
          refine XO.nil ?_
          refine XQ.then_normal ?_
          refine XC.block ?_
          refine XC.loop (ι := Nat) (fun q => [(5, .pointer (some ⟨b5, 0, none⟩)), (6, .slice ad x.hidN cd), (14, .slice ap x.hidN cp), (15, .int .i64 q), (121, .slice (some ⟨bl, 0, none⟩) 3 3), (122, .int .i64 3), (123, .int .i64 r)]) (fun q => J48) (fun q => some (b5, .cells #[.int .i64 x.made.n, .slice a x.made.bs.length cap] 28 (0, 0)) :: some (b2, .cells #[.int .i64 x.n, .slice ah x.hidden.length ch, .slice ab x.bnds.length cb, .int .i64 x.miss] 25 (0, 0)) :: ([] ++ Lf)) (fun q => q ≤ x.hidN) (fun q => x.hidN - q) 0 (Nat.zero_le _) ⟨rfl, rfl, rfl, rfl, rfl, rfl, rfl, trivial⟩ rfl (List.Perm.refl _) (fun i hi => ?_)
          refine XC.seq ?_
          refine XC.seq ?_
          refine XC.region ?_
          refine XO.rd rfl rfl rfl (Reads.move rfl) ?_
          refine XO.rd rfl rfl rfl (fa28_0 rfl) ?_
          refine XO.rd rfl rfl rfl (Reads.load_own k3 rfl (by first | exact OwnAt.of 0 rfl rfl | exact OwnAt.of 1 rfl rfl | exact OwnAt.of 2 rfl rfl | exact OwnAt.of 3 rfl rfl | exact OwnAt.of 4 rfl rfl | exact OwnAt.of 5 rfl rfl | exact OwnAt.of 6 rfl rfl | exact OwnAt.of 7 rfl rfl | exact OwnAt.of 8 rfl rfl)) ?_
          refine XO.rd rfl rfl rfl (Reads.cmp rfl rfl rfl) ?_
          refine XO.nil ?_
          refine XQ.then_normal ?_
          refine XC.cond rfl (fun h6 => ?_) (fun h6 => ?_)
          · skip
            try rw [show x.made.n = (x.hidN : Int) from rfl] at h6
            simp only [cmpInt, decide_eq_true_eq] at h6
            have hiN : i < x.hidN := by omega
            obtain ⟨ar, cr, hr1, hr2⟩ := tab_row hD hiN
            refine XC.skip ?_
            refine XQ.then_normal ?_
            refine XC.seq ?_
            refine XC.block ?_
            refine XC.seq ?_
            refine XC.region ?_
            refine XO.rd rfl rfl rfl (Reads.assign rfl) ?_
            refine XO.nil ?_
            refine XQ.then_normal ?_
            refine XC.block ?_
            refine XC.loop (ι := Nat) (fun q => [(5, .pointer (some ⟨b5, 0, none⟩)), (6, .slice ad x.hidN cd), (14, .slice ap x.hidN cp), (15, .int .i64 i), (16, .int .i64 q), (121, .slice (some ⟨bl, 0, none⟩) 3 3), (122, .int .i64 3), (123, .int .i64 r)]) (fun q => J48) (fun q => some (b5, .cells #[.int .i64 x.made.n, .slice a x.made.bs.length cap] 28 (0, 0)) :: some (b2, .cells #[.int .i64 x.n, .slice ah x.hidden.length ch, .slice ab x.bnds.length cb, .int .i64 x.miss] 25 (0, 0)) :: ([] ++ Lf)) (fun q => q ≤ x.hidN) (fun q => x.hidN - q) 0 (Nat.zero_le _) ⟨rfl, rfl, rfl, rfl, rfl, rfl, rfl, rfl, trivial⟩ rfl (List.Perm.refl _) (fun j hj => ?_)
            refine XC.seq ?_
            refine XC.seq ?_
            refine XC.region ?_
            refine XO.rd rfl rfl rfl (Reads.move rfl) ?_
            refine XO.rd rfl rfl rfl (fa28_0 rfl) ?_
            refine XO.rd rfl rfl rfl (Reads.load_own k3 rfl (by first | exact OwnAt.of 0 rfl rfl | exact OwnAt.of 1 rfl rfl | exact OwnAt.of 2 rfl rfl | exact OwnAt.of 3 rfl rfl | exact OwnAt.of 4 rfl rfl | exact OwnAt.of 5 rfl rfl | exact OwnAt.of 6 rfl rfl | exact OwnAt.of 7 rfl rfl | exact OwnAt.of 8 rfl rfl)) ?_
            refine XO.rd rfl rfl rfl (Reads.cmp rfl rfl rfl) ?_
            refine XO.nil ?_
            refine XQ.then_normal ?_
            refine XC.cond rfl (fun h7 => ?_) (fun h7 => ?_)
            · skip
              try rw [show x.made.n = (x.hidN : Int) from rfl] at h7
              simp only [cmpInt, decide_eq_true_eq] at h7
              have hjN : j < x.hidN := by omega
              have hpij := hpd i j hiN hjN
              have hpbi := hpb i hiN
              have hpbj := hpb j hjN
              refine XC.skip ?_
              refine XQ.then_normal ?_
              refine XC.seq ?_
              refine XC.block ?_
              refine XC.seq ?_
              refine XC.weaken (E' := [(5, _), (6, _), (14, _), (15, _), (16, _), (121, _), (122, _), (123, _)]) ⟨rfl, rfl, rfl, rfl, rfl, rfl, rfl, rfl, trivial⟩ ?_
              refine XC.draw m_mixed none (.pure 0 (.pure 1 (.pure 2 (.pure 3 (.pure 4 (.pure 5 (.pure 6 (.pure 7 (.pure 8 (.pure 9 (.pure 10 (.pure 11 (.pure 12 (.pure 13 (.pure 14 (.pure 15 (.pure 16 (.done)))))))))))))))))) _ (by kernel_rfl) (List.Sublist.refl _) ?_
              refine XR.rd rfl rfl rfl (Reads.move rfl) ?_
              refine XR.rd rfl rfl rfl (Reads.move rfl) ?_
              refine XR.rd rfl rfl rfl (Reads.index_slot (q := j * 1) Try.underlying22 z3 rfl rfl (by omega) (row_int hw2 hjN).isSome (by simp)) ?_
              refine XR.rd rfl rfl rfl (Reads.load_at k3 rfl (row_int hw2 hjN)) ?_
              refine XR.rd rfl rfl rfl (Reads.move rfl) ?_
              refine XR.rd rfl rfl rfl (Reads.move rfl) ?_
              refine XR.rd rfl rfl rfl (Reads.index_slot (q := i * 1) Try.underlying22 z3 rfl rfl (by omega) (row_int hw2 hiN).isSome (by simp)) ?_
              refine XR.rd rfl rfl rfl (Reads.load_at k3 rfl (row_int hw2 hiN)) ?_
              refine XR.rd rfl rfl rfl (Reads.sub rfl rfl (by omega)) ?_
              refine XR.rd rfl rfl rfl (Reads.move rfl) ?_
              refine XR.rd rfl rfl rfl (Reads.move rfl) ?_
              refine XR.rd rfl rfl rfl (Reads.index_slot Try.underlying38 z22 rfl rfl (by omega) hr1.isSome rfl) ?_
              refine XR.rd rfl rfl rfl (Reads.load_at k22 rfl hr1) ?_
              refine XR.rd rfl rfl rfl (Reads.move rfl) ?_
              refine XR.rd rfl rfl rfl (Reads.index_slot (q := j * 1) Try.underlying22 z3 rfl rfl (by omega) (row_int hr2 hjN).isSome (by simp)) ?_
              refine XR.rd rfl rfl rfl (Reads.load_at k3 rfl (row_int hr2 hjN)) ?_
              refine XR.rd rfl rfl rfl (Reads.cmp rfl rfl rfl) ?_
              refine XR.nil ?_
              refine XQ.then_normal ?_
              refine XC.cond rfl (fun h8 => ?_) (fun h8 => ?_)
              · skip
                simp only [cmpInt, decide_eq_true_eq] at h8
                exfalso; omega
              · skip
                skip
                refine XC.skip ?_
                refine XQ.block_normal ?_
                refine XQ.then_normal ?_
                refine XC.region ?_
                refine XO.rd rfl rfl rfl (Reads.move rfl) ?_
                refine XO.rd rfl rfl rfl (Reads.add rfl rfl (by omega)) ?_
                refine XO.rd rfl rfl rfl (Reads.assign rfl) ?_
                refine XO.nil ?_
                refine XQ.back (j + 1) (by omega) (by omega) ⟨rfl, rfl, rfl, rfl, rfl, rfl, rfl, rfl, trivial⟩ rfl (List.Perm.refl _)
            · skip
              skip
              refine XC.exit ?_
              refine XQ.then_exit ?_
              refine XQ.then_exit ?_
              refine XQ.block_exit ?_
              refine XQ.block_normal ?_
              refine XQ.then_normal ?_
              refine XC.weaken (E' := [(5, _), (6, _), (14, _), (15, _), (121, _), (122, _), (123, _)]) ⟨rfl, rfl, rfl, rfl, rfl, rfl, rfl, trivial⟩ ?_
              refine XC.region ?_
              refine XO.rd rfl rfl rfl (Reads.move rfl) ?_
              refine XO.rd rfl rfl rfl (Reads.add rfl rfl (by omega)) ?_
              refine XO.rd rfl rfl rfl (Reads.assign rfl) ?_
              refine XO.nil ?_
              refine XQ.back (i + 1) (by omega) (by omega) ⟨rfl, rfl, rfl, rfl, rfl, rfl, rfl, trivial⟩ rfl (List.Perm.refl _)
          · skip
            skip
            refine XC.exit ?_
            refine XQ.then_exit ?_
            refine XQ.then_exit ?_
            refine XQ.block_exit ?_
            refine XQ.block_normal ?_
            refine XQ.then_normal ?_
            refine XC.region ?_
            refine XO.rd rfl rfl rfl (Reads.add rfl rfl (by omega)) ?_
            refine XO.rd rfl rfl rfl (Reads.move rfl) ?_
            refine XO.nil ?_
            refine XQ.back (r + 1) (by omega) (by omega) ⟨rfl, rfl, rfl, rfl, rfl, trivial⟩ rfl (List.Perm.refl _)
      · skip
        skip
        refine XC.exit ?_
        refine XQ.then_exit ?_
        refine XQ.then_exit ?_
        refine XQ.block_exit ?_
        refine XQ.then_normal ?_
        refine XC.seq ?_
        refine XC.region ?_
        refine XO.rd rfl rfl rfl (Reads.assign rfl) ?_
        refine XO.nil ?_
        refine XQ.then_normal ?_
        refine XC.ret ?_
        refine XQ.dropn 2 ?_
        refine XQ.done1 rfl rfl hI ?_
        exact ⟨rfl, rfl⟩

end Go.Proofs.Ytlgfpieokaegiaa
