/- Walk: LinkOut. -/
import Derived.Test.YtkjhhifhgcihpaaDoorD14
namespace Go.Proofs.YtkjhhifhgcihpaaDoor
open Go.Xe Go.Sh Go Go.Lk

theorem linkOut_any (a : Option Addr) (cap : Nat) (ops : List Q4) (I : Im) (hY : Arr I a ops) (hops : ∀ x ∈ ops, x.In) (hG : Glob I) : FC Tryd.prog 9 [.slice a ops.length cap] I (fun u I' => u = .bool true) := by
  have hI := Im.le_refl I
  have hs := (busy_sys ops).1
  have hs12 := (busy_sys ops).2
  have n0 := hs12 0 (by decide)
  have n1 := hs12 1 (by decide)
  have oa := hs.ok 0 (by decide)
  have ob := hs.ok 1 (by decide)
  have g0 : (busyF ops 0).got ≤ (busyF ops 1).sent.length := hs.got 0 (by decide)
  have g1 : (busyF ops 1).got ≤ (busyF ops 0).sent.length := hs.got 1 (by decide)
  have k0 : (busyF ops 0).acked ≤ (busyF ops 1).got := hs.acked 0 (by decide)
  have k1 : (busyF ops 1).acked ≤ (busyF ops 0).got := hs.acked 1 (by decide)
  have a0 := oa.acked
  have hcnt := outF_count a0
  have hlen4 := outF_len (busyF ops 0)
  refine FSo.intro (n := 93) Tryd.func9 rfl rfl rfl (fun K Lf => ?_)
  refine XC.seq ?_
  refine XC.region ?_
  refine XO.rd rfl rfl rfl (Reads.assign rfl) ?_
  refine XO.nil ?_
  refine XQ.then_normal ?_
  refine XC.seq ?_
  refine XC.region ?_
  refine XO.rd rfl rfl rfl (Reads.move rfl) ?_
  refine XO.callo (vs := [_]) (L1 := []) rfl rfl rfl en39 ⟨rfl, trivial⟩ (busy_is a cap ops _ hY hops hG) (List.Perm.refl _) ?_
  rintro v I' L' _ ⟨hI', ba, bb, ha, hb, rfl, rfl, hEa, hEb⟩
  replace hI' := hI'.symm
  subst hI'
  refine XO.own_eq (L' := (endL ba (busyF ops 0) ha ++ (endL bb (busyF ops 1) hb ++ Lf))) rfl ?_
  refine XO.rd rfl rfl rfl (Reads.move rfl) ?_
  refine XO.rd rfl rfl rfl (Reads.extract rfl rfl) ?_
  refine XO.rd rfl rfl rfl (Reads.extract rfl rfl) ?_
  refine XO.rd rfl rfl rfl (Reads.extract rfl rfl) ?_
  refine XO.rd rfl rfl rfl (Reads.assign rfl) ?_
  refine XO.rd rfl rfl rfl (Reads.assign rfl) ?_
  refine XO.rd rfl rfl rfl (Reads.assign rfl) ?_
  refine XO.nil ?_
  refine XQ.then_normal ?_
  refine XC.seq ?_
  refine XC.seq ?_
  refine XC.region ?_
  refine XO.callp rfl rfl en14 (FC.pure (sane_any _ hG)) trivial ?_
  refine XO.rd rfl rfl rfl (Reads.not rfl) ?_
  refine XO.rd rfl rfl rfl (Reads.move rfl) ?_
  refine XO.rd (wg rfl rfl rfl) rfl rfl (Reads.move rfl) ?_
  refine XO.rd (wg rfl rfl rfl) rfl rfl (Reads.not rfl) ?_
  refine XO.rd rfl rfl rfl (Reads.pick_false rfl rfl) ?_
  refine XO.nil ?_
  refine XQ.then_normal ?_
  refine XC.cond rfl (fun hx => by cases hx) (fun _ => ?_)
  refine XC.skip ?_
  refine XQ.then_normal ?_
  refine XC.seq ?_
  refine XC.region ?_
  refine XO.rd rfl rfl rfl (Reads.move rfl) ?_
  refine XO.callo (vs := [_]) (L1 := (endL ba (busyF ops 0) ha)) rfl rfl rfl en22 ⟨rfl, trivial⟩ (out_is (ps := outF (busyF ops 0)) rfl hEa hG) (List.Perm.refl _) ?_
  rintro v I' L' _ ⟨V1, rfl, hI', rfl, hV1, hV1l⟩
  replace hI' := hI'.symm
  subst hI'
  refine XO.vec_done (α := Pkt) (by decide) hV1 (flat_pkt _ _) (fun J1 hle1 hs1 => ?_)
  replace hI := Im.le_trans hI hle1
  replace hG := hG.mono hle1
  replace hY := hY.mono hle1
  obtain ⟨blk1, len1, cap1⟩ := V1
  simp only at hV1l hs1 ⊢
  subst hV1l
  have hO1 := hs1.arr.1
  refine XO.own_eq (L' := (endL ba (busyF ops 0) ha ++ (endL bb (busyF ops 1) hb ++ Lf))) rfl ?_
  refine XO.rd rfl rfl rfl (Reads.assign rfl) ?_
  refine XO.nil ?_
  refine XQ.then_normal ?_
  refine XC.seq ?_
  refine XC.seq ?_
  refine XC.region ?_
  refine XO.rd rfl rfl rfl (Reads.move rfl) ?_
  refine XO.rd rfl rfl rfl (Reads.len_slice Tryd.underlying37 rfl) ?_
  refine XO.rd rfl rfl rfl (Reads.cmp_no rfl rfl rfl (by simp only [cmpInt, decide_eq_false_iff_not, beq_eq_false_iff_ne, bne_eq_false_iff_eq] <;> omega)) ?_
  refine XO.rd rfl rfl rfl (Reads.move rfl) ?_
  refine XO.rd (wg rfl rfl rfl) rfl rfl (Reads.move rfl) ?_
  refine XO.rd (wg rfl rfl rfl) rfl rfl (Reads.len_slice Tryd.underlying37 rfl) ?_
  refine XO.rd (wg rfl rfl rfl) rfl rfl (Reads.cmp_no rfl rfl rfl (by simp only [cmpInt, decide_eq_false_iff_not, beq_eq_false_iff_ne, bne_eq_false_iff_eq] <;> omega)) ?_
  refine XO.rd rfl rfl rfl (Reads.pick_false rfl rfl) ?_
  refine XO.rd rfl rfl rfl (Reads.move rfl) ?_
  refine XO.rd (wg rfl rfl rfl) rfl rfl (Reads.move rfl) ?_
  refine XO.callo (vs := [_]) (L1 := (endL ba (busyF ops 0) ha)) (wg rfl rfl rfl) rfl rfl en22 ⟨rfl, trivial⟩ (out_is (ps := outF (busyF ops 0)) rfl hEa hG) (List.Perm.refl _) ?_
  rintro v I' L' _ ⟨V2, rfl, hI', rfl, hV2, hV2l⟩
  replace hI' := hI'.symm
  subst hI'
  refine XO.vec_done (α := Pkt) (by decide) hV2 (flat_pkt _ _) (fun J2 hle2 hs2 => ?_)
  replace hI := Im.le_trans hI hle2
  replace hG := hG.mono hle2
  replace hY := hY.mono hle2
  replace hO1 := hO1.mono hle2
  obtain ⟨blk2, len2, cap2⟩ := V2
  simp only at hV2l hs2 ⊢
  subst hV2l
  have hO2 := hs2.arr.1
  refine XO.own_eq (L' := (endL ba (busyF ops 0) ha ++ (endL bb (busyF ops 1) hb ++ Lf))) rfl ?_
  refine XO.rd (wg rfl rfl rfl) rfl rfl (Reads.move rfl) ?_
  refine XO.callp (wg rfl rfl rfl) rfl en23 (same_is (c := true) (decide_eq_true rfl) (by have := outF_len (busyF ops 0); omega) hO2 hO1) ⟨rfl, rfl, trivial⟩ ?_
  refine XO.rd (wg rfl rfl rfl) rfl rfl (Reads.not rfl) ?_
  refine XO.rd rfl rfl rfl (Reads.pick_false rfl rfl) ?_
  refine XO.nil ?_
  refine XQ.then_normal ?_
  refine XC.cond rfl (fun hx => by cases hx) (fun _ => ?_)
  refine XC.skip ?_
  refine XQ.then_normal ?_
  refine XC.seq ?_
  refine XC.seq ?_
  refine XC.region ?_
  refine XO.rd rfl rfl rfl (Reads.assign rfl) ?_
  refine XO.nil ?_
  refine XQ.then_normal ?_
  refine XC.block ?_
  refine XC.loop (ι := Nat) (fun q => [(3, .pointer (some ⟨ba, 0, none⟩)), (4, .pointer (some ⟨bb, 0, none⟩)), (6, .slice (Vec.addr ⟨blk1, (outF (busyF ops 0)).length, cap1⟩) (outF (busyF ops 0)).length cap1), (7, .int .i64 q)]) (fun q => J2) (fun q => (endL ba (busyF ops 0) ha ++ (endL bb (busyF ops 1) hb ++ Lf))) (fun q => q ≤ (outF (busyF ops 0)).length) (fun q => (outF (busyF ops 0)).length - q) 0 (Nat.zero_le _) ⟨rfl, rfl, rfl, rfl, trivial⟩ rfl (List.Perm.refl _) (fun k hk => ?_)
  refine XC.seq ?_
  refine XC.seq ?_
  refine XC.region ?_
  refine XO.rd rfl rfl rfl (Reads.move rfl) ?_
  refine XO.rd rfl rfl rfl (Reads.move rfl) ?_
  refine XO.rd rfl rfl rfl (Reads.len_slice Tryd.underlying37 rfl) ?_
  refine XO.rd rfl rfl rfl (Reads.cmp rfl rfl rfl) ?_
  refine XO.nil ?_
  refine XQ.then_normal ?_
  refine XC.cond rfl (fun h1 => ?_) (fun h1 => ?_)
  · skip
    simp only [cmpInt, decide_eq_true_eq] at h1
    have hk3 : k < (outF (busyF ops 0)).length := by omega
    obtain ⟨hgen, hack, hser⟩ := out_at hs (n := 0) (by decide) hk3
    refine XC.skip ?_
    refine XQ.then_normal ?_
    refine XC.seq ?_
    refine XC.block ?_
    refine XC.seq ?_
    refine XC.region ?_
    refine XO.rd rfl rfl rfl (Reads.move rfl) ?_
    refine XO.callo (vs := [_]) (L1 := (endL ba (busyF ops 0) ha)) rfl rfl rfl en31 ⟨rfl, trivial⟩ (sent_any ba (busyF ops 0) ha _ hEa) (List.Perm.refl _) ?_
    rintro v I' L' _ ⟨rfl, hI', rfl⟩
    replace hI' := hI'.symm
    subst hI'
    refine XO.own_eq (L' := (endL ba (busyF ops 0) ha ++ (endL bb (busyF ops 1) hb ++ Lf))) rfl ?_
    refine XO.rd rfl rfl rfl (Reads.move rfl) ?_
    refine XO.callo (vs := [_]) (L1 := (endL ba (busyF ops 0) ha)) rfl rfl rfl en33 ⟨rfl, trivial⟩ (waiting_any ba (busyF ops 0) ha _ hEa) (List.Perm.refl _) ?_
    rintro v I' L' _ ⟨rfl, hI', rfl⟩
    replace hI' := hI'.symm
    subst hI'
    refine XO.own_eq (L' := (endL ba (busyF ops 0) ha ++ (endL bb (busyF ops 1) hb ++ Lf))) rfl ?_
    refine XO.rd rfl rfl rfl (Reads.sub rfl rfl (by omega)) ?_
    refine XO.rd rfl rfl rfl (Reads.move rfl) ?_
    refine XO.rd rfl rfl rfl (Reads.add rfl rfl (by omega)) ?_
    refine XO.rd rfl rfl rfl (Reads.add rfl rfl (by omega)) ?_
    refine XO.rd rfl rfl rfl (Reads.assign rfl) ?_
    refine XO.nil ?_
    refine XQ.then_normal ?_
    refine XC.seq ?_
    refine XC.seq ?_
    refine XC.weaken (E' := [(3, _), (4, _), (6, _), (7, _), (8, _)]) ⟨rfl, rfl, rfl, rfl, rfl, trivial⟩ ?_
    refine XC.region ?_
    refine XO.rd rfl rfl rfl (Reads.move rfl) ?_
    refine XO.callo (vs := [_]) (L1 := (endL ba (busyF ops 0) ha)) rfl rfl rfl en33 ⟨rfl, trivial⟩ (waiting_any ba (busyF ops 0) ha _ hEa) (List.Perm.refl _) ?_
    rintro v I' L' _ ⟨rfl, hI', rfl⟩
    replace hI' := hI'.symm
    subst hI'
    refine XO.own_eq (L' := (endL ba (busyF ops 0) ha ++ (endL bb (busyF ops 1) hb ++ Lf))) rfl ?_
    refine XO.rd rfl rfl rfl (Reads.cmp rfl rfl rfl) ?_
    refine XO.nil ?_
    refine XQ.then_normal ?_
    refine XC.cond rfl (fun h2 => ?_) (fun h2 => ?_)
    · skip
      simp only [cmpInt, beq_iff_eq] at h2
      rw [if_pos (by omega)] at hser
      refine XC.region ?_
      refine XO.rd rfl rfl rfl (Reads.assign rfl) ?_
      refine XO.nil ?_
      refine XQ.then_normal ?_
      refine XC.seq ?_
      refine XC.draw m_mixed none (.pure 0 (.pure 1 (.pure 2 (.pure 3 (.pure 4 (.pure 5 (.pure 6 (.pure 7 (.pure 8 (.pure 9 (.pure 10 (.pure 11 (.pure 12 (.pure 13 (.eff 14 (.pure 15 (.pure 16 (.pure 17 (.pure 19 (.pure 20 (.pure 21 (.pure 22 (.eff 18 (.eff 23 (.pure 24 (.pure 25 (.done))))))))))))))))))))))))))) [] (by kernel_rfl) (List.nil_sublist _) ?_
      refine XR.rd rfl rfl rfl (Reads.move rfl) ?_
      refine XR.rd rfl rfl rfl (Reads.move rfl) ?_
      refine XR.rd rfl rfl rfl (Reads.index_slot (q := k * 4) Tryd.underlying37 z24 rfl rfl (by omega) (hO1.isSome (by decide) (by omega)) (by omega)) ?_
      refine XR.rd rfl rfl rfl (fs24_0 rfl (Arr.addr hO1 (by decide) (by omega))) ?_
      refine XR.rd rfl rfl rfl (Reads.load_at (v := .int .i64 (outF (busyF ops 0))[k].ser) k3 rfl (Arr.pkt hO1 hk3 0 _ rfl)) ?_
      refine XR.rd rfl rfl rfl (Reads.move rfl) ?_
      refine XR.rd rfl rfl rfl (Reads.cmp_no rfl rfl rfl (by simp only [cmpInt, decide_eq_false_iff_not, beq_eq_false_iff_ne, bne_eq_false_iff_eq] <;> omega)) ?_
      refine XR.rd rfl rfl rfl (Reads.move rfl) ?_
      refine XR.rd rfl (wg rfl rfl rfl) rfl (Reads.move rfl) ?_
      refine XR.rd rfl (wg rfl rfl rfl) rfl (Reads.move rfl) ?_
      refine XR.rd rfl (wg rfl rfl rfl) rfl (Reads.index_slot (q := k * 4) Tryd.underlying37 z24 rfl rfl (by omega) (hO1.isSome (by decide) (by omega)) (by omega)) ?_
      refine XR.rd rfl (wg rfl rfl rfl) rfl (fs24_1 rfl (Arr.addr hO1 (by decide) (by omega))) ?_
      refine XR.rd rfl (wg rfl rfl rfl) rfl (Reads.load_at (v := .int .i64 (outF (busyF ops 0))[k].ack) k3 rfl (Arr.pkt hO1 hk3 1 _ rfl)) ?_
      refine XR.rd rfl (wg rfl rfl rfl) rfl (Reads.move rfl) ?_
      refine XR.callo (vs := [_]) (L1 := (endL ba (busyF ops 0) ha)) rfl (wg rfl rfl rfl) rfl rfl en35 ⟨rfl, trivial⟩ (received_any ba (busyF ops 0) ha _ hEa) (List.Perm.refl _) ?_
      rintro v I' L' _ ⟨rfl, hI', rfl⟩
      replace hI' := hI'.symm
      subst hI'
      refine ⟨.inr (List.nil_sublist _), ?_⟩
      refine XR.own_eq (L' := (endL ba (busyF ops 0) ha ++ (endL bb (busyF ops 1) hb ++ Lf))) rfl ?_
      refine XR.rd rfl (wg rfl rfl rfl) rfl (Reads.cmp_no rfl rfl rfl (by simp only [cmpInt, decide_eq_false_iff_not, beq_eq_false_iff_ne, bne_eq_false_iff_eq] <;> omega)) ?_
      refine XR.rd rfl rfl rfl (Reads.pick_false rfl rfl) ?_
      refine XR.rd rfl rfl rfl (Reads.move rfl) ?_
      refine XR.rd rfl (wg rfl rfl rfl) rfl (Reads.move rfl) ?_
      refine XR.rd rfl (wg rfl rfl rfl) rfl (Reads.move rfl) ?_
      refine XR.rd rfl (wg rfl rfl rfl) rfl (Reads.index_slot (q := k * 4) Tryd.underlying37 z24 rfl rfl (by omega) (hO1.isSome (by decide) (by omega)) (by omega)) ?_
      refine XR.rd rfl (wg rfl rfl rfl) rfl (Reads.load_agg_at (vs := (outF (busyF ops 0))[k].cells) k24 z24 rfl (hO1.addr (by decide) (by omega)) (Arr.pkt hO1 hk3)) ?_
      refine XR.callp rfl (wg rfl rfl rfl) rfl en17 (key_any 0 _ (by decide)) ⟨rfl, trivial⟩ (List.nil_sublist _) ?_
      refine XR.callp rfl (wg rfl rfl rfl) rfl en29 (genuine_is (key := keyB 0) (p := (outF (busyF ops 0))[k]) (c := true) hgen (by rw [keyB_size]; decide) (outF_in oa _ (List.getElem_mem hk3)) hG) ⟨rfl, rfl, trivial⟩ (List.nil_sublist _) ?_
      refine XR.rd rfl (wg rfl rfl rfl) rfl (Reads.not rfl) ?_
      refine XR.rd rfl rfl rfl (Reads.pick_false rfl rfl) ?_
      refine XR.nil ?_
      refine XQ.then_normal ?_
      refine XC.cond rfl (fun hx => by cases hx) (fun _ => ?_)
      refine XC.skip ?_
      refine XQ.block_normal ?_
      refine XQ.then_normal ?_
      refine XC.region ?_
      refine XO.rd rfl rfl rfl (Reads.move rfl) ?_
      refine XO.rd rfl rfl rfl (Reads.add rfl rfl (by omega)) ?_
      refine XO.rd rfl rfl rfl (Reads.assign rfl) ?_
      refine XO.nil ?_
      refine XQ.back (k + 1) (by omega) (by omega) ⟨rfl, rfl, rfl, rfl, trivial⟩ rfl (List.Perm.refl _)
    · skip
      simp only [cmpInt, beq_eq_false_iff_ne] at h2
      rw [if_neg (by omega)] at hser
      refine XC.skip ?_
      refine XQ.then_normal ?_
      refine XC.seq ?_
      refine XC.draw m_mixed none (.pure 0 (.pure 1 (.pure 2 (.pure 3 (.pure 4 (.pure 5 (.pure 6 (.pure 7 (.pure 8 (.pure 9 (.pure 10 (.pure 11 (.pure 12 (.pure 13 (.eff 14 (.pure 15 (.pure 16 (.pure 17 (.pure 19 (.pure 20 (.pure 21 (.pure 22 (.eff 18 (.eff 23 (.pure 24 (.pure 25 (.done))))))))))))))))))))))))))) [] (by kernel_rfl) (List.nil_sublist _) ?_
      refine XR.rd rfl rfl rfl (Reads.move rfl) ?_
      refine XR.rd rfl rfl rfl (Reads.move rfl) ?_
      refine XR.rd rfl rfl rfl (Reads.index_slot (q := k * 4) Tryd.underlying37 z24 rfl rfl (by omega) (hO1.isSome (by decide) (by omega)) (by omega)) ?_
      refine XR.rd rfl rfl rfl (fs24_0 rfl (Arr.addr hO1 (by decide) (by omega))) ?_
      refine XR.rd rfl rfl rfl (Reads.load_at (v := .int .i64 (outF (busyF ops 0))[k].ser) k3 rfl (Arr.pkt hO1 hk3 0 _ rfl)) ?_
      refine XR.rd rfl rfl rfl (Reads.move rfl) ?_
      refine XR.rd rfl rfl rfl (Reads.cmp_no rfl rfl rfl (by simp only [cmpInt, decide_eq_false_iff_not, beq_eq_false_iff_ne, bne_eq_false_iff_eq] <;> omega)) ?_
      refine XR.rd rfl rfl rfl (Reads.move rfl) ?_
      refine XR.rd rfl (wg rfl rfl rfl) rfl (Reads.move rfl) ?_
      refine XR.rd rfl (wg rfl rfl rfl) rfl (Reads.move rfl) ?_
      refine XR.rd rfl (wg rfl rfl rfl) rfl (Reads.index_slot (q := k * 4) Tryd.underlying37 z24 rfl rfl (by omega) (hO1.isSome (by decide) (by omega)) (by omega)) ?_
      refine XR.rd rfl (wg rfl rfl rfl) rfl (fs24_1 rfl (Arr.addr hO1 (by decide) (by omega))) ?_
      refine XR.rd rfl (wg rfl rfl rfl) rfl (Reads.load_at (v := .int .i64 (outF (busyF ops 0))[k].ack) k3 rfl (Arr.pkt hO1 hk3 1 _ rfl)) ?_
      refine XR.rd rfl (wg rfl rfl rfl) rfl (Reads.move rfl) ?_
      refine XR.callo (vs := [_]) (L1 := (endL ba (busyF ops 0) ha)) rfl (wg rfl rfl rfl) rfl rfl en35 ⟨rfl, trivial⟩ (received_any ba (busyF ops 0) ha _ hEa) (List.Perm.refl _) ?_
      rintro v I' L' _ ⟨rfl, hI', rfl⟩
      replace hI' := hI'.symm
      subst hI'
      refine ⟨.inr (List.nil_sublist _), ?_⟩
      refine XR.own_eq (L' := (endL ba (busyF ops 0) ha ++ (endL bb (busyF ops 1) hb ++ Lf))) rfl ?_
      refine XR.rd rfl (wg rfl rfl rfl) rfl (Reads.cmp_no rfl rfl rfl (by simp only [cmpInt, decide_eq_false_iff_not, beq_eq_false_iff_ne, bne_eq_false_iff_eq] <;> omega)) ?_
      refine XR.rd rfl rfl rfl (Reads.pick_false rfl rfl) ?_
      refine XR.rd rfl rfl rfl (Reads.move rfl) ?_
      refine XR.rd rfl (wg rfl rfl rfl) rfl (Reads.move rfl) ?_
      refine XR.rd rfl (wg rfl rfl rfl) rfl (Reads.move rfl) ?_
      refine XR.rd rfl (wg rfl rfl rfl) rfl (Reads.index_slot (q := k * 4) Tryd.underlying37 z24 rfl rfl (by omega) (hO1.isSome (by decide) (by omega)) (by omega)) ?_
      refine XR.rd rfl (wg rfl rfl rfl) rfl (Reads.load_agg_at (vs := (outF (busyF ops 0))[k].cells) k24 z24 rfl (hO1.addr (by decide) (by omega)) (Arr.pkt hO1 hk3)) ?_
      refine XR.callp rfl (wg rfl rfl rfl) rfl en17 (key_any 0 _ (by decide)) ⟨rfl, trivial⟩ (List.nil_sublist _) ?_
      refine XR.callp rfl (wg rfl rfl rfl) rfl en29 (genuine_is (key := keyB 0) (p := (outF (busyF ops 0))[k]) (c := true) hgen (by rw [keyB_size]; decide) (outF_in oa _ (List.getElem_mem hk3)) hG) ⟨rfl, rfl, trivial⟩ (List.nil_sublist _) ?_
      refine XR.rd rfl (wg rfl rfl rfl) rfl (Reads.not rfl) ?_
      refine XR.rd rfl rfl rfl (Reads.pick_false rfl rfl) ?_
      refine XR.nil ?_
      refine XQ.then_normal ?_
      refine XC.cond rfl (fun hx => by cases hx) (fun _ => ?_)
      refine XC.skip ?_
      refine XQ.block_normal ?_
      refine XQ.then_normal ?_
      refine XC.region ?_
      refine XO.rd rfl rfl rfl (Reads.move rfl) ?_
      refine XO.rd rfl rfl rfl (Reads.add rfl rfl (by omega)) ?_
      refine XO.rd rfl rfl rfl (Reads.assign rfl) ?_
      refine XO.nil ?_
      refine XQ.back (k + 1) (by omega) (by omega) ⟨rfl, rfl, rfl, rfl, trivial⟩ rfl (List.Perm.refl _)
  · skip
    simp only [cmpInt, decide_eq_false_iff_not] at h1
    refine XC.exit ?_
    refine XQ.then_exit ?_
    refine XQ.then_exit ?_
    refine XQ.block_exit ?_
    refine XQ.then_normal ?_
    refine XC.seq ?_
    refine XC.region ?_
    refine XO.rd rfl rfl rfl (Reads.move rfl) ?_
    refine XO.rd rfl rfl rfl (Reads.len_slice Tryd.underlying37 rfl) ?_
    refine XO.rd rfl rfl rfl (Reads.move rfl) ?_
    refine XO.callo (vs := [_]) (L1 := (endL ba (busyF ops 0) ha)) rfl rfl rfl en33 ⟨rfl, trivial⟩ (waiting_any ba (busyF ops 0) ha _ hEa) (List.Perm.refl _) ?_
    rintro v I' L' _ ⟨rfl, hI', rfl⟩
    replace hI' := hI'.symm
    subst hI'
    refine XO.own_eq (L' := (endL ba (busyF ops 0) ha ++ (endL bb (busyF ops 1) hb ++ Lf))) rfl ?_
    refine XO.rd rfl rfl rfl (Reads.min rfl rfl) ?_
    refine XO.rd rfl rfl rfl (Reads.max rfl rfl) ?_
    refine XO.rd rfl rfl rfl (Reads.cmp_yes rfl rfl rfl (by simp only [cmpInt, decide_eq_true_eq, beq_iff_eq, bne_iff_ne] <;> omega)) ?_
    refine XO.rd rfl rfl rfl (Reads.move rfl) ?_
    refine XO.rd (wg rfl rfl rfl) rfl rfl (Reads.move rfl) ?_
    refine XO.callo (vs := [_]) (L1 := (endL bb (busyF ops 1) hb)) (wg rfl rfl rfl) rfl rfl en31 ⟨rfl, trivial⟩ (sent_any bb (busyF ops 1) hb _ hEb) (perm_take [3, 3, 3]) ?_
    rintro v I' L' _ ⟨rfl, hI', rfl⟩
    replace hI' := hI'.symm
    subst hI'
    refine XO.own_eq (L' := (endL bb (busyF ops 1) hb ++ (endL ba (busyF ops 0) ha ++ Lf))) rfl ?_
    refine XO.rd (wg rfl rfl rfl) rfl rfl (Reads.cmp_yes rfl rfl rfl (by simp only [cmpInt, decide_eq_true_eq, beq_iff_eq, bne_iff_ne] <;> omega)) ?_
    refine XO.rd rfl rfl rfl (Reads.pick_true rfl rfl) ?_
    refine XO.rd rfl rfl rfl (Reads.assign rfl) ?_
    refine XO.nil ?_
    refine XQ.then_normal ?_
    refine XC.ret ?_
    refine XQ.dropn 6 ?_
    refine XQ.done1 (L := []) rfl rfl hI ?_
    exact ⟨rfl, rfl⟩

end Go.Proofs.YtkjhhifhgcihpaaDoor
