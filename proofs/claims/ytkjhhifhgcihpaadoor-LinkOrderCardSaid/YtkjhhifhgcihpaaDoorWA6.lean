/- Walk: LinkOrder. -/
import Derived.Test.YtkjhhifhgcihpaaDoorD14
namespace Go.Proofs.YtkjhhifhgcihpaaDoor
open Go.Xe Go.Sh Go Go.Lk

set_option maxHeartbeats 4000000 in
theorem linkOrder_any (a : Option Addr) (cap : Nat) (ops : List Q4) (ao : Option Addr) (co : Nat) (os : List Int) (I : Im) (hY : Arr I a ops) (hops : ∀ x ∈ ops, x.In) (hG : Glob I) (hOs : Arr I ao os) (hos : ∀ x ∈ os, -9223372036854775808 ≤ x ∧ x ≤ 9223372036854775807) : FC Tryd.prog 10 [.slice a ops.length cap, .slice ao os.length co] I (fun u I' => u = .bool true) := by
  have hI := Im.le_refl I
  have hs := (busy_sys ops).1
  have hs12 := (busy_sys ops).2
  have n0 := hs12 0 (by decide)
  have n1 := hs12 1 (by decide)
  have oa := hs.ok 0 (by decide)
  have ob := hs.ok 1 (by decide)
  have g0 : (busyF ops 0).got ≤ (busyF ops 1).sent.length := hs.got 0 (by decide)
  have g1 : (busyF ops 1).got ≤ (busyF ops 0).sent.length := hs.got 1 (by decide)
  have k0 : (busyF ops 0).acked ≤ (busyF ops 1).got := hs.acked 0 (by decide)
  have k1 : (busyF ops 1).acked ≤ (busyF ops 0).got := hs.acked 1 (by decide)
  have a0 := oa.acked
  have hcnt := outF_count a0
  have hlen4 := outF_len (busyF ops 0)
  have hR : Rec 0 (busyF ops 0) (busyF ops 1) := Rec.start ops (by decide)
  refine FSo.intro (n := 135) Tryd.func10 rfl rfl rfl (fun K Lf => ?_)
  refine XC.seq ?_
  refine XC.region ?_
  refine XO.rd rfl rfl rfl (Reads.assign rfl) ?_
  refine XO.nil ?_
  refine XQ.then_normal ?_
  refine XC.seq ?_
  refine XC.region ?_
  refine XO.rd rfl rfl rfl (Reads.move rfl) ?_
  refine XO.callo (vs := [_]) (L1 := []) rfl rfl rfl en39 ⟨rfl, trivial⟩ (busy_is a cap ops _ hY hops hG) (List.Perm.refl _) ?_
  rintro v I' L' _ ⟨hI', ba, bb, ha, hb, rfl, rfl, hEa, hEb⟩
  replace hI' := hI'.symm
  subst hI'
  refine XO.own_eq (L' := (endL ba (busyF ops 0) ha ++ (endL bb (busyF ops 1) hb ++ Lf))) rfl ?_
  refine XO.rd rfl rfl rfl (Reads.move rfl) ?_
  refine XO.rd rfl rfl rfl (Reads.extract rfl rfl) ?_
  refine XO.rd rfl rfl rfl (Reads.extract rfl rfl) ?_
  refine XO.rd rfl rfl rfl (Reads.extract rfl rfl) ?_
  refine XO.rd rfl rfl rfl (Reads.assign rfl) ?_
  refine XO.rd rfl rfl rfl (Reads.assign rfl) ?_
  refine XO.rd rfl rfl rfl (Reads.assign rfl) ?_
  refine XO.nil ?_
  refine XQ.then_normal ?_
  refine XC.seq ?_
  refine XC.region ?_
  refine XO.rd rfl rfl rfl (Reads.move rfl) ?_
  refine XO.callo (vs := [_]) (L1 := []) rfl rfl rfl en39 ⟨rfl, trivial⟩ (busy_is a cap ops _ hY hops hG) (List.Perm.refl _) ?_
  rintro v I' L' _ ⟨hI', bc, bd, hc, hd, rfl, rfl, hEc, hEd⟩
  replace hI' := hI'.symm
  subst hI'
  refine XO.own_eq (L' := (endL bc (busyF ops 0) hc ++ (endL bd (busyF ops 1) hd ++ (endL ba (busyF ops 0) ha ++ (endL bb (busyF ops 1) hb ++ Lf))))) rfl ?_
  refine XO.rd rfl rfl rfl (Reads.move rfl) ?_
  refine XO.rd rfl rfl rfl (Reads.extract rfl rfl) ?_
  refine XO.rd rfl rfl rfl (Reads.extract rfl rfl) ?_
  refine XO.rd rfl rfl rfl (Reads.extract rfl rfl) ?_
  refine XO.rd rfl rfl rfl (Reads.assign rfl) ?_
  refine XO.rd rfl rfl rfl (Reads.assign rfl) ?_
  refine XO.rd rfl rfl rfl (Reads.assign rfl) ?_
  refine XO.nil ?_
  refine XQ.then_normal ?_
  refine XC.seq ?_
  refine XC.seq ?_
  refine XC.region ?_
  refine XO.callp rfl rfl en14 (FC.pure (sane_any _ hG)) trivial ?_
  refine XO.rd rfl rfl rfl (Reads.not rfl) ?_
  refine XO.rd rfl rfl rfl (Reads.move rfl) ?_
  refine XO.rd (wg rfl rfl rfl) rfl rfl (Reads.move rfl) ?_
  refine XO.rd (wg rfl rfl rfl) rfl rfl (Reads.not rfl) ?_
  refine XO.rd rfl rfl rfl (Reads.pick_false rfl rfl) ?_
  refine XO.rd rfl rfl rfl (Reads.move rfl) ?_
  refine XO.rd (wg rfl rfl rfl) rfl rfl (Reads.move rfl) ?_
  refine XO.rd (wg rfl rfl rfl) rfl rfl (Reads.not rfl) ?_
  refine XO.rd rfl rfl rfl (Reads.pick_false rfl rfl) ?_
  refine XO.nil ?_
  refine XQ.then_normal ?_
  refine XC.cond rfl (fun hx => by cases hx) (fun _ => ?_)
  refine XC.skip ?_
  refine XQ.then_normal ?_
  refine XC.seq ?_
  refine XC.region ?_
  refine XO.rd rfl rfl rfl (Reads.move rfl) ?_
  refine XO.callo (vs := [_]) (L1 := (endL ba (busyF ops 0) ha)) rfl rfl rfl en22 ⟨rfl, trivial⟩ (out_is (ps := outF (busyF ops 0)) rfl hEa hG) (perm_take [6, 6, 6]) ?_
  rintro v I' L' _ ⟨V1, rfl, hI', rfl, hV1, hV1l⟩
  replace hI' := hI'.symm
  subst hI'
  refine XO.vec_done (α := Pkt) (by decide) hV1 (flat_pkt _ _) (fun J1 hle1 hs1 => ?_)
  replace hI := Im.le_trans hI hle1
  replace hG := hG.mono hle1
  replace hY := hY.mono hle1
  replace hOs := hOs.mono hle1
  obtain ⟨blk1, len1, cap1⟩ := V1
  simp only at hV1l hs1 ⊢
  subst hV1l
  have hO1 := hs1.arr.1
  refine XO.own_eq (L' := (endL ba (busyF ops 0) ha ++ (endL bc (busyF ops 0) hc ++ (endL bd (busyF ops 1) hd ++ (endL bb (busyF ops 1) hb ++ Lf))))) rfl ?_
  refine XO.rd rfl rfl rfl (Reads.assign rfl) ?_
  refine XO.nil ?_
  refine XQ.then_normal ?_
  refine XC.seq ?_
  refine XC.region ?_
  refine XO.rd rfl rfl rfl (Reads.move rfl) ?_
  refine XO.callo (vs := [_]) (L1 := (endL bc (busyF ops 0) hc)) rfl rfl rfl en22 ⟨rfl, trivial⟩ (out_is (ps := outF (busyF ops 0)) rfl hEc hG) (perm_take [3, 3, 3]) ?_
  rintro v I' L' _ ⟨V2, rfl, hI', rfl, hV2, hV2l⟩
  replace hI' := hI'.symm
  subst hI'
  refine XO.vec_done (α := Pkt) (by decide) hV2 (flat_pkt _ _) (fun J2 hle2 hs2 => ?_)
  replace hI := Im.le_trans hI hle2
  replace hG := hG.mono hle2
  replace hY := hY.mono hle2
  replace hOs := hOs.mono hle2
  replace hO1 := hO1.mono hle2
  have hc2 := hV2.le
  obtain ⟨blk2, len2, cap2⟩ := V2
  simp only at hV2l hs2 ⊢
  subst hV2l
  have hO2 := hs2.arr.1
  refine XO.own_eq (L' := (endL bc (busyF ops 0) hc ++ (endL ba (busyF ops 0) ha ++ (endL bd (busyF ops 1) hd ++ (endL bb (busyF ops 1) hb ++ Lf))))) rfl ?_
  simp only at hc2
  refine XO.rd rfl rfl rfl (Reads.assign rfl) ?_
  refine XO.nil ?_
  refine XQ.then_normal ?_
  refine XC.seq ?_
  refine XC.seq ?_
  refine XC.region ?_
  refine XO.rd rfl rfl rfl (Reads.move rfl) ?_
  refine XO.rd rfl rfl rfl (Reads.move rfl) ?_
  refine XO.callp rfl rfl en23 (same_is (c := true) (decide_eq_true rfl) (by have := outF_len (busyF ops 0); omega) hO1 hO2) ⟨rfl, rfl, trivial⟩ ?_
  refine XO.rd rfl rfl rfl (Reads.not rfl) ?_
  refine XO.nil ?_
  refine XQ.then_normal ?_
  refine XC.cond rfl (fun hx => by cases hx) (fun _ => ?_)
  refine XC.skip ?_
  refine XQ.then_normal ?_
  refine XC.seq ?_
  refine XC.region ?_
  refine XO.rd rfl rfl rfl (Reads.assign rfl) ?_
  refine XO.nil ?_
  refine XQ.then_normal ?_
  refine XC.seq ?_
  refine XC.seq ?_
  refine XC.region ?_
  refine XO.rd rfl rfl rfl (Reads.assign rfl) ?_
  refine XO.nil ?_
  refine XQ.then_normal ?_
  refine XC.block ?_
  refine XC.vec0 9 ?_
  refine XC.loop (ι := Nat × Vec × EH) (fun q => [(1, .slice ao os.length co), (6, .pointer (some ⟨bb, 0, none⟩)), (9, .pointer (some ⟨bd, 0, none⟩)), (11, .slice (Vec.addr ⟨blk1, (outF (busyF ops 0)).length, cap1⟩) (outF (busyF ops 0)).length cap1), (12, .slice (Vec.addr ⟨blk2, (outF (busyF ops 0)).length, cap2⟩) (outF (busyF ops 0)).length cap2), (13, q.2.1.val), (14, .int .i64 q.1)]) (fun q => J2) (fun q => (q.2.1.ent 9 :: (endL bc (busyF ops 0) hc ++ (endL ba (busyF ops 0) ha ++ (endL bd (busyF ops 1) hd ++ (endL bb (arrF (busyF ops 1) ((outF (busyF ops 0)).take q.1)).1 q.2.2 ++ Lf)))))) (fun q => q.1 ≤ (outF (busyF ops 0)).length ∧ q.2.1.Is 1 (strC (arrF (busyF ops 1) ((outF (busyF ops 0)).take q.1)).2) ∧ EndIs (arrF (busyF ops 1) ((outF (busyF ops 0)).take q.1)).1 q.2.2) (fun q => (outF (busyF ops 0)).length - q.1) (0, Vec.nil, hb) ⟨Nat.zero_le _, Vec.nil_is 1, hEb⟩ ⟨rfl, rfl, rfl, rfl, rfl, rfl, rfl, trivial⟩ rfl (List.Perm.refl _) (fun q hq => ?_)
  obtain ⟨k, G, hb⟩ := q
  obtain ⟨hk1, hGv, hEb⟩ := hq
  simp only at hk1 hGv hEb ⊢
  refine XC.seq ?_
  refine XC.seq ?_
  refine XC.region ?_
  refine XO.rd rfl rfl rfl (Reads.move rfl) ?_
  refine XO.rd rfl rfl rfl (Reads.move rfl) ?_
  refine XO.rd rfl rfl rfl (Reads.len_slice Tryd.underlying37 rfl) ?_
  refine XO.rd rfl rfl rfl (Reads.cmp rfl rfl rfl) ?_
  refine XO.nil ?_
  refine XQ.then_normal ?_
  refine XC.cond rfl (fun h1 => ?_) (fun h1 => ?_)
  · skip
    simp only [cmpInt, decide_eq_true_eq] at h1
    have hk3 : k < (outF (busyF ops 0)).length := by omega
    refine XC.skip ?_
    refine XQ.then_normal ?_
    refine XC.seq ?_
    refine XC.block ?_
    refine XC.seq ?_
    refine XC.region ?_
    refine XO.rd rfl rfl rfl (Reads.move rfl) ?_
    refine XO.rd rfl rfl rfl (Reads.move rfl) ?_
    refine XO.rd rfl rfl rfl (Reads.move rfl) ?_
    refine XO.rd rfl rfl rfl (Reads.index_slot (q := k * 4) Tryd.underlying37 z24 rfl rfl (by omega) (hO1.isSome (by decide) (by omega)) (by omega)) ?_
    refine XO.rd rfl rfl rfl (Reads.load_agg_at (vs := (outF (busyF ops 0))[k].cells) k24 z24 rfl (hO1.addr (by decide) (by omega)) (Arr.pkt hO1 hk3)) ?_
    have hpm : (outF (busyF ops 0))[k] ∈ (outF (busyF ops 0)) := List.getElem_mem hk3
    have hpin := outF_in oa _ hpm
    obtain ⟨y1, ms1, hin1, har1, hle1'⟩ := arr_step (by decide) hR (ps := (outF (busyF ops 0)).take k) (fun q hq => List.mem_of_mem_take hq) hpm
    rw [← snoc_take hk3] at har1
    refine XO.callo (vs := [_, _]) (L1 := (endL bb (arrF (busyF ops 1) ((outF (busyF ops 0)).take k)).1 hb)) rfl rfl rfl en26 ⟨rfl, rfl, trivial⟩ (in_is hin1 hEb hpin hG) (perm_take [10, 10, 10]) ?_
    rintro v I' L' _ ⟨V3, hb', rfl, hI', rfl, hV3, hV3l, hEb'⟩
    replace hI' := hI'.symm
    subst hI'
    refine XO.own_eq (L' := (V3.ent 9 :: (endL bb y1 hb' ++ (G.ent 9 :: (endL bc (busyF ops 0) hc ++ (endL ba (busyF ops 0) ha ++ (endL bd (busyF ops 1) hd ++ Lf))))))) rfl ?_
    refine XO.rd rfl rfl rfl (Reads.move rfl) ?_
    refine XO.rd rfl rfl rfl (Reads.extract rfl rfl) ?_
    refine XO.rd rfl rfl rfl (Reads.extract rfl rfl) ?_
    refine XO.rd rfl rfl rfl (Reads.assign rfl) ?_
    refine XO.rd rfl rfl rfl (Reads.assign rfl) ?_
    refine XO.nil ?_
    refine XQ.then_normal ?_
    refine XC.seq ?_
    refine XC.seq ?_
    refine XC.weaken (E' := [(1, _), (6, _), (9, _), (11, _), (12, _), (13, _), (14, _), (15, _), (16, _)]) ⟨rfl, rfl, rfl, rfl, rfl, rfl, rfl, rfl, rfl, trivial⟩ ?_
    refine XC.region ?_
    refine XO.rd rfl rfl rfl (Reads.move rfl) ?_
    refine XO.rd rfl rfl rfl (Reads.cmp_no rfl rfl rfl (by simp only [cmpInt, decide_eq_false_iff_not, beq_eq_false_iff_ne, bne_eq_false_iff_eq] <;> omega)) ?_
    refine XO.nil ?_
    refine XQ.then_normal ?_
    refine XC.cond rfl (fun hx => by cases hx) (fun _ => ?_)
    refine XC.skip ?_
    refine XQ.then_normal ?_
    refine XC.region ?_
    refine XO.rd rfl rfl rfl (Reads.move rfl) ?_
    refine XO.rd rfl rfl rfl (Reads.move rfl) ?_
    have hgl' := hGv.len
    rw [strC_len, Nat.mul_one] at hgl'
    refine XO.append (V := G) (news := strC ms1) 4 rfl rfl Tryd.underlying44 el9 rfl rfl hGv rfl (.slice Tryd.underlying44 (hV3.readable (e := 9) (List.Mem.head _)) (by rw [strC_len, hV3l, Nat.mul_one]) (strC_one _)) (by omega) (by omega) ?_
    intro G' hG' hG'l
    refine XO.dropn 1 ?_
    refine XO.own_eq (L' := (endL bb y1 hb' ++ (G'.ent 9 :: (endL bc (busyF ops 0) hc ++ (endL ba (busyF ops 0) ha ++ (endL bd (busyF ops 1) hd ++ Lf)))))) rfl ?_
    refine XO.rd rfl rfl rfl (Reads.assign rfl) ?_
    refine XO.nil ?_
    refine XQ.block_normal ?_
    refine XQ.then_normal ?_
    refine XC.region ?_
    refine XO.rd rfl rfl rfl (Reads.move rfl) ?_
    refine XO.rd rfl rfl rfl (Reads.add rfl rfl (by omega)) ?_
    refine XO.rd rfl rfl rfl (Reads.assign rfl) ?_
    refine XO.nil ?_
    refine XQ.back (k + 1, G', hb') ⟨by simp only; omega, by simp only; rw [har1]; show G'.Is 1 (strC (_ ++ _)); rw [strC_append]; exact hG', by simp only; rw [har1]; exact hEb'⟩ (by simp only; omega) ⟨rfl, rfl, rfl, rfl, rfl, rfl, rfl, trivial⟩ rfl (by simp only; rw [har1]; exact (perm_take [3, 3, 3, 3, 3, 3, 3, 3, 3, 3, 0, 0, 0]))
  · skip
    simp only [cmpInt, decide_eq_false_iff_not] at h1
    have hfull : (outF (busyF ops 0)).take k = (outF (busyF ops 0)) := List.take_of_length_le (by omega)
    obtain ⟨G1, hG1e⟩ : ∃ G1, G1 = G := ⟨_, rfl⟩
    subst hG1e
    have hG1v := hGv
    refine XC.exit ?_
    refine XQ.then_exit ?_
    refine XQ.then_exit ?_
    refine XQ.block_exit ?_
    refine XQ.then_normal ?_
    refine XC.seq ?_
    refine XC.region ?_
    refine XO.rd rfl rfl rfl (Reads.assign rfl) ?_
    refine XO.nil ?_
    refine XQ.then_normal ?_
    refine XC.seq ?_
    refine XC.seq ?_
    refine XC.weaken (E' := [(1, _), (6, _), (9, _), (12, _), (13, _), (17, _)]) ⟨rfl, rfl, rfl, rfl, rfl, rfl, trivial⟩ ?_
    refine XC.region ?_
    refine XO.rd rfl rfl rfl (Reads.assign rfl) ?_
    refine XO.nil ?_
    refine XQ.then_normal ?_
    refine XC.block ?_
    refine XC.vec0 9 ?_
    refine XC.loop (ι := OrdSt) (fun q => [(1, .slice ao os.length co), (6, .pointer (some ⟨bb, 0, none⟩)), (9, .pointer (some ⟨bd, 0, none⟩)), (12, .slice q.a q.rest.length q.c), (13, G1.val), (17, q.G.val), (18, .int .i64 (q.done.length : Int))]) (fun q => q.J) (fun q => (q.G.ent 9 :: (G1.ent 9 :: (endL bc (busyF ops 0) hc ++ (endL ba (busyF ops 0) ha ++ (endL bd (arrF (busyF ops 1) q.done).1 q.h ++ (endL bb (arrF (busyF ops 1) ((outF (busyF ops 0)).take k)).1 hb ++ Lf))))))) (fun q => J2.le q.J ∧ (outF (busyF ops 0)).Perm (q.done ++ q.rest) ∧ Arr q.J q.a q.rest ∧ q.rest.length ≤ q.c ∧ q.G.Is 1 (strC (arrF (busyF ops 1) q.done).2) ∧ EndIs (arrF (busyF ops 1) q.done).1 q.h) (fun q => q.rest.length) ⟨Vec.nil, hd, (outF (busyF ops 0)), [], Vec.addr ⟨blk2, (outF (busyF ops 0)).length, cap2⟩, cap2, J2⟩ ⟨Im.le_refl _, List.Perm.refl _, hO2, hc2, Vec.nil_is 1, hEd⟩ ⟨rfl, rfl, rfl, rfl, rfl, rfl, rfl, trivial⟩ rfl (List.Perm.refl _) (fun q hq => ?_)
    obtain ⟨G, hd, rest, done, ar, cc, J9'⟩ := q
    obtain ⟨hJle, hperm, hOt, hrc, hGv, hEd⟩ := hq
    simp only at hJle hperm hOt hrc hGv hEd ⊢
    replace hI := Im.le_trans hI hJle
    replace hG := hG.mono hJle
    replace hOs := hOs.mono hJle
    replace hY := hY.mono hJle
    replace hO1 := hO1.mono hJle
    replace hO2 := hO2.mono hJle
    have hpl := hperm.length_eq
    rw [List.length_append] at hpl
    refine XC.seq ?_
    refine XC.seq ?_
    refine XC.region ?_
    refine XO.rd rfl rfl rfl (Reads.move rfl) ?_
    refine XO.rd rfl rfl rfl (Reads.len_slice Tryd.underlying37 rfl) ?_
    refine XO.rd rfl rfl rfl (Reads.cmp rfl rfl rfl) ?_
    refine XO.nil ?_
    refine XQ.then_normal ?_
    refine XC.cond rfl (fun h2 => ?_) (fun h2 => ?_)
    · skip
      simp only [cmpInt, decide_eq_true_eq] at h2
      refine XC.skip ?_
      refine XQ.then_normal ?_
      refine XC.seq ?_
      refine XC.block ?_
      refine XC.seq ?_
      refine XC.region ?_
      refine XO.rd rfl rfl rfl (Reads.assign rfl) ?_
      refine XO.nil ?_
      refine XQ.then_normal ?_
      refine XC.seq ?_
      refine XC.seq ?_
      refine XC.region ?_
      refine XO.rd rfl rfl rfl (Reads.move rfl) ?_
      refine XO.rd rfl rfl rfl (Reads.move rfl) ?_
      refine XO.rd rfl rfl rfl (Reads.len_slice Tryd.underlying52 rfl) ?_
      refine XO.rd rfl rfl rfl (Reads.cmp rfl rfl rfl) ?_
      refine XO.nil ?_
      refine XQ.then_normal ?_
      refine XC.cond rfl (fun h3 => ?_) (fun h3 => ?_)
      · skip
        simp only [cmpInt, decide_eq_true_eq] at h3
        have hdl : done.length < os.length := by omega
        refine XC.region ?_
        refine XO.rd rfl rfl rfl (Reads.move rfl) ?_
        refine XO.rd rfl rfl rfl (Reads.move rfl) ?_
        refine XO.rd rfl rfl rfl (Reads.index_slot (q := done.length) Tryd.underlying52 z3 rfl rfl (by omega) (hOs.isSome (by decide) (by omega)) (by omega)) ?_
        refine XO.rd rfl rfl rfl (Reads.load_at k3 rfl (by simpa using hOs.int (j := done.length) hdl)) ?_
        refine XO.rd rfl rfl rfl (Reads.move rfl) ?_
        refine XO.rd rfl rfl rfl (Reads.len_slice Tryd.underlying37 rfl) ?_
        refine XO.callp rfl rfl en18 (pickL_any os[done.length] ((rest.length : Nat) : Int) _ (hos _ (List.getElem_mem hdl)) (by omega)) ⟨rfl, rfl, trivial⟩ ?_
        have hpr := pickI_range (c := os[done.length]) (n := ((rest.length : Nat) : Int)) (by omega)
        obtain ⟨kk, hjj⟩ : ∃ kk : Nat, pickI os[done.length] ((rest.length : Nat) : Int) = kk := ⟨(pickI os[done.length] ((rest.length : Nat) : Int)).toNat, by omega⟩
        have hkr : kk < rest.length := by omega
        rw [hjj]
        refine XO.rd rfl rfl rfl (Reads.assign rfl) ?_
        refine XO.nil ?_
        refine XQ.then_normal ?_
        refine XC.seq ?_
        refine XC.region ?_
        refine XO.rd rfl rfl rfl (Reads.move rfl) ?_
        refine XO.rd rfl rfl rfl (Reads.move rfl) ?_
        refine XO.rd rfl rfl rfl (Reads.move (v := .int .i64 ((kk : Nat) : Int)) (by first | rfl | exact congrArg (fun z => some (Value.int .i64 z)) hkk)) ?_
        refine XO.rd rfl rfl rfl (Reads.index_slot (q := kk * 4) Tryd.underlying37 z24 rfl rfl (by omega) (hOt.isSome (by decide) (by omega)) (by omega)) ?_
        refine XO.rd rfl rfl rfl (Reads.load_agg_at (vs := rest[kk].cells) k24 z24 rfl (hOt.addr (by decide) (by omega)) (Arr.pkt hOt hkr)) ?_
        have hpm : rest[kk] ∈ (outF (busyF ops 0)) := hperm.mem_iff.2 (List.mem_append.2 (.inr (List.getElem_mem hkr)))
        have hpin := outF_in oa _ hpm
        obtain ⟨y1, ms1, hin1, har1, hle1'⟩ := arr_step (by decide) hR (ps := done) (fun q hq => hperm.mem_iff.2 (List.mem_append.2 (.inl hq))) hpm
        have hperm2 := perm_round hperm hkr
        refine XO.callo (vs := [_, _]) (L1 := (endL bd (arrF (busyF ops 1) done).1 hd)) rfl rfl rfl en26 ⟨rfl, rfl, trivial⟩ (in_is hin1 hEd hpin hG) (perm_take [8, 8, 8]) ?_
        rintro v I' L' _ ⟨V3, hd', rfl, hI', rfl, hV3, hV3l, hEd'⟩
        replace hI' := hI'.symm
        subst hI'
        refine XO.own_eq (L' := (V3.ent 9 :: (endL bd y1 hd' ++ (G.ent 9 :: (G1.ent 9 :: (endL bc (busyF ops 0) hc ++ (endL ba (busyF ops 0) ha ++ (endL bb (arrF (busyF ops 1) ((outF (busyF ops 0)).take k)).1 hb ++ Lf)))))))) rfl ?_
        refine XO.rd rfl rfl rfl (Reads.move rfl) ?_
        refine XO.rd rfl rfl rfl (Reads.extract rfl rfl) ?_
        refine XO.rd rfl rfl rfl (Reads.extract rfl rfl) ?_
        refine XO.rd rfl rfl rfl (Reads.assign rfl) ?_
        refine XO.rd rfl rfl rfl (Reads.assign rfl) ?_
        refine XO.nil ?_
        refine XQ.then_normal ?_
        refine XC.seq ?_
        refine XC.seq ?_
        refine XC.region ?_
        refine XO.rd rfl rfl rfl (Reads.move rfl) ?_
        refine XO.rd rfl rfl rfl (Reads.cmp_no rfl rfl rfl (by simp only [cmpInt, decide_eq_false_iff_not, beq_eq_false_iff_ne, bne_eq_false_iff_eq] <;> omega)) ?_
        refine XO.nil ?_
        refine XQ.then_normal ?_
        refine XC.cond rfl (fun hx => by cases hx) (fun _ => ?_)
        refine XC.skip ?_
        refine XQ.then_normal ?_
        refine XC.seq ?_
        refine XC.region ?_
        refine XO.rd rfl rfl rfl (Reads.move rfl) ?_
        refine XO.rd rfl rfl rfl (Reads.move rfl) ?_
        have hgl' := hGv.len
        rw [strC_len, Nat.mul_one] at hgl'
        refine XO.append (V := G) (news := strC ms1) 4 rfl rfl Tryd.underlying44 el9 rfl rfl hGv rfl (.slice Tryd.underlying44 (hV3.readable (e := 9) (List.Mem.head _)) (by rw [strC_len, hV3l, Nat.mul_one]) (strC_one _)) (by omega) (by omega) ?_
        intro G' hG' hG'l
        refine XO.dropn 1 ?_
        refine XO.own_eq (L' := (endL bd y1 hd' ++ (G'.ent 9 :: (G1.ent 9 :: (endL bc (busyF ops 0) hc ++ (endL ba (busyF ops 0) ha ++ (endL bb (arrF (busyF ops 1) ((outF (busyF ops 0)).take k)).1 hb ++ Lf))))))) rfl ?_
        refine XO.rd rfl rfl rfl (Reads.assign rfl) ?_
        refine XO.nil ?_
        refine XQ.then_normal ?_
        refine XC.draw m_mixed none (.pure 0 (.pure 1 (.pure 2 (.pure 3 (.pure 4 (.pure 5 (.pure 6 (.pure 7 (.eff 8 (.pure 9 (.done))))))))))) [] (by kernel_rfl) (List.nil_sublist _) ?_
        refine XR.rd rfl rfl rfl (Reads.move rfl) ?_
        refine XR.rd rfl rfl rfl (Reads.move (v := .int .i64 ((kk : Nat) : Int)) (by first | rfl | exact congrArg (fun z => some (Value.int .i64 z)) hkk)) ?_
        refine XR.rd rfl rfl rfl (Reads.move (v := .int .i64 ((kk : Nat) : Int)) (by first | rfl | exact congrArg (fun z => some (Value.int .i64 z)) hkk)) ?_
        refine XR.rd rfl rfl rfl (Reads.slice_gen 0 kk kk Tryd.underlying37 z24 rfl rfl ⟨_, rfl⟩ ⟨_, rfl⟩ (fun h => by cases h) (by omega) (by omega) (by omega)) ?_
        rw [cutA_zero (hOt.addr (by decide) (by omega)), show kk - 0 = (rest.take kk).length by rw [List.length_take]; omega]
        refine XR.rd rfl rfl rfl (Reads.move rfl) ?_
        refine XR.rd rfl rfl rfl (Reads.move (v := .int .i64 ((kk : Nat) : Int)) (by first | rfl | exact congrArg (fun z => some (Value.int .i64 z)) hkk)) ?_
        refine XR.rd rfl rfl rfl (Reads.add rfl rfl (by omega)) ?_
        rw [show (kk : Int) + 1 = ((kk + 1 : Nat) : Int) by omega]
        refine XR.rd rfl rfl rfl (Reads.slice_gen (kk + 1) rest.length cc Tryd.underlying37 z24 rfl ⟨_, rfl⟩ rfl rfl (fun _ => rfl) (by omega) (by omega) (by omega)) ?_
        rw [← List.length_drop]
        refine XR.append_done (rest.take kk) (rest.drop (kk + 1)) rfl rfl rfl Tryd.underlying37 Tryd.underlying37 el24 (by decide) (hOt.addr (by decide) (by omega)) rfl rfl (hOt.take kk) (hOt.cut (by omega)) (by rw [List.length_take, List.length_drop]; omega) (by rw [List.length_take, List.length_drop]; omega) (List.nil_sublist _) (fun J9 at9 ct9 hle9 hct9 hOt9 => ?_)
        replace hI := Im.le_trans hI hle9
        replace hG := hG.mono hle9
        replace hY := hY.mono hle9
        replace hOs := hOs.mono hle9
        replace hO1 := hO1.mono hle9
        replace hO2 := hO2.mono hle9
        refine XR.rd rfl rfl rfl (Reads.assign rfl) ?_
        refine XR.nil ?_
        refine XQ.block_normal ?_
        refine XQ.then_normal ?_
        refine XC.weaken (E' := [(1, _), (6, _), (9, _), (12, _), (13, _), (17, _), (18, _)]) ⟨rfl, rfl, rfl, rfl, rfl, rfl, rfl, trivial⟩ ?_
        refine XC.region ?_
        refine XO.rd rfl rfl rfl (Reads.move rfl) ?_
        refine XO.rd rfl rfl rfl (Reads.add rfl rfl (by omega)) ?_
        rw [show (done.length : Int) + 1 = (((done ++ [rest[kk]]).length : Nat) : Int) by rw [List.length_append, List.length_singleton]; omega]
        refine XO.rd rfl rfl rfl (Reads.assign rfl) ?_
        refine XO.nil ?_
        have hlen9 : (rest.take kk ++ rest.drop (kk + 1)).length + 1 = rest.length := by rw [List.length_append, List.length_take, List.length_drop]; omega
        refine XQ.back ⟨G', hd', rest.take kk ++ rest.drop (kk + 1), done ++ [rest[kk]], at9, ct9, J9⟩ ⟨Im.le_trans hJle hle9, hperm2, hOt9, hct9, by simp only; rw [har1]; show G'.Is 1 (strC (_ ++ _)); rw [strC_append]; exact hG', by simp only; rw [har1]; exact hEd'⟩ (by simp only; omega) ⟨rfl, rfl, rfl, rfl, rfl, rfl, rfl, trivial⟩ rfl (by simp only; rw [har1]; exact (perm_take [3, 3, 3, 3, 3, 3, 3, 3, 0, 0, 0, 0, 0, 0]))
      · skip
        simp only [cmpInt, decide_eq_false_iff_not] at h3
        obtain ⟨kk, hkk, hkr⟩ : ∃ kk : Nat, (0 : Int) = ((kk : Nat) : Int) ∧ kk < rest.length := ⟨0, rfl, by omega⟩
        refine XC.skip ?_
        refine XQ.then_normal ?_
        refine XC.seq ?_
        refine XC.region ?_
        refine XO.rd rfl rfl rfl (Reads.move rfl) ?_
        refine XO.rd rfl rfl rfl (Reads.move rfl) ?_
        refine XO.rd rfl rfl rfl (Reads.move (v := .int .i64 ((kk : Nat) : Int)) (by first | rfl | exact congrArg (fun z => some (Value.int .i64 z)) hkk)) ?_
        refine XO.rd rfl rfl rfl (Reads.index_slot (q := kk * 4) Tryd.underlying37 z24 rfl rfl (by omega) (hOt.isSome (by decide) (by omega)) (by omega)) ?_
        refine XO.rd rfl rfl rfl (Reads.load_agg_at (vs := rest[kk].cells) k24 z24 rfl (hOt.addr (by decide) (by omega)) (Arr.pkt hOt hkr)) ?_
        have hpm : rest[kk] ∈ (outF (busyF ops 0)) := hperm.mem_iff.2 (List.mem_append.2 (.inr (List.getElem_mem hkr)))
        have hpin := outF_in oa _ hpm
        obtain ⟨y1, ms1, hin1, har1, hle1'⟩ := arr_step (by decide) hR (ps := done) (fun q hq => hperm.mem_iff.2 (List.mem_append.2 (.inl hq))) hpm
        have hperm2 := perm_round hperm hkr
        refine XO.callo (vs := [_, _]) (L1 := (endL bd (arrF (busyF ops 1) done).1 hd)) rfl rfl rfl en26 ⟨rfl, rfl, trivial⟩ (in_is hin1 hEd hpin hG) (perm_take [8, 8, 8]) ?_
        rintro v I' L' _ ⟨V3, hd', rfl, hI', rfl, hV3, hV3l, hEd'⟩
        replace hI' := hI'.symm
        subst hI'
        refine XO.own_eq (L' := (V3.ent 9 :: (endL bd y1 hd' ++ (G.ent 9 :: (G1.ent 9 :: (endL bc (busyF ops 0) hc ++ (endL ba (busyF ops 0) ha ++ (endL bb (arrF (busyF ops 1) ((outF (busyF ops 0)).take k)).1 hb ++ Lf)))))))) rfl ?_
        refine XO.rd rfl rfl rfl (Reads.move rfl) ?_
        refine XO.rd rfl rfl rfl (Reads.extract rfl rfl) ?_
        refine XO.rd rfl rfl rfl (Reads.extract rfl rfl) ?_
        refine XO.rd rfl rfl rfl (Reads.assign rfl) ?_
        refine XO.rd rfl rfl rfl (Reads.assign rfl) ?_
        refine XO.nil ?_
        refine XQ.then_normal ?_
        refine XC.seq ?_
        refine XC.seq ?_
        refine XC.region ?_
        refine XO.rd rfl rfl rfl (Reads.move rfl) ?_
        refine XO.rd rfl rfl rfl (Reads.cmp_no rfl rfl rfl (by simp only [cmpInt, decide_eq_false_iff_not, beq_eq_false_iff_ne, bne_eq_false_iff_eq] <;> omega)) ?_
        refine XO.nil ?_
        refine XQ.then_normal ?_
        refine XC.cond rfl (fun hx => by cases hx) (fun _ => ?_)
        refine XC.skip ?_
        refine XQ.then_normal ?_
        refine XC.seq ?_
        refine XC.region ?_
        refine XO.rd rfl rfl rfl (Reads.move rfl) ?_
        refine XO.rd rfl rfl rfl (Reads.move rfl) ?_
        have hgl' := hGv.len
        rw [strC_len, Nat.mul_one] at hgl'
        refine XO.append (V := G) (news := strC ms1) 4 rfl rfl Tryd.underlying44 el9 rfl rfl hGv rfl (.slice Tryd.underlying44 (hV3.readable (e := 9) (List.Mem.head _)) (by rw [strC_len, hV3l, Nat.mul_one]) (strC_one _)) (by omega) (by omega) ?_
        intro G' hG' hG'l
        refine XO.dropn 1 ?_
        refine XO.own_eq (L' := (endL bd y1 hd' ++ (G'.ent 9 :: (G1.ent 9 :: (endL bc (busyF ops 0) hc ++ (endL ba (busyF ops 0) ha ++ (endL bb (arrF (busyF ops 1) ((outF (busyF ops 0)).take k)).1 hb ++ Lf))))))) rfl ?_
        refine XO.rd rfl rfl rfl (Reads.assign rfl) ?_
        refine XO.nil ?_
        refine XQ.then_normal ?_
        refine XC.draw m_mixed none (.pure 0 (.pure 1 (.pure 2 (.pure 3 (.pure 4 (.pure 5 (.pure 6 (.pure 7 (.eff 8 (.pure 9 (.done))))))))))) [] (by kernel_rfl) (List.nil_sublist _) ?_
        refine XR.rd rfl rfl rfl (Reads.move rfl) ?_
        refine XR.rd rfl rfl rfl (Reads.move (v := .int .i64 ((kk : Nat) : Int)) (by first | rfl | exact congrArg (fun z => some (Value.int .i64 z)) hkk)) ?_
        refine XR.rd rfl rfl rfl (Reads.move (v := .int .i64 ((kk : Nat) : Int)) (by first | rfl | exact congrArg (fun z => some (Value.int .i64 z)) hkk)) ?_
        refine XR.rd rfl rfl rfl (Reads.slice_gen 0 kk kk Tryd.underlying37 z24 rfl rfl ⟨_, rfl⟩ ⟨_, rfl⟩ (fun h => by cases h) (by omega) (by omega) (by omega)) ?_
        rw [cutA_zero (hOt.addr (by decide) (by omega)), show kk - 0 = (rest.take kk).length by rw [List.length_take]; omega]
        refine XR.rd rfl rfl rfl (Reads.move rfl) ?_
        refine XR.rd rfl rfl rfl (Reads.move (v := .int .i64 ((kk : Nat) : Int)) (by first | rfl | exact congrArg (fun z => some (Value.int .i64 z)) hkk)) ?_
        refine XR.rd rfl rfl rfl (Reads.add rfl rfl (by omega)) ?_
        rw [show (kk : Int) + 1 = ((kk + 1 : Nat) : Int) by omega]
        refine XR.rd rfl rfl rfl (Reads.slice_gen (kk + 1) rest.length cc Tryd.underlying37 z24 rfl ⟨_, rfl⟩ rfl rfl (fun _ => rfl) (by omega) (by omega) (by omega)) ?_
        rw [← List.length_drop]
        refine XR.append_done (rest.take kk) (rest.drop (kk + 1)) rfl rfl rfl Tryd.underlying37 Tryd.underlying37 el24 (by decide) (hOt.addr (by decide) (by omega)) rfl rfl (hOt.take kk) (hOt.cut (by omega)) (by rw [List.length_take, List.length_drop]; omega) (by rw [List.length_take, List.length_drop]; omega) (List.nil_sublist _) (fun J9 at9 ct9 hle9 hct9 hOt9 => ?_)
        replace hI := Im.le_trans hI hle9
        replace hG := hG.mono hle9
        replace hY := hY.mono hle9
        replace hOs := hOs.mono hle9
        replace hO1 := hO1.mono hle9
        replace hO2 := hO2.mono hle9
        refine XR.rd rfl rfl rfl (Reads.assign rfl) ?_
        refine XR.nil ?_
        refine XQ.block_normal ?_
        refine XQ.then_normal ?_
        refine XC.region ?_
        refine XO.rd rfl rfl rfl (Reads.move rfl) ?_
        refine XO.rd rfl rfl rfl (Reads.add rfl rfl (by omega)) ?_
        rw [show (done.length : Int) + 1 = (((done ++ [rest[kk]]).length : Nat) : Int) by rw [List.length_append, List.length_singleton]; omega]
        refine XO.rd rfl rfl rfl (Reads.assign rfl) ?_
        refine XO.nil ?_
        have hlen9 : (rest.take kk ++ rest.drop (kk + 1)).length + 1 = rest.length := by rw [List.length_append, List.length_take, List.length_drop]; omega
        refine XQ.back ⟨G', hd', rest.take kk ++ rest.drop (kk + 1), done ++ [rest[kk]], at9, ct9, J9⟩ ⟨Im.le_trans hJle hle9, hperm2, hOt9, hct9, by simp only; rw [har1]; show G'.Is 1 (strC (_ ++ _)); rw [strC_append]; exact hG', by simp only; rw [har1]; exact hEd'⟩ (by simp only; omega) ⟨rfl, rfl, rfl, rfl, rfl, rfl, rfl, trivial⟩ rfl (by simp only; rw [har1]; exact (perm_take [3, 3, 3, 3, 3, 3, 3, 3, 0, 0, 0, 0, 0, 0]))
    · skip
      simp only [cmpInt, decide_eq_false_iff_not] at h2
      have hr0 : rest = [] := List.length_eq_zero_iff.1 (by omega)
      rw [hr0, List.append_nil] at hperm
      have heq : arrF (busyF ops 1) ((outF (busyF ops 0)).take k) = arrF (busyF ops 1) done := by rw [hfull]; exact arr_perm (by decide) hR (fun p hp => hp) hperm
      have hM100 : (arrF (busyF ops 1) ((outF (busyF ops 0)).take k)).2.length ≤ 100 := by have r1 := arr_rec (by decide) hR ((outF (busyF ops 0)).take k) (fun q hq => List.mem_of_mem_take hq); have r2 := r1.got; have r3 := hEb.ok.got; omega
      refine XC.exit ?_
      refine XQ.then_exit ?_
      refine XQ.then_exit ?_
      refine XQ.block_exit ?_
      refine XQ.then_normal ?_
      refine XC.seq ?_
      refine XC.region ?_
      refine XO.perm (perm_take [1]) ?_
      refine XO.own_eq (L' := (G1.ent 9 :: (G.ent 9 :: (endL bc (busyF ops 0) hc ++ (endL ba (busyF ops 0) ha ++ (endL bd (arrF (busyF ops 1) done).1 hd ++ (endL bb (arrF (busyF ops 1) ((outF (busyF ops 0)).take k)).1 hb ++ Lf))))))) rfl ?_
      refine XO.vec_done (α := ByteArray) (by decide) hG1v (flat_strs _ _) (fun J11 hle11 hs11 => ?_)
      replace hI := Im.le_trans hI hle11
      replace hG := hG.mono hle11
      replace hY := hY.mono hle11
      replace hOs := hOs.mono hle11
      replace hO1 := hO1.mono hle11
      replace hO2 := hO2.mono hle11
      refine XO.own_eq (L' := (G.ent 9 :: (endL bc (busyF ops 0) hc ++ (endL ba (busyF ops 0) ha ++ (endL bd (arrF (busyF ops 1) done).1 hd ++ (endL bb (arrF (busyF ops 1) ((outF (busyF ops 0)).take k)).1 hb ++ Lf)))))) rfl ?_
      refine XO.vec_done (α := ByteArray) (by decide) hGv (flat_strs _ _) (fun J12 hle12 hs12 => ?_)
      refine XO.rd rfl rfl rfl (Reads.move rfl) ?_
      replace hI := Im.le_trans hI hle12
      replace hG := hG.mono hle12
      replace hY := hY.mono hle12
      replace hOs := hOs.mono hle12
      replace hO1 := hO1.mono hle12
      replace hO2 := hO2.mono hle12
      refine XO.rd rfl rfl rfl (Reads.move rfl) ?_
      refine XO.callp rfl rfl en28 (strings_is (c := true) (xs := (arrF (busyF ops 1) ((outF (busyF ops 0)).take k)).2) (ys := (arrF (busyF ops 1) done).2) (decide_eq_true (by rw [heq])) (by omega) hs11 hle12 hs12 (Im.le_refl _)) ⟨rfl, rfl, trivial⟩ ?_
      refine XO.rd rfl rfl rfl (Reads.move rfl) ?_
      refine XO.rd (wg rfl rfl rfl) rfl rfl (Reads.move rfl) ?_
      refine XO.callo (vs := [_]) (L1 := (endL bb (arrF (busyF ops 1) ((outF (busyF ops 0)).take k)).1 hb)) (wg rfl rfl rfl) rfl rfl en35 ⟨rfl, trivial⟩ (received_any bb (arrF (busyF ops 1) ((outF (busyF ops 0)).take k)).1 hb _ hEb) (perm_take [9, 9, 9]) ?_
      rintro v I' L' _ ⟨rfl, hI', rfl⟩
      replace hI' := hI'.symm
      subst hI'
      refine XO.own_eq (L' := (endL bb (arrF (busyF ops 1) ((outF (busyF ops 0)).take k)).1 hb ++ (endL bc (busyF ops 0) hc ++ (endL ba (busyF ops 0) ha ++ (endL bd (arrF (busyF ops 1) done).1 hd ++ Lf))))) rfl ?_
      refine XO.rd (wg rfl rfl rfl) rfl rfl (Reads.move rfl) ?_
      refine XO.callo (vs := [_]) (L1 := (endL bd (arrF (busyF ops 1) done).1 hd)) (wg rfl rfl rfl) rfl rfl en35 ⟨rfl, trivial⟩ (received_any bd (arrF (busyF ops 1) done).1 hd _ hEd) (perm_take [9, 9, 9]) ?_
      rintro v I' L' _ ⟨rfl, hI', rfl⟩
      replace hI' := hI'.symm
      subst hI'
      refine XO.own_eq (L' := (endL bd (arrF (busyF ops 1) done).1 hd ++ (endL bb (arrF (busyF ops 1) ((outF (busyF ops 0)).take k)).1 hb ++ (endL bc (busyF ops 0) hc ++ (endL ba (busyF ops 0) ha ++ Lf))))) rfl ?_
      refine XO.rd (wg rfl rfl rfl) rfl rfl (Reads.cmp_yes rfl rfl rfl (by rw [heq]; simp only [cmpInt, beq_iff_eq] <;> omega)) ?_
      refine XO.rd rfl rfl rfl (Reads.pick_true rfl rfl) ?_
      refine XO.rd rfl rfl rfl (Reads.move rfl) ?_
      refine XO.rd (wg rfl rfl rfl) rfl rfl (Reads.move rfl) ?_
      refine XO.callo (vs := [_]) (L1 := (endL bb (arrF (busyF ops 1) ((outF (busyF ops 0)).take k)).1 hb)) (wg rfl rfl rfl) rfl rfl en33 ⟨rfl, trivial⟩ (waiting_any bb (arrF (busyF ops 1) ((outF (busyF ops 0)).take k)).1 hb _ hEb) (perm_take [3, 3, 3]) ?_
      rintro v I' L' _ ⟨rfl, hI', rfl⟩
      replace hI' := hI'.symm
      subst hI'
      refine XO.own_eq (L' := (endL bb (arrF (busyF ops 1) ((outF (busyF ops 0)).take k)).1 hb ++ (endL bd (arrF (busyF ops 1) done).1 hd ++ (endL bc (busyF ops 0) hc ++ (endL ba (busyF ops 0) ha ++ Lf))))) rfl ?_
      refine XO.rd (wg rfl rfl rfl) rfl rfl (Reads.move rfl) ?_
      refine XO.callo (vs := [_]) (L1 := (endL bd (arrF (busyF ops 1) done).1 hd)) (wg rfl rfl rfl) rfl rfl en33 ⟨rfl, trivial⟩ (waiting_any bd (arrF (busyF ops 1) done).1 hd _ hEd) (perm_take [3, 3, 3]) ?_
      rintro v I' L' _ ⟨rfl, hI', rfl⟩
      replace hI' := hI'.symm
      subst hI'
      refine XO.own_eq (L' := (endL bd (arrF (busyF ops 1) done).1 hd ++ (endL bb (arrF (busyF ops 1) ((outF (busyF ops 0)).take k)).1 hb ++ (endL bc (busyF ops 0) hc ++ (endL ba (busyF ops 0) ha ++ Lf))))) rfl ?_
      refine XO.rd (wg rfl rfl rfl) rfl rfl (Reads.cmp_yes rfl rfl rfl (by rw [heq]; simp only [cmpInt, beq_iff_eq] <;> omega)) ?_
      refine XO.rd rfl rfl rfl (Reads.pick_true rfl rfl) ?_
      refine XO.rd rfl rfl rfl (Reads.move rfl) ?_
      refine XO.rd (wg rfl rfl rfl) rfl rfl (Reads.move rfl) ?_
      refine XO.callo (vs := [_]) (L1 := (endL bb (arrF (busyF ops 1) ((outF (busyF ops 0)).take k)).1 hb)) (wg rfl rfl rfl) rfl rfl en22 ⟨rfl, trivial⟩ (out_is (ps := outF (arrF (busyF ops 1) ((outF (busyF ops 0)).take k)).1) rfl hEb hG) (perm_take [3, 3, 3]) ?_
      rintro v I' L' _ ⟨V5, rfl, hI', rfl, hV5, hV5l⟩
      replace hI' := hI'.symm
      subst hI'
      refine XO.vec_done (α := Pkt) (by decide) hV5 (flat_pkt _ _) (fun J5 hle5 hs5 => ?_)
      replace hI := Im.le_trans hI hle5
      replace hG := hG.mono hle5
      replace hY := hY.mono hle5
      replace hOs := hOs.mono hle5
      replace hO1 := hO1.mono hle5
      replace hO2 := hO2.mono hle5
      obtain ⟨blk5, len5, cap5⟩ := V5
      simp only at hV5l hs5 ⊢
      subst hV5l
      have hO5 := hs5.arr.1
      refine XO.own_eq (L' := (endL bb (arrF (busyF ops 1) ((outF (busyF ops 0)).take k)).1 hb ++ (endL bd (arrF (busyF ops 1) done).1 hd ++ (endL bc (busyF ops 0) hc ++ (endL ba (busyF ops 0) ha ++ Lf))))) rfl ?_
      refine XO.rd (wg rfl rfl rfl) rfl rfl (Reads.move rfl) ?_
      refine XO.callo (vs := [_]) (L1 := (endL bd (arrF (busyF ops 1) done).1 hd)) (wg rfl rfl rfl) rfl rfl en22 ⟨rfl, trivial⟩ (out_is (ps := outF (arrF (busyF ops 1) done).1) rfl hEd hG) (perm_take [3, 3, 3]) ?_
      rintro v I' L' _ ⟨V6, rfl, hI', rfl, hV6, hV6l⟩
      replace hI' := hI'.symm
      subst hI'
      refine XO.vec_done (α := Pkt) (by decide) hV6 (flat_pkt _ _) (fun J6 hle6 hs6 => ?_)
      replace hI := Im.le_trans hI hle6
      replace hG := hG.mono hle6
      replace hY := hY.mono hle6
      replace hOs := hOs.mono hle6
      replace hO1 := hO1.mono hle6
      replace hO2 := hO2.mono hle6
      replace hO5 := hO5.mono hle6
      obtain ⟨blk6, len6, cap6⟩ := V6
      simp only at hV6l hs6 ⊢
      subst hV6l
      have hO6 := hs6.arr.1
      refine XO.own_eq (L' := (endL bd (arrF (busyF ops 1) done).1 hd ++ (endL bb (arrF (busyF ops 1) ((outF (busyF ops 0)).take k)).1 hb ++ (endL bc (busyF ops 0) hc ++ (endL ba (busyF ops 0) ha ++ Lf))))) rfl ?_
      refine XO.callp (wg rfl rfl rfl) rfl en23 (same_is (c := true) (decide_eq_true (by rw [heq])) (by have := outF_len (arrF (busyF ops 1) ((outF (busyF ops 0)).take k)).1; omega) hO5 hO6) ⟨rfl, rfl, trivial⟩ ?_
      refine XO.rd rfl rfl rfl (Reads.pick_true rfl rfl) ?_
      refine XO.rd rfl rfl rfl (Reads.assign rfl) ?_
      refine XO.nil ?_
      refine XQ.then_normal ?_
      refine XC.ret ?_
      refine XQ.dropn 12 ?_
      refine XQ.done1 (L := []) rfl rfl hI ?_
      exact ⟨rfl, rfl⟩

end Go.Proofs.YtkjhhifhgcihpaaDoor
