/- Walk: LinkDoubled. -/
import Derived.Test.YtkjhhifhgcihpaaDoorD14
namespace Go.Proofs.YtkjhhifhgcihpaaDoor
open Go.Xe Go.Sh Go Go.Lk

theorem linkDoubled_any (a : Option Addr) (cap : Nat) (ops : List Q4) (w t : Int) (I : Im) (hY : Arr I a ops) (hops : ∀ x ∈ ops, x.In) (hG : Glob I) (hw : -9223372036854775808 ≤ w ∧ w ≤ 9223372036854775807) (ht : -9223372036854775808 ≤ t ∧ t ≤ 9223372036854775807) : FC Tryd.prog 8 [.slice a ops.length cap, .int .i64 w, .int .i64 t] I (fun u I' => u = .bool true) := by
  have hI := Im.le_refl I
  have hs := (busy_sys ops).1
  have hs12 := (busy_sys ops).2
  have n0 := hs12 0 (by decide)
  have n1 := hs12 1 (by decide)
  have oa := hs.ok 0 (by decide)
  have ob := hs.ok 1 (by decide)
  have g0 : (busyF ops 0).got ≤ (busyF ops 1).sent.length := hs.got 0 (by decide)
  have g1 : (busyF ops 1).got ≤ (busyF ops 0).sent.length := hs.got 1 (by decide)
  have k0 : (busyF ops 0).acked ≤ (busyF ops 1).got := hs.acked 0 (by decide)
  have k1 : (busyF ops 1).acked ≤ (busyF ops 0).got := hs.acked 1 (by decide)
  have a0 := oa.acked
  have hcnt := outF_count a0
  have hlen4 := outF_len (busyF ops 0)
  have hR : Rec 0 (busyF ops 0) (busyF ops 1) := Rec.start ops (by decide)
  refine FSo.intro (n := 95) Tryd.func8 rfl rfl rfl (fun K Lf => ?_)
  refine XC.seq ?_
  refine XC.region ?_
  refine XO.rd rfl rfl rfl (Reads.assign rfl) ?_
  refine XO.nil ?_
  refine XQ.then_normal ?_
  refine XC.seq ?_
  refine XC.region ?_
  refine XO.rd rfl rfl rfl (Reads.move rfl) ?_
  refine XO.callo (vs := [_]) (L1 := []) rfl rfl rfl en39 ⟨rfl, trivial⟩ (busy_is a cap ops _ hY hops hG) (List.Perm.refl _) ?_
  rintro v I' L' _ ⟨hI', ba, bb, ha, hb, rfl, rfl, hEa, hEb⟩
  replace hI' := hI'.symm
  subst hI'
  refine XO.own_eq (L' := (endL ba (busyF ops 0) ha ++ (endL bb (busyF ops 1) hb ++ Lf))) rfl ?_
  refine XO.rd rfl rfl rfl (Reads.move rfl) ?_
  refine XO.rd rfl rfl rfl (Reads.extract rfl rfl) ?_
  refine XO.rd rfl rfl rfl (Reads.extract rfl rfl) ?_
  refine XO.rd rfl rfl rfl (Reads.extract rfl rfl) ?_
  refine XO.rd rfl rfl rfl (Reads.assign rfl) ?_
  refine XO.rd rfl rfl rfl (Reads.assign rfl) ?_
  refine XO.rd rfl rfl rfl (Reads.assign rfl) ?_
  refine XO.nil ?_
  refine XQ.then_normal ?_
  refine XC.seq ?_
  refine XC.seq ?_
  refine XC.region ?_
  refine XO.callp rfl rfl en14 (FC.pure (sane_any _ hG)) trivial ?_
  refine XO.rd rfl rfl rfl (Reads.not rfl) ?_
  refine XO.rd rfl rfl rfl (Reads.move rfl) ?_
  refine XO.rd (wg rfl rfl rfl) rfl rfl (Reads.move rfl) ?_
  refine XO.rd (wg rfl rfl rfl) rfl rfl (Reads.not rfl) ?_
  refine XO.rd rfl rfl rfl (Reads.pick_false rfl rfl) ?_
  refine XO.nil ?_
  refine XQ.then_normal ?_
  refine XC.cond rfl (fun hx => by cases hx) (fun _ => ?_)
  refine XC.skip ?_
  refine XQ.then_normal ?_
  refine XC.seq ?_
  refine XC.region ?_
  refine XO.rd rfl rfl rfl (Reads.move rfl) ?_
  refine XO.callo (vs := [_]) (L1 := (endL ba (busyF ops 0) ha)) rfl rfl rfl en22 ⟨rfl, trivial⟩ (out_is (ps := outF (busyF ops 0)) rfl hEa hG) (List.Perm.refl _) ?_
  rintro v I' L' _ ⟨V1, rfl, hI', rfl, hV1, hV1l⟩
  replace hI' := hI'.symm
  subst hI'
  refine XO.vec_done (α := Pkt) (by decide) hV1 (flat_pkt _ _) (fun J1 hle1 hs1 => ?_)
  replace hI := Im.le_trans hI hle1
  replace hG := hG.mono hle1
  replace hY := hY.mono hle1
  obtain ⟨blk1, len1, cap1⟩ := V1
  simp only at hV1l hs1 ⊢
  subst hV1l
  have hO1 := hs1.arr.1
  refine XO.own_eq (L' := (endL ba (busyF ops 0) ha ++ (endL bb (busyF ops 1) hb ++ Lf))) rfl ?_
  refine XO.rd rfl rfl rfl (Reads.assign rfl) ?_
  refine XO.nil ?_
  refine XQ.then_normal ?_
  refine XC.seq ?_
  refine XC.seq ?_
  refine XC.region ?_
  refine XO.rd rfl rfl rfl (Reads.move rfl) ?_
  refine XO.rd rfl rfl rfl (Reads.len_slice Tryd.underlying37 rfl) ?_
  refine XO.rd rfl rfl rfl (Reads.cmp_no rfl rfl rfl (by simp only [cmpInt, decide_eq_false_iff_not, beq_eq_false_iff_ne, bne_eq_false_iff_eq] <;> omega)) ?_
  refine XO.nil ?_
  refine XQ.then_normal ?_
  refine XC.cond rfl (fun hx => by cases hx) (fun _ => ?_)
  refine XC.skip ?_
  refine XQ.then_normal ?_
  refine XC.seq ?_
  refine XC.region ?_
  refine XO.rd rfl rfl rfl (Reads.move rfl) ?_
  refine XO.rd rfl rfl rfl (Reads.move rfl) ?_
  refine XO.rd rfl rfl rfl (Reads.move rfl) ?_
  refine XO.rd rfl rfl rfl (Reads.len_slice Tryd.underlying37 rfl) ?_
  refine XO.callp rfl rfl en18 (pickL_any w (((outF (busyF ops 0)).length : Nat) : Int) _ hw (by omega)) ⟨rfl, rfl, trivial⟩ ?_
  have hpr := pickI_range (c := w) (n := (((outF (busyF ops 0)).length : Nat) : Int)) (by omega)
  obtain ⟨j, hjj⟩ : ∃ j : Nat, pickI w (((outF (busyF ops 0)).length : Nat) : Int) = j := ⟨(pickI w (((outF (busyF ops 0)).length : Nat) : Int)).toNat, by omega⟩
  have hj3 : j < (outF (busyF ops 0)).length := by omega
  rw [hjj]
  have hpm : (outF (busyF ops 0))[j] ∈ outF (busyF ops 0) := List.getElem_mem hj3
  have hpin := outF_in oa _ hpm
  refine XO.rd rfl rfl rfl (Reads.index_slot (q := j * 4) Tryd.underlying37 z24 rfl rfl (by (try dsimp only); omega) (hO1.isSome (by decide) (by omega)) (by omega)) ?_
  refine XO.rd rfl rfl rfl (Reads.load_agg_at (vs := (outF (busyF ops 0))[j].cells) k24 z24 rfl (hO1.addr (by decide) (by omega)) (Arr.pkt hO1 hj3)) ?_
  refine XO.alloc (cs := #[.int .i64 0, .int .i64 0, .string ⟨#[]⟩, .string ⟨#[]⟩]) rfl rfl zo24 rfl (fun b11 => ?_)
  refine XO.store_agg (vs := (outF (busyF ops 0))[j].cells) 0 rfl z24 rfl rfl (by intro v hv; simp at hv; rcases hv with rfl | rfl | rfl | rfl <;> rfl) rfl (Nat.le_refl 4) ?_
  refine XO.own_eq (congrArg (fun c => some (b11, Obj.cells c 24 (0, 0)) :: _) (show _ = (outF (busyF ops 0))[j].cells.toArray from rfl)) ?_
  refine XO.own_eq (L' := (some (b11, .cells ((outF (busyF ops 0))[j]).cells.toArray 24 (0, 0)) :: (endL ba (busyF ops 0) ha ++ (endL bb (busyF ops 1) hb ++ Lf)))) rfl ?_
  refine XO.nil ?_
  refine XQ.then_normal ?_
  refine XC.seq ?_
  refine XC.region ?_
  refine XO.rd rfl rfl rfl (Reads.move rfl) ?_
  refine XO.rd rfl rfl rfl (Reads.load_whole (c := ((outF (busyF ops 0))[j]).cells.toArray) k24 z24 rfl (WholeAt.of 0 rfl) rfl) ?_
  obtain ⟨y1, ms1, hin1, hr1⟩ := hR.in_ (by decide) hpm
  obtain ⟨hR1, hin2⟩ := hR.again (by decide) hpm hin1
  have hy1 := hR1.sys.ok 1 (by decide)
  rw [show two 0 (busyF ops 0) y1 1 = y1 from rfl] at hy1
  refine XO.callo (vs := [_, _]) (L1 := (endL bb (busyF ops 1) hb)) rfl rfl rfl en26 ⟨rfl, rfl, trivial⟩ (in_is (x := (busyF ops 1)) (y := y1) (ms := ms1) hin1 hEb hpin hG) (perm_take [4, 4, 4]) ?_
  rintro v I' L' _ ⟨V2, hb, rfl, hI', rfl, hV2, hV2l, hEb⟩
  replace hI' := hI'.symm
  subst hI'
  refine XO.dropn 1 ?_
  refine XO.own_eq (L' := (endL bb y1 hb ++ (some (b11, .cells ((outF (busyF ops 0))[j]).cells.toArray 24 (0, 0)) :: (endL ba (busyF ops 0) ha ++ Lf)))) rfl ?_
  refine XO.rd rfl rfl rfl (Reads.move rfl) ?_
  refine XO.rd rfl rfl rfl (Reads.extract rfl rfl) ?_
  refine XO.rd rfl rfl rfl (Reads.extract rfl rfl) ?_
  refine XO.rd rfl rfl rfl (Reads.assign rfl) ?_
  refine XO.rd rfl rfl rfl (Reads.assign rfl) ?_
  refine XO.nil ?_
  refine XQ.then_normal ?_
  refine XC.seq ?_
  refine XC.region ?_
  refine XO.rd rfl rfl rfl (Reads.move rfl) ?_
  refine XO.callo (vs := [_]) (L1 := (endL bb y1 hb)) rfl rfl rfl en35 ⟨rfl, trivial⟩ (received_any bb y1 hb _ hEb) (List.Perm.refl _) ?_
  rintro v I' L' _ ⟨rfl, hI', rfl⟩
  replace hI' := hI'.symm
  subst hI'
  refine XO.own_eq (L' := (endL bb y1 hb ++ (some (b11, .cells ((outF (busyF ops 0))[j]).cells.toArray 24 (0, 0)) :: (endL ba (busyF ops 0) ha ++ Lf)))) rfl ?_
  refine XO.rd rfl rfl rfl (Reads.assign rfl) ?_
  refine XO.nil ?_
  refine XQ.then_normal ?_
  refine XC.seq ?_
  refine XC.region ?_
  refine XO.rd rfl rfl rfl (Reads.move rfl) ?_
  refine XO.callo (vs := [_]) (L1 := (endL bb y1 hb)) rfl rfl rfl en33 ⟨rfl, trivial⟩ (waiting_any bb y1 hb _ hEb) (List.Perm.refl _) ?_
  rintro v I' L' _ ⟨rfl, hI', rfl⟩
  replace hI' := hI'.symm
  subst hI'
  refine XO.own_eq (L' := (endL bb y1 hb ++ (some (b11, .cells ((outF (busyF ops 0))[j]).cells.toArray 24 (0, 0)) :: (endL ba (busyF ops 0) ha ++ Lf)))) rfl ?_
  refine XO.rd rfl rfl rfl (Reads.assign rfl) ?_
  refine XO.nil ?_
  refine XQ.then_normal ?_
  refine XC.seq ?_
  refine XC.region ?_
  refine XO.rd rfl rfl rfl (Reads.move rfl) ?_
  refine XO.callo (vs := [_]) (L1 := (endL bb y1 hb)) rfl rfl rfl en22 ⟨rfl, trivial⟩ (out_is (ps := outF y1) rfl hEb hG) (List.Perm.refl _) ?_
  rintro v I' L' _ ⟨V3, rfl, hI', rfl, hV3, hV3l⟩
  replace hI' := hI'.symm
  subst hI'
  refine XO.vec_done (α := Pkt) (by decide) hV3 (flat_pkt _ _) (fun J3 hle3 hs3 => ?_)
  replace hI := Im.le_trans hI hle3
  replace hG := hG.mono hle3
  replace hY := hY.mono hle3
  replace hO1 := hO1.mono hle3
  obtain ⟨blk3, len3, cap3⟩ := V3
  simp only at hV3l hs3 ⊢
  subst hV3l
  have hO3 := hs3.arr.1
  refine XO.own_eq (L' := (endL bb y1 hb ++ (some (b11, .cells ((outF (busyF ops 0))[j]).cells.toArray 24 (0, 0)) :: (endL ba (busyF ops 0) ha ++ Lf)))) rfl ?_
  refine XO.rd rfl rfl rfl (Reads.assign rfl) ?_
  refine XO.nil ?_
  refine XQ.then_normal ?_
  refine XC.seq ?_
  refine XC.seq ?_
  refine XC.weaken (E' := [(2, _), (8, _), (11, _), (13, _), (14, _), (15, _), (16, _)]) ⟨rfl, rfl, rfl, rfl, rfl, rfl, rfl, trivial⟩ ?_
  refine XC.region ?_
  refine XO.rd rfl rfl rfl (Reads.assign rfl) ?_
  refine XO.nil ?_
  refine XQ.then_normal ?_
  refine XC.block ?_
  have hp3 := pickI_range (c := t) (n := 3) (by decide)
  refine XC.loop (ι := Nat × EH) (fun q => [(2, .int .i64 t), (8, .pointer (some ⟨bb, 0, none⟩)), (11, .pointer (some ⟨b11, 0, none⟩)), (13, .int .i64 0), (14, .int .i64 (y1.got : Int)), (15, .int .i64 ((y1.sent.length : Int) - (y1.acked : Int))), (16, .slice (Vec.addr ⟨blk3, (outF y1).length, cap3⟩) (outF y1).length cap3), (17, .int .i64 q.1)]) (fun q => J3) (fun q => (endL bb y1 q.2 ++ (some (b11, .cells ((outF (busyF ops 0))[j]).cells.toArray 24 (0, 0)) :: (endL ba (busyF ops 0) ha ++ Lf)))) (fun q => q.1 ≤ 3 ∧ EndIs y1 q.2) (fun q => 3 - q.1) (0, hb) ⟨Nat.zero_le _, hEb⟩ ⟨rfl, rfl, rfl, rfl, rfl, rfl, rfl, rfl, trivial⟩ rfl (List.Perm.refl _) (fun q hq => ?_)
  obtain ⟨k, hb⟩ := q
  obtain ⟨hk1, hEb⟩ := hq
  simp only at hk1 hEb ⊢
  refine XC.seq ?_
  refine XC.seq ?_
  refine XC.region ?_
  refine XO.rd rfl rfl rfl (Reads.move rfl) ?_
  refine XO.rd rfl rfl rfl (Reads.move rfl) ?_
  refine XO.callp rfl rfl en18 (pickL_any t 3 _ ht (by decide)) ⟨rfl, rfl, trivial⟩ ?_
  refine XO.rd rfl rfl rfl (Reads.cmp rfl rfl rfl) ?_
  refine XO.nil ?_
  refine XQ.then_normal ?_
  refine XC.cond rfl (fun h1 => ?_) (fun h1 => ?_)
  · skip
    simp only [cmpInt, decide_eq_true_eq] at h1
    refine XC.skip ?_
    refine XQ.then_normal ?_
    refine XC.seq ?_
    refine XC.block ?_
    refine XC.seq ?_
    refine XC.region ?_
    refine XO.rd rfl rfl rfl (Reads.move rfl) ?_
    refine XO.rd rfl rfl rfl (Reads.load_whole (c := ((outF (busyF ops 0))[j]).cells.toArray) k24 z24 rfl (WholeAt.of 3 rfl) rfl) ?_
    refine XO.callo (vs := [_, _]) (L1 := (endL bb y1 hb)) rfl rfl rfl en26 ⟨rfl, rfl, trivial⟩ (in_is (x := y1) (y := y1) (ms := []) hin2 hEb hpin hG) (List.Perm.refl _) ?_
    rintro v I' L' _ ⟨V4, h', rfl, hI', rfl, hV4, hV4l, hEb⟩
    replace hI' := hI'.symm
    subst hI'
    refine XO.dropn 1 ?_
    refine XO.own_eq (L' := (endL bb y1 h' ++ (some (b11, .cells ((outF (busyF ops 0))[j]).cells.toArray 24 (0, 0)) :: (endL ba (busyF ops 0) ha ++ Lf)))) rfl ?_
    simp only [List.length_nil] at hV4l
    refine XO.rd rfl rfl rfl (Reads.move rfl) ?_
    refine XO.rd rfl rfl rfl (Reads.extract rfl rfl) ?_
    refine XO.rd rfl rfl rfl (Reads.extract rfl rfl) ?_
    refine XO.rd rfl rfl rfl (Reads.assign rfl) ?_
    refine XO.rd rfl rfl rfl (Reads.assign rfl) ?_
    refine XO.nil ?_
    refine XQ.then_normal ?_
    refine XC.seq ?_
    refine XC.region ?_
    refine XO.rd rfl rfl rfl (Reads.move rfl) ?_
    refine XO.rd rfl rfl rfl (Reads.cmp_no rfl rfl rfl (by simp only [cmpInt, decide_eq_false_iff_not, beq_eq_false_iff_ne, bne_eq_false_iff_eq] <;> omega)) ?_
    refine XO.rd rfl rfl rfl (Reads.move rfl) ?_
    refine XO.rd (wg rfl rfl rfl) rfl rfl (Reads.move rfl) ?_
    refine XO.rd (wg rfl rfl rfl) rfl rfl (Reads.len_slice Tryd.underlying44 rfl) ?_
    refine XO.rd (wg rfl rfl rfl) rfl rfl (Reads.cmp_no rfl rfl rfl (by simp only [cmpInt, decide_eq_false_iff_not, beq_eq_false_iff_ne, bne_eq_false_iff_eq] <;> omega)) ?_
    refine XO.rd rfl rfl rfl (Reads.pick_false rfl rfl) ?_
    refine XO.nil ?_
    refine XQ.then_normal ?_
    refine XC.cond rfl (fun hx => by cases hx) (fun _ => ?_)
    refine XC.skip ?_
    refine XQ.block_normal ?_
    refine XQ.then_normal ?_
    refine XC.region ?_
    refine XO.rd rfl rfl rfl (Reads.move rfl) ?_
    refine XO.rd rfl rfl rfl (Reads.add rfl rfl (by omega)) ?_
    refine XO.rd rfl rfl rfl (Reads.assign rfl) ?_
    refine XO.nil ?_
    refine XQ.back (k + 1, h') ⟨by simp only; omega, hEb⟩ (by simp only; omega) ⟨rfl, rfl, rfl, rfl, rfl, rfl, rfl, rfl, trivial⟩ rfl (List.Perm.refl _)
  · skip
    simp only [cmpInt, decide_eq_false_iff_not] at h1
    refine XC.exit ?_
    refine XQ.then_exit ?_
    refine XQ.then_exit ?_
    refine XQ.block_exit ?_
    refine XQ.then_normal ?_
    refine XC.seq ?_
    refine XC.region ?_
    refine XO.rd rfl rfl rfl (Reads.move rfl) ?_
    refine XO.rd rfl rfl rfl (Reads.cmp_yes rfl rfl rfl (by simp only [cmpInt, decide_eq_true_eq, beq_iff_eq, bne_iff_ne] <;> omega)) ?_
    refine XO.rd rfl rfl rfl (Reads.move rfl) ?_
    refine XO.rd (wg rfl rfl rfl) rfl rfl (Reads.move rfl) ?_
    refine XO.callo (vs := [_]) (L1 := (endL bb y1 hb)) (wg rfl rfl rfl) rfl rfl en35 ⟨rfl, trivial⟩ (received_any bb y1 hb _ hEb) (List.Perm.refl _) ?_
    rintro v I' L' _ ⟨rfl, hI', rfl⟩
    replace hI' := hI'.symm
    subst hI'
    refine XO.own_eq (L' := (endL bb y1 hb ++ (some (b11, .cells ((outF (busyF ops 0))[j]).cells.toArray 24 (0, 0)) :: (endL ba (busyF ops 0) ha ++ Lf)))) rfl ?_
    refine XO.rd (wg rfl rfl rfl) rfl rfl (Reads.move rfl) ?_
    refine XO.rd (wg rfl rfl rfl) rfl rfl (Reads.cmp_yes rfl rfl rfl (by simp only [cmpInt, decide_eq_true_eq, beq_iff_eq, bne_iff_ne] <;> omega)) ?_
    refine XO.rd rfl rfl rfl (Reads.pick_true rfl rfl) ?_
    refine XO.rd rfl rfl rfl (Reads.move rfl) ?_
    refine XO.rd (wg rfl rfl rfl) rfl rfl (Reads.move rfl) ?_
    refine XO.callo (vs := [_]) (L1 := (endL bb y1 hb)) (wg rfl rfl rfl) rfl rfl en33 ⟨rfl, trivial⟩ (waiting_any bb y1 hb _ hEb) (List.Perm.refl _) ?_
    rintro v I' L' _ ⟨rfl, hI', rfl⟩
    replace hI' := hI'.symm
    subst hI'
    refine XO.own_eq (L' := (endL bb y1 hb ++ (some (b11, .cells ((outF (busyF ops 0))[j]).cells.toArray 24 (0, 0)) :: (endL ba (busyF ops 0) ha ++ Lf)))) rfl ?_
    refine XO.rd (wg rfl rfl rfl) rfl rfl (Reads.move rfl) ?_
    refine XO.rd (wg rfl rfl rfl) rfl rfl (Reads.cmp_yes rfl rfl rfl (by simp only [cmpInt, decide_eq_true_eq, beq_iff_eq, bne_iff_ne] <;> omega)) ?_
    refine XO.rd rfl rfl rfl (Reads.pick_true rfl rfl) ?_
    refine XO.rd rfl rfl rfl (Reads.move rfl) ?_
    refine XO.rd (wg rfl rfl rfl) rfl rfl (Reads.move rfl) ?_
    refine XO.callo (vs := [_]) (L1 := (endL bb y1 hb)) (wg rfl rfl rfl) rfl rfl en22 ⟨rfl, trivial⟩ (out_is (ps := outF y1) rfl hEb hG) (List.Perm.refl _) ?_
    rintro v I' L' _ ⟨V5, rfl, hI', rfl, hV5, hV5l⟩
    replace hI' := hI'.symm
    subst hI'
    refine XO.vec_done (α := Pkt) (by decide) hV5 (flat_pkt _ _) (fun J5 hle5 hs5 => ?_)
    replace hI := Im.le_trans hI hle5
    replace hG := hG.mono hle5
    replace hY := hY.mono hle5
    replace hO1 := hO1.mono hle5
    replace hO3 := hO3.mono hle5
    obtain ⟨blk5, len5, cap5⟩ := V5
    simp only at hV5l hs5 ⊢
    subst hV5l
    have hO5 := hs5.arr.1
    refine XO.own_eq (L' := (endL bb y1 hb ++ (some (b11, .cells ((outF (busyF ops 0))[j]).cells.toArray 24 (0, 0)) :: (endL ba (busyF ops 0) ha ++ Lf)))) rfl ?_
    refine XO.rd (wg rfl rfl rfl) rfl rfl (Reads.move rfl) ?_
    refine XO.callp (wg rfl rfl rfl) rfl en23 (same_is (c := true) (decide_eq_true rfl) (by have := outF_len y1; omega) hO5 hO3) ⟨rfl, rfl, trivial⟩ ?_
    refine XO.rd rfl rfl rfl (Reads.pick_true rfl rfl) ?_
    refine XO.rd rfl rfl rfl (Reads.assign rfl) ?_
    refine XO.nil ?_
    refine XQ.then_normal ?_
    refine XC.ret ?_
    refine XQ.dropn 7 ?_
    refine XQ.done1 (L := []) rfl rfl hI ?_
    exact ⟨rfl, rfl⟩

end Go.Proofs.YtkjhhifhgcihpaaDoor
