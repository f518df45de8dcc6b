/- Walk: what comes in at the reference's ends. -/
import Derived.Test.YtkjhhifhgcihpaaDoorR1
namespace Go.Proofs.YtkjhhifhgcihpaaDoor
open Go.Xe Go.Sh Go Go.Lk

set_option maxHeartbeats 1000000 in
theorem rin_end (b : Nat) (x : LEnd) (r : RH) (p : Pkt) (I : Im) (hR : RIs x r) (hp : p.In) : FSo Tryd.prog 27 [.pointer (some ⟨b, 0, none⟩), .agg #[.int .i64 p.ser, .int .i64 p.ack, .string p.body, .string p.sl]] I (refL b x r) (fun u I' L' => ∃ (V : Vec) (r' : RH), u = .tuple #[V.val, .int .i64 (inF x p).2.2] ∧ I' = I ∧ L' = V.ent 9 :: refL b (inF x p).1 r' ∧ V.Is 1 (strC (inF x p).2.1) ∧ V.len = (inF x p).2.1.length ∧ RIs (inF x p).1 r') := by
  have hVl0 := hR.len
  have hot := hR.ok.other
  have hgo := hR.ok.got
  have hso := hR.ok.sent
  have hac := hR.ok.acked
  refine FSo.intro (n := 112) Tryd.func27 rfl rfl rfl (fun K Lf => ?_)
  refine XC.seq ?_
  refine XC.region ?_
  refine XO.box_agg rfl rfl rfl (fun b3 => ?_)
  refine XO.rd rfl rfl rfl (Reads.assign rfl) ?_
  refine XO.rd rfl rfl rfl (Reads.assign rfl) ?_
  refine XO.nil ?_
  refine XQ.then_normal ?_
  refine XC.seq ?_
  refine XC.seq ?_
  refine XC.draw m_mixed none (.pure 0 (.pure 1 (.pure 2 (.pure 3 (.pure 4 (.eff 5 (.pure 6 (.pure 7 (.pure 8 (.pure 9 (.pure 10 (.pure 11 (.pure 12 (.pure 13 (.pure 14 (.pure 15 (.pure 16 (.done)))))))))))))))))) _ (by kernel_rfl) (List.Sublist.refl _) ?_
  refine XR.rd rfl rfl rfl (Reads.move rfl) ?_
  refine XR.rd rfl rfl rfl (Reads.nilCheck rfl) ?_
  refine XR.rd rfl rfl rfl (fa69_1 rfl) ?_
  refine XR.rd rfl rfl rfl (Reads.load_own k9 rfl (by first | exact OwnAt.of 0 rfl rfl | exact OwnAt.of 1 rfl rfl | exact OwnAt.of 2 rfl rfl | exact OwnAt.of 3 rfl rfl | exact OwnAt.of 4 rfl rfl | exact OwnAt.of 5 rfl rfl)) ?_
  refine XR.rd rfl rfl rfl (Reads.load_whole k24 z24 rfl (by first | exact WholeAt.of 0 rfl | exact WholeAt.of 1 rfl | exact WholeAt.of 2 rfl | exact WholeAt.of 3 rfl | exact WholeAt.of 4 rfl | exact WholeAt.of 5 rfl) (by rfl)) ?_
  refine XR.callp rfl rfl rfl en30 (rgenuine_any x.other p _ hp (by omega)) ⟨rfl, rfl, trivial⟩ (List.Sublist.refl _) ?_
  refine XR.rd rfl rfl rfl (Reads.not rfl) ?_
  refine XR.rd rfl rfl rfl (Reads.move rfl) ?_
  refine XR.split (d := 14) rfl (fun h1 => ?_) (fun h1 => ?_)
  · skip
    simp only [Bool.not_eq_true'] at h1
    refine XR.s rfl (wg rfl rfl rfl) rfl ?_
    refine XR.s rfl (wg rfl rfl rfl) rfl ?_
    refine XR.s rfl (wg rfl rfl rfl) rfl ?_
    refine XR.s rfl (wg rfl rfl rfl) rfl ?_
    refine XR.s rfl (wg rfl rfl rfl) rfl ?_
    refine XR.s rfl (wg rfl rfl rfl) rfl ?_
    refine XR.s rfl (wg rfl rfl rfl) rfl ?_
    refine XR.s rfl (wg rfl rfl rfl) rfl ?_
    refine XR.rd rfl rfl rfl (Reads.pick_true rfl rfl) ?_
    refine XR.nil ?_
    refine XQ.then_normal ?_
    refine XC.cond rfl (fun _ => ?_) (fun hx => by cases hx)
    refine XC.seq ?_
    refine XC.region ?_
    refine XO.rd rfl rfl rfl (Reads.assign rfl) ?_
    refine XO.rd rfl rfl rfl (Reads.assign rfl) ?_
    refine XO.nil ?_
    refine XQ.then_normal ?_
    refine XC.ret ?_
    refine XQ.then_ret ?_
    rw [inF_no (by rintro ⟨hg1, hg2⟩; first | (rw [hg1] at h1; exact absurd h1 (by decide)) | omega)]
    refine XQ.dropn 1 ?_
    refine XQ.same (L' := (Vec.nil.ent 9 :: refL b x r) ++ Lf) rfl ?_
    refine XQ.done2 (L := Vec.nil.ent 9 :: refL b x r) rfl rfl rfl (Im.le_refl _) ?_
    exact ⟨Vec.nil, r, rfl, rfl, rfl, Vec.nil_is 1, rfl, hR⟩
  · skip
    simp only [Bool.not_eq_false'] at h1
    have hgen := h1
    have hf := ((genF_iff _ _).1 h1).2.1
    have hs0 := hf.s0
    have hs1 := hf.s1
    have ha0 := hf.a0
    have ha1 := hf.a1
    refine XR.rd rfl (wg rfl rfl rfl) rfl (fa24_1 rfl) ?_
    refine XR.rd rfl (wg rfl rfl rfl) rfl (Reads.load_own k3 rfl (by first | exact OwnAt.of 0 rfl rfl | exact OwnAt.of 1 rfl rfl | exact OwnAt.of 2 rfl rfl | exact OwnAt.of 3 rfl rfl | exact OwnAt.of 4 rfl rfl | exact OwnAt.of 5 rfl rfl)) ?_
    refine XR.rd rfl (wg rfl rfl rfl) rfl (Reads.move rfl) ?_
    refine XR.rd rfl (wg rfl rfl rfl) rfl (Reads.nilCheck rfl) ?_
    refine XR.rd rfl (wg rfl rfl rfl) rfl (fa69_2 rfl) ?_
    refine XR.rd rfl (wg rfl rfl rfl) rfl (Reads.load_own k44 rfl (by first | exact OwnAt.of 0 rfl rfl | exact OwnAt.of 1 rfl rfl | exact OwnAt.of 2 rfl rfl | exact OwnAt.of 3 rfl rfl | exact OwnAt.of 4 rfl rfl | exact OwnAt.of 5 rfl rfl)) ?_
    refine XR.rd rfl (wg rfl rfl rfl) rfl (Reads.len_slice Tryd.underlying44 rfl) ?_
    refine XR.rd rfl (wg rfl rfl rfl) rfl (Reads.cmp rfl rfl rfl) ?_
    refine XR.rd rfl rfl rfl (Reads.pick_false rfl rfl) ?_
    refine XR.nil ?_
    refine XQ.then_normal ?_
    refine XC.cond rfl (fun h2 => ?_) (fun h2 => ?_)
    · skip
      simp only [cmpInt, decide_eq_true_eq] at h2
      refine XC.seq ?_
      refine XC.region ?_
      refine XO.rd rfl rfl rfl (Reads.assign rfl) ?_
      refine XO.rd rfl rfl rfl (Reads.assign rfl) ?_
      refine XO.nil ?_
      refine XQ.then_normal ?_
      refine XC.ret ?_
      refine XQ.then_ret ?_
      rw [inF_no (by rintro ⟨hg1, hg2⟩; first | (rw [hg1] at h1; exact absurd h1 (by decide)) | omega)]
      refine XQ.dropn 1 ?_
      refine XQ.same (L' := (Vec.nil.ent 9 :: refL b x r) ++ Lf) rfl ?_
      refine XQ.done2 (L := Vec.nil.ent 9 :: refL b x r) rfl rfl rfl (Im.le_refl _) ?_
      exact ⟨Vec.nil, r, rfl, rfl, rfl, Vec.nil_is 1, rfl, hR⟩
    · skip
      simp only [cmpInt, decide_eq_false_iff_not] at h2
      have hack := h2
      refine XC.skip ?_
      refine XQ.then_normal ?_
      refine XC.seq ?_
      refine XC.draw m_mixed (some 10) (.pure 0 (.pure 1 (.pure 2 (.pure 3 (.pure 4 (.pure 5 (.pure 6 (.pure 7 (.pure 8 (.pure 9 (.eff 10 (.done)))))))))))) _ (by kernel_rfl) (List.Sublist.refl _) ?_
      refine XR.rd rfl rfl rfl (Reads.move rfl) ?_
      refine XR.rd rfl rfl rfl (Reads.move rfl) ?_
      refine XR.rd rfl rfl rfl (Reads.nilCheck rfl) ?_
      refine XR.rd rfl rfl rfl (fa69_3 rfl) ?_
      refine XR.rd rfl rfl rfl (Reads.load_own k3 rfl (by first | exact OwnAt.of 0 rfl rfl | exact OwnAt.of 1 rfl rfl | exact OwnAt.of 2 rfl rfl | exact OwnAt.of 3 rfl rfl | exact OwnAt.of 4 rfl rfl | exact OwnAt.of 5 rfl rfl)) ?_
      refine XR.rd rfl rfl rfl (fa24_1 rfl) ?_
      refine XR.rd rfl rfl rfl (Reads.load_own k3 rfl (by first | exact OwnAt.of 0 rfl rfl | exact OwnAt.of 1 rfl rfl | exact OwnAt.of 2 rfl rfl | exact OwnAt.of 3 rfl rfl | exact OwnAt.of 4 rfl rfl | exact OwnAt.of 5 rfl rfl)) ?_
      refine XR.rd rfl rfl rfl (Reads.max rfl rfl) ?_
      rw [show max (x.acked : Int) p.ack = ((max x.acked p.ack.toNat : Nat) : Int) by omega]
      refine XR.rd rfl rfl rfl (Reads.nilCheck rfl) ?_
      refine XR.rd rfl rfl rfl (fa69_3 rfl) ?_
      refine XR.store 1 rfl rfl z3 rfl rfl rfl rfl (by rw [List.size_toArray, rC_len]; decide) (.inl rfl) ?_
      refine XR.own_eq (congrArg (fun c => _ :: some (b, Obj.cells c 69 (0, 0)) :: _) ((rC_acked x r (max x.acked p.ack.toNat)).trans (congrArg List.toArray (rC_take x p r)))) ?_
      refine XR.own_eq (L' := some (b3, .cells #[.int .i64 p.ser, .int .i64 p.ack, .string p.body, .string p.sl] 24 (0, 0)) :: refL b (takeF x p) r ++ Lf) rfl ?_
      refine XR.nil ?_
      refine XQ.then_normal ?_
      refine XC.seq ?_
      refine XC.seq ?_
      refine XC.draw m_mixed none (.pure 0 (.pure 1 (.pure 2 (.pure 3 (.pure 4 (.pure 5 (.pure 6 (.pure 7 (.pure 8 (.pure 9 (.pure 10 (.pure 11 (.pure 12 (.pure 13 (.pure 14 (.pure 15 (.pure 16 (.pure 17 (.pure 18 (.pure 19 (.pure 20 (.pure 21 (.pure 22 (.pure 23 (.pure 24 (.pure 25 (.pure 26 (.done)))))))))))))))))))))))))))) _ (by kernel_rfl) (List.Sublist.refl _) ?_
      refine XR.rd rfl rfl rfl (fa24_0 rfl) ?_
      refine XR.rd rfl rfl rfl (Reads.load_own k3 rfl (by first | exact OwnAt.of 0 rfl rfl | exact OwnAt.of 1 rfl rfl | exact OwnAt.of 2 rfl rfl | exact OwnAt.of 3 rfl rfl | exact OwnAt.of 4 rfl rfl | exact OwnAt.of 5 rfl rfl)) ?_
      refine XR.rd rfl rfl rfl (Reads.move rfl) ?_
      refine XR.rd rfl rfl rfl (Reads.nilCheck rfl) ?_
      refine XR.rd rfl rfl rfl (fa69_4 rfl) ?_
      refine XR.rd rfl rfl rfl (Reads.load_own (v := .int .i64 (x.got : Int)) k3 rfl (OwnAt.of 1 rfl rfl)) ?_
      refine XR.rd rfl rfl rfl (Reads.cmp rfl rfl rfl) ?_
      refine XR.rd rfl rfl rfl (Reads.move rfl) ?_
      refine XR.split (d := 41) rfl (fun h3 => ?_) (fun h3 => ?_)
      · skip
        simp only [cmpInt, decide_eq_true_eq] at h3
        refine XR.rd rfl (wg rfl rfl rfl) rfl (fa24_0 rfl) ?_
        refine XR.rd rfl (wg rfl rfl rfl) rfl (Reads.load_own k3 rfl (by first | exact OwnAt.of 0 rfl rfl | exact OwnAt.of 1 rfl rfl | exact OwnAt.of 2 rfl rfl | exact OwnAt.of 3 rfl rfl | exact OwnAt.of 4 rfl rfl | exact OwnAt.of 5 rfl rfl)) ?_
        refine XR.rd rfl (wg rfl rfl rfl) rfl (Reads.move rfl) ?_
        refine XR.rd rfl (wg rfl rfl rfl) rfl (Reads.nilCheck rfl) ?_
        refine XR.rd rfl (wg rfl rfl rfl) rfl (fa69_4 rfl) ?_
        refine XR.rd rfl (wg rfl rfl rfl) rfl (Reads.load_own (v := .int .i64 (x.got : Int)) k3 rfl (OwnAt.of 1 rfl rfl)) ?_
        refine XR.rd rfl (wg rfl rfl rfl) rfl (Reads.add rfl rfl (by omega)) ?_
        refine XR.rd rfl (wg rfl rfl rfl) rfl (Reads.cmp rfl rfl rfl) ?_
        refine XR.rd rfl rfl rfl (Reads.pick_true rfl rfl) ?_
        refine XR.rd rfl rfl rfl (Reads.move rfl) ?_
        refine XR.split (d := 51) rfl (fun h4 => ?_) (fun h4 => ?_)
        · skip
          simp only [cmpInt, decide_eq_true_eq] at h4
          refine XR.rd rfl (wg rfl rfl rfl) rfl (Reads.move rfl) ?_
          refine XR.rd rfl (wg rfl rfl rfl) rfl (fa24_0 rfl) ?_
          refine XR.rd rfl (wg rfl rfl rfl) rfl (Reads.load_own k3 rfl (by first | exact OwnAt.of 0 rfl rfl | exact OwnAt.of 1 rfl rfl | exact OwnAt.of 2 rfl rfl | exact OwnAt.of 3 rfl rfl | exact OwnAt.of 4 rfl rfl | exact OwnAt.of 5 rfl rfl)) ?_
          refine XR.rd rfl (wg rfl rfl rfl) rfl (Reads.nilCheck rfl) ?_
          refine XR.rd rfl (wg rfl rfl rfl) rfl (fa69_6 rfl) ?_
          refine XR.rd rfl (wg rfl rfl rfl) rfl (Reads.index_arr_own (q := 106 + p.ser.toNat) Tryd.underlying67 z4 rfl rfl (by omega) (by omega)) ?_
          refine XR.rd rfl (wg rfl rfl rfl) rfl (Reads.load_own (v := .bool (r.H p.ser.toNat)) k4 rfl (OwnAt.of 1 rfl (rC_H (by omega)))) ?_
          refine XR.rd rfl (wg rfl rfl rfl) rfl (Reads.not rfl) ?_
          refine XR.rd rfl rfl rfl (Reads.pick_true rfl rfl) ?_
          refine XR.nil ?_
          refine XQ.then_normal ?_
          refine XC.cond rfl (fun h5 => ?_) (fun h5 => ?_)
          · skip
            simp only [Bool.not_eq_true'] at h5
            rw [hR.has _ (by omega) (by omega), Option.isSome_eq_false_iff, Option.isNone_iff_eq_none] at h5
            have hy : x.early p.ser.toNat = none ∧ x.got + 1 ≤ p.ser ∧ p.ser ≤ x.got + 4 := ⟨h5, by omega, by omega⟩
            refine XC.seq ?_
            refine XC.weaken (E' := [(0, _), (3, _)]) ⟨rfl, rfl, trivial⟩ ?_
            refine XC.draw m_mixed (some 6) (.pure 0 (.pure 1 (.pure 2 (.pure 3 (.pure 4 (.pure 5 (.eff 6 (.done)))))))) _ (by kernel_rfl) (List.Sublist.refl _) ?_
            refine XR.rd rfl rfl rfl (Reads.move rfl) ?_
            refine XR.rd rfl rfl rfl (fa24_0 rfl) ?_
            refine XR.rd rfl rfl rfl (Reads.load_own k3 rfl (by first | exact OwnAt.of 0 rfl rfl | exact OwnAt.of 1 rfl rfl | exact OwnAt.of 2 rfl rfl | exact OwnAt.of 3 rfl rfl | exact OwnAt.of 4 rfl rfl | exact OwnAt.of 5 rfl rfl)) ?_
            refine XR.rd rfl rfl rfl (Reads.nilCheck rfl) ?_
            refine XR.rd rfl rfl rfl (fa69_6 rfl) ?_
            refine XR.rd rfl rfl rfl (Reads.index_arr_own (q := 106 + p.ser.toNat) Tryd.underlying67 z4 rfl rfl (by omega) (by omega)) ?_
            refine XR.store 1 rfl rfl z4 rfl rfl rfl rfl (by rw [List.size_toArray, rC_len]; omega) (.inl rfl) ?_
            refine XR.own_eq (congrArg (fun c => _ :: some (b, Obj.cells c 69 (0, 0)) :: _) (rC_setH (x := (takeF x p)) (r := r) (i := p.ser.toNat) true)) ?_
            refine XR.nil ?_
            refine XQ.then_normal ?_
            refine XC.draw m_mixed (some 8) (.pure 0 (.pure 1 (.pure 2 (.pure 3 (.pure 4 (.pure 5 (.pure 6 (.pure 7 (.eff 8 (.done)))))))))) _ (by kernel_rfl) (List.Sublist.refl _) ?_
            refine XR.rd rfl rfl rfl (Reads.move rfl) ?_
            refine XR.rd rfl rfl rfl (fa24_0 rfl) ?_
            refine XR.rd rfl rfl rfl (Reads.load_own k3 rfl (by first | exact OwnAt.of 0 rfl rfl | exact OwnAt.of 1 rfl rfl | exact OwnAt.of 2 rfl rfl | exact OwnAt.of 3 rfl rfl | exact OwnAt.of 4 rfl rfl | exact OwnAt.of 5 rfl rfl)) ?_
            refine XR.rd rfl rfl rfl (fa24_2 rfl) ?_
            refine XR.rd rfl rfl rfl (Reads.load_own k9 rfl (by first | exact OwnAt.of 0 rfl rfl | exact OwnAt.of 1 rfl rfl | exact OwnAt.of 2 rfl rfl | exact OwnAt.of 3 rfl rfl | exact OwnAt.of 4 rfl rfl | exact OwnAt.of 5 rfl rfl)) ?_
            refine XR.rd rfl rfl rfl (Reads.nilCheck rfl) ?_
            refine XR.rd rfl rfl rfl (fa69_5 rfl) ?_
            refine XR.rd rfl rfl rfl (Reads.index_arr_own (q := 5 + p.ser.toNat) Tryd.underlying66 z9 rfl rfl (by omega) (by omega)) ?_
            refine XR.store 1 rfl rfl z9 rfl rfl rfl rfl (by rw [List.size_toArray, rC_len]; omega) (.inl rfl) ?_
            refine XR.own_eq (congrArg (fun c => _ :: some (b, Obj.cells c 69 (0, 0)) :: _) (rC_setE (x := (takeF x p)) (r := { r with H := upd1 r.H p.ser.toNat true }) (i := p.ser.toNat) (by omega) p.body)) ?_
            have hR2 := hR.put hf (by omega) hy
            obtain ⟨r2, hr2⟩ : ∃ r2 : RH, r2 = { r with H := upd1 r.H p.ser.toNat true, E := upd1 r.E p.ser.toNat p.body } := ⟨_, rfl⟩
            refine XR.own_eq (L' := some (b3, .cells #[.int .i64 p.ser, .int .i64 p.ack, .string p.body, .string p.sl] 24 (0, 0)) :: refL b (takeF x p) { r with H := upd1 r.H p.ser.toNat true, E := upd1 r.E p.ser.toNat p.body } ++ Lf) rfl ?_
            rw [← hr2] at hR2 ⊢
            refine XR.nil ?_
            refine XQ.then_normal ?_
            refine XC.seq ?_
            refine XC.region ?_
            refine XO.rd rfl rfl rfl (Reads.assign rfl) ?_
            refine XO.nil ?_
            refine XQ.then_normal ?_
            refine XC.seq ?_
            refine XC.block ?_
            refine XC.vec0 9 ?_
            refine XC.loop (ι := Nat × LEnd × List ByteArray × Vec) (fun q => [(0, .pointer (some ⟨b, 0, none⟩)), (6, q.2.2.2.val)]) (fun q => I) (fun q => q.2.2.2.ent 9 :: some (b3, .cells #[.int .i64 p.ser, .int .i64 p.ack, .string p.body, .string p.sl] 24 (0, 0)) :: refL b q.2.1 r2 ++ Lf) (fun q => Mid (takeF x p) q.1 q.2.1 q.2.2.1 ∧ q.2.2.2.Is 1 (strC q.2.2.1) ∧ RIs q.2.1 r2) (fun q => q.1) (101, (takeF x p), [], Vec.nil) ⟨Mid.start hR2.ok, Vec.nil_is 1, hR2⟩ ⟨rfl, rfl, trivial⟩ rfl (List.Perm.refl _) (fun q hq => ?_)
            obtain ⟨f, y, ms, V⟩ := q
            obtain ⟨hM, hV, hRy⟩ := hq
            simp only at hM hV hRy ⊢
            have hfew := hM.few
            have hyg := hM.ok.got
            have hVl : V.len = ms.length := by have := hV.len; rw [strC_len] at this; omega
            refine XC.seq ?_
            refine XC.seq ?_
            refine XC.draw m_mixed none (.pure 0 (.pure 1 (.pure 2 (.pure 3 (.pure 4 (.pure 5 (.pure 6 (.pure 7 (.pure 8 (.pure 9 (.pure 10 (.pure 11 (.pure 12 (.pure 13 (.pure 14 (.pure 15 (.pure 16 (.done)))))))))))))))))) _ (by kernel_rfl) (List.Sublist.refl _) ?_
            refine XR.rd rfl rfl rfl (Reads.move rfl) ?_
            refine XR.rd rfl rfl rfl (Reads.nilCheck rfl) ?_
            refine XR.rd rfl rfl rfl (fa69_4 rfl) ?_
            refine XR.rd rfl rfl rfl (Reads.load_own (v := .int .i64 (y.got : Int)) k3 rfl (OwnAt.of 2 rfl rfl)) ?_
            refine XR.rd rfl rfl rfl (Reads.cmp rfl rfl rfl) ?_
            refine XR.rd rfl rfl rfl (Reads.move rfl) ?_
            refine XR.split (d := 80) rfl (fun h6 => ?_) (fun h6 => ?_)
            · skip
              simp only [cmpInt, decide_eq_true_eq] at h6
              refine XR.rd rfl (wg rfl rfl rfl) rfl (Reads.move rfl) ?_
              refine XR.rd rfl (wg rfl rfl rfl) rfl (Reads.move rfl) ?_
              refine XR.rd rfl (wg rfl rfl rfl) rfl (Reads.nilCheck rfl) ?_
              refine XR.rd rfl (wg rfl rfl rfl) rfl (fa69_4 rfl) ?_
              refine XR.rd rfl (wg rfl rfl rfl) rfl (Reads.load_own (v := .int .i64 (y.got : Int)) k3 rfl (OwnAt.of 2 rfl rfl)) ?_
              refine XR.rd rfl (wg rfl rfl rfl) rfl (Reads.add rfl rfl (by omega)) ?_
              refine XR.rd rfl (wg rfl rfl rfl) rfl (Reads.nilCheck rfl) ?_
              refine XR.rd rfl (wg rfl rfl rfl) rfl (fa69_6 rfl) ?_
              refine XR.rd rfl (wg rfl rfl rfl) rfl (Reads.index_arr_own (q := 106 + (y.got + 1)) Tryd.underlying67 z4 rfl rfl (by omega) (by omega)) ?_
              refine XR.rd rfl (wg rfl rfl rfl) rfl (Reads.load_own (v := .bool (r2.H (y.got + 1))) k4 rfl (OwnAt.of 2 rfl (rC_H (by omega)))) ?_
              refine XR.rd rfl rfl rfl (Reads.pick_true rfl rfl) ?_
              refine XR.nil ?_
              refine XQ.then_normal ?_
              refine XC.cond rfl (fun h7 => ?_) (fun h7 => ?_)
              · skip
                rw [hRy.has _ (by omega) (by omega), Option.isSome_iff_exists] at h7
                obtain ⟨s, hs⟩ := h7
                obtain ⟨f2, rfl, hM2⟩ := hM.next hs
                refine XC.skip ?_
                refine XQ.then_normal ?_
                refine XC.block ?_
                refine XC.seq ?_
                refine XC.region ?_
                refine XO.rd rfl rfl rfl (Reads.move rfl) ?_
                refine XO.rd rfl rfl rfl (Reads.nilCheck rfl) ?_
                refine XO.rd rfl rfl rfl (fa69_4 rfl) ?_
                refine XO.rd rfl rfl rfl (Reads.load_own (v := .int .i64 (y.got : Int)) k3 rfl (OwnAt.of 2 rfl rfl)) ?_
                refine XO.rd rfl rfl rfl (Reads.add rfl rfl (by omega)) ?_
                rw [show (y.got : Int) + 1 = ((y.got + 1 : Nat) : Int) by omega]
                refine XO.rd rfl rfl rfl (Reads.nilCheck rfl) ?_
                refine XO.rd rfl rfl rfl (fa69_4 rfl) ?_
                refine XO.store 2 rfl z3 rfl rfl rfl rfl (by rw [List.size_toArray, rC_len]; decide) ?_
                refine XO.own_eq (congrArg (fun c => _ :: _ :: some (b, Obj.cells c 69 (0, 0)) :: _) ((rC_got y r2 (y.got + 1)).trans (congrArg List.toArray (rC_next y r2)))) ?_
                refine XO.own_eq (L' := V.ent 9 :: some (b3, .cells #[.int .i64 p.ser, .int .i64 p.ack, .string p.body, .string p.sl] 24 (0, 0)) :: refL b y.next r2 ++ Lf) rfl ?_
                refine XO.nil ?_
                refine XQ.then_normal ?_
                refine XC.draw m_mixed none (.pure 0 (.pure 1 (.pure 2 (.pure 3 (.pure 4 (.pure 5 (.pure 6 (.pure 7 (.pure 8 (.pure 9 (.eff 10 (.eff 11 (.pure 12 (.done)))))))))))))) [some (b, .cells (rC y.next r2).toArray 69 (0, 0))] (by kernel_rfl) (List.Sublist.cons _ (List.Sublist.cons _ (List.Sublist.cons_cons _ (List.nil_sublist _)))) ?_
                refine XR.rd rfl rfl rfl (Reads.move rfl) ?_
                refine XR.rd rfl rfl rfl (Reads.move rfl) ?_
                refine XR.rd rfl rfl rfl (Reads.move rfl) ?_
                refine XR.rd rfl rfl rfl (Reads.nilCheck rfl) ?_
                refine XR.rd rfl rfl rfl (fa69_4 rfl) ?_
                refine XR.rd rfl rfl rfl (Reads.load_own (v := .int .i64 ((y.got + 1 : Nat) : Int)) k3 rfl (OwnAt.of 0 rfl rfl)) ?_
                refine XR.rd rfl rfl rfl (Reads.nilCheck rfl) ?_
                refine XR.rd rfl rfl rfl (fa69_5 rfl) ?_
                refine XR.rd rfl rfl rfl (Reads.index_arr_own (q := 5 + (y.got + 1)) Tryd.underlying66 z9 rfl rfl (by omega) (by omega)) ?_
                refine XR.rd rfl rfl rfl (Reads.load_own (v := .string (r2.E (y.got + 1))) k9 rfl (OwnAt.of 0 rfl (rC_E (by omega)))) ?_
                rw [hRy.body _ s (by omega) hs]
                refine XR.buildL [.string s] [.string s] rfl rfl rfl Tryd.underlying44 el9 rfl (by simp) ⟨rfl, rfl, trivial⟩ rfl rfl (List.Sublist.cons _ (List.Sublist.cons _ (List.Sublist.cons_cons _ (List.nil_sublist _)))) (fun bu => ?_)
                refine XR.append (V := V) (news := strC [s]) 1 rfl rfl rfl Tryd.underlying44 el9 rfl rfl hV rfl (.slice Tryd.underlying44 (.inr (.inr ⟨bu, 0, rfl, fun jj v hj => ⟨([Value.string s]).toArray, 9, (0, 0), List.Mem.head _, by simpa [strC] using hj⟩⟩)) rfl (strC_one _)) (by omega) (by omega) ?_
                intro V' hV' hVl'
                refine ⟨.inr (List.Sublist.cons _ (List.Sublist.cons _ (List.Sublist.cons _ (List.Sublist.cons_cons _ (List.nil_sublist _))))), ?_⟩
                refine XR.rd rfl rfl rfl (Reads.assign rfl) ?_
                refine XR.nil ?_
                refine XQ.block_normal ?_
                refine XQ.dropn 1 ?_
                refine XQ.back (f2, y.next, ms ++ [s], V') ⟨hM2, by rw [strC_append]; exact hV', hRy.next hM2.ok⟩ (Nat.lt_succ_self _) ⟨rfl, rfl, trivial⟩ rfl (List.Perm.refl _)
              · skip
                rw [hRy.has _ (by omega) (by omega), Option.isSome_eq_false_iff, Option.isNone_iff_eq_none] at h7
                have hin := hM.done h7 hgen (by omega)
                refine XC.exit ?_
                refine XQ.then_exit ?_
                refine XQ.then_exit ?_
                refine XQ.block_exit ?_
                refine XQ.then_normal ?_
                refine XC.seq ?_
                refine XC.region ?_
                refine XO.rd rfl rfl rfl (Reads.move rfl) ?_
                refine XO.rd rfl rfl rfl (Reads.assign rfl) ?_
                refine XO.rd rfl rfl rfl (Reads.assign rfl) ?_
                refine XO.nil ?_
                refine XQ.then_normal ?_
                refine XC.ret ?_
                rw [hin]
                refine XQ.drop (L' := V.ent 9 :: refL b y r2 ++ Lf) (List.Sublist.cons_cons _ (List.Sublist.cons _ (List.Sublist.refl _))) ?_
                refine XQ.done2 (L := V.ent 9 :: refL b y r2) rfl rfl rfl (Im.le_refl _) ?_
                exact ⟨V, r2, rfl, rfl, rfl, hV, hVl, hRy⟩
            · skip
              simp only [cmpInt, decide_eq_false_iff_not] at h6
              have hno : y.early (y.got + 1) = none := by
                cases hc : y.early (y.got + 1) with
                | none => rfl
                | some s => have h9 := (hM.ok.early _ _ hc).2.1; omega
              have hin := hM.done hno hgen (by omega)
              refine XR.s rfl (wg rfl rfl rfl) rfl ?_
              refine XR.s rfl (wg rfl rfl rfl) rfl ?_
              refine XR.s rfl (wg rfl rfl rfl) rfl ?_
              refine XR.s rfl (wg rfl rfl rfl) rfl ?_
              refine XR.s rfl (wg rfl rfl rfl) rfl ?_
              refine XR.s rfl (wg rfl rfl rfl) rfl ?_
              refine XR.s rfl (wg rfl rfl rfl) rfl ?_
              refine XR.s rfl (wg rfl rfl rfl) rfl ?_
              refine XR.s rfl (wg rfl rfl rfl) rfl ?_
              refine XR.s rfl (wg rfl rfl rfl) rfl ?_
              refine XR.rd rfl rfl rfl (Reads.pick_false rfl rfl) ?_
              refine XR.nil ?_
              refine XQ.then_normal ?_
              refine XC.cond rfl (fun hx => by cases hx) (fun _ => ?_)
              refine XC.exit ?_
              refine XQ.then_exit ?_
              refine XQ.then_exit ?_
              refine XQ.block_exit ?_
              refine XQ.then_normal ?_
              refine XC.seq ?_
              refine XC.region ?_
              refine XO.rd rfl rfl rfl (Reads.move rfl) ?_
              refine XO.rd rfl rfl rfl (Reads.assign rfl) ?_
              refine XO.rd rfl rfl rfl (Reads.assign rfl) ?_
              refine XO.nil ?_
              refine XQ.then_normal ?_
              refine XC.ret ?_
              rw [hin]
              refine XQ.drop (L' := V.ent 9 :: refL b y r2 ++ Lf) (List.Sublist.cons_cons _ (List.Sublist.cons _ (List.Sublist.refl _))) ?_
              refine XQ.done2 (L := V.ent 9 :: refL b y r2) rfl rfl rfl (Im.le_refl _) ?_
              exact ⟨V, r2, rfl, rfl, rfl, hV, hVl, hRy⟩
          · skip
            simp only [Bool.not_eq_false'] at h5
            rw [hR.has _ (by omega) (by omega), Option.isSome_iff_exists] at h5
            have hR2 := hR.skip hf (by omega) (fun hh => by obtain ⟨s9, hs9⟩ := h5; rw [hh.1] at hs9; cases hs9)
            obtain ⟨r2, hr2⟩ : ∃ r2, r2 = r := ⟨r, rfl⟩
            rw [← hr2] at hR2 ⊢
            refine XC.skip ?_
            refine XQ.then_normal ?_
            refine XC.seq ?_
            refine XC.weaken (E' := [(0, _)]) ⟨rfl, trivial⟩ ?_
            refine XC.region ?_
            refine XO.rd rfl rfl rfl (Reads.assign rfl) ?_
            refine XO.nil ?_
            refine XQ.then_normal ?_
            refine XC.seq ?_
            refine XC.block ?_
            refine XC.vec0 9 ?_
            refine XC.loop (ι := Nat × LEnd × List ByteArray × Vec) (fun q => [(0, .pointer (some ⟨b, 0, none⟩)), (6, q.2.2.2.val)]) (fun q => I) (fun q => q.2.2.2.ent 9 :: some (b3, .cells #[.int .i64 p.ser, .int .i64 p.ack, .string p.body, .string p.sl] 24 (0, 0)) :: refL b q.2.1 r2 ++ Lf) (fun q => Mid (takeF x p) q.1 q.2.1 q.2.2.1 ∧ q.2.2.2.Is 1 (strC q.2.2.1) ∧ RIs q.2.1 r2) (fun q => q.1) (101, (takeF x p), [], Vec.nil) ⟨Mid.start hR2.ok, Vec.nil_is 1, hR2⟩ ⟨rfl, rfl, trivial⟩ rfl (List.Perm.refl _) (fun q hq => ?_)
            obtain ⟨f, y, ms, V⟩ := q
            obtain ⟨hM, hV, hRy⟩ := hq
            simp only at hM hV hRy ⊢
            have hfew := hM.few
            have hyg := hM.ok.got
            have hVl : V.len = ms.length := by have := hV.len; rw [strC_len] at this; omega
            refine XC.seq ?_
            refine XC.seq ?_
            refine XC.draw m_mixed none (.pure 0 (.pure 1 (.pure 2 (.pure 3 (.pure 4 (.pure 5 (.pure 6 (.pure 7 (.pure 8 (.pure 9 (.pure 10 (.pure 11 (.pure 12 (.pure 13 (.pure 14 (.pure 15 (.pure 16 (.done)))))))))))))))))) _ (by kernel_rfl) (List.Sublist.refl _) ?_
            refine XR.rd rfl rfl rfl (Reads.move rfl) ?_
            refine XR.rd rfl rfl rfl (Reads.nilCheck rfl) ?_
            refine XR.rd rfl rfl rfl (fa69_4 rfl) ?_
            refine XR.rd rfl rfl rfl (Reads.load_own (v := .int .i64 (y.got : Int)) k3 rfl (OwnAt.of 2 rfl rfl)) ?_
            refine XR.rd rfl rfl rfl (Reads.cmp rfl rfl rfl) ?_
            refine XR.rd rfl rfl rfl (Reads.move rfl) ?_
            refine XR.split (d := 80) rfl (fun h8 => ?_) (fun h8 => ?_)
            · skip
              simp only [cmpInt, decide_eq_true_eq] at h8
              refine XR.rd rfl (wg rfl rfl rfl) rfl (Reads.move rfl) ?_
              refine XR.rd rfl (wg rfl rfl rfl) rfl (Reads.move rfl) ?_
              refine XR.rd rfl (wg rfl rfl rfl) rfl (Reads.nilCheck rfl) ?_
              refine XR.rd rfl (wg rfl rfl rfl) rfl (fa69_4 rfl) ?_
              refine XR.rd rfl (wg rfl rfl rfl) rfl (Reads.load_own (v := .int .i64 (y.got : Int)) k3 rfl (OwnAt.of 2 rfl rfl)) ?_
              refine XR.rd rfl (wg rfl rfl rfl) rfl (Reads.add rfl rfl (by omega)) ?_
              refine XR.rd rfl (wg rfl rfl rfl) rfl (Reads.nilCheck rfl) ?_
              refine XR.rd rfl (wg rfl rfl rfl) rfl (fa69_6 rfl) ?_
              refine XR.rd rfl (wg rfl rfl rfl) rfl (Reads.index_arr_own (q := 106 + (y.got + 1)) Tryd.underlying67 z4 rfl rfl (by omega) (by omega)) ?_
              refine XR.rd rfl (wg rfl rfl rfl) rfl (Reads.load_own (v := .bool (r2.H (y.got + 1))) k4 rfl (OwnAt.of 2 rfl (rC_H (by omega)))) ?_
              refine XR.rd rfl rfl rfl (Reads.pick_true rfl rfl) ?_
              refine XR.nil ?_
              refine XQ.then_normal ?_
              refine XC.cond rfl (fun h9 => ?_) (fun h9 => ?_)
              · skip
                rw [hRy.has _ (by omega) (by omega), Option.isSome_iff_exists] at h9
                obtain ⟨s, hs⟩ := h9
                obtain ⟨f2, rfl, hM2⟩ := hM.next hs
                refine XC.skip ?_
                refine XQ.then_normal ?_
                refine XC.block ?_
                refine XC.seq ?_
                refine XC.region ?_
                refine XO.rd rfl rfl rfl (Reads.move rfl) ?_
                refine XO.rd rfl rfl rfl (Reads.nilCheck rfl) ?_
                refine XO.rd rfl rfl rfl (fa69_4 rfl) ?_
                refine XO.rd rfl rfl rfl (Reads.load_own (v := .int .i64 (y.got : Int)) k3 rfl (OwnAt.of 2 rfl rfl)) ?_
                refine XO.rd rfl rfl rfl (Reads.add rfl rfl (by omega)) ?_
                rw [show (y.got : Int) + 1 = ((y.got + 1 : Nat) : Int) by omega]
                refine XO.rd rfl rfl rfl (Reads.nilCheck rfl) ?_
                refine XO.rd rfl rfl rfl (fa69_4 rfl) ?_
                refine XO.store 2 rfl z3 rfl rfl rfl rfl (by rw [List.size_toArray, rC_len]; decide) ?_
                refine XO.own_eq (congrArg (fun c => _ :: _ :: some (b, Obj.cells c 69 (0, 0)) :: _) ((rC_got y r2 (y.got + 1)).trans (congrArg List.toArray (rC_next y r2)))) ?_
                refine XO.own_eq (L' := V.ent 9 :: some (b3, .cells #[.int .i64 p.ser, .int .i64 p.ack, .string p.body, .string p.sl] 24 (0, 0)) :: refL b y.next r2 ++ Lf) rfl ?_
                refine XO.nil ?_
                refine XQ.then_normal ?_
                refine XC.draw m_mixed none (.pure 0 (.pure 1 (.pure 2 (.pure 3 (.pure 4 (.pure 5 (.pure 6 (.pure 7 (.pure 8 (.pure 9 (.eff 10 (.eff 11 (.pure 12 (.done)))))))))))))) [some (b, .cells (rC y.next r2).toArray 69 (0, 0))] (by kernel_rfl) (List.Sublist.cons _ (List.Sublist.cons _ (List.Sublist.cons_cons _ (List.nil_sublist _)))) ?_
                refine XR.rd rfl rfl rfl (Reads.move rfl) ?_
                refine XR.rd rfl rfl rfl (Reads.move rfl) ?_
                refine XR.rd rfl rfl rfl (Reads.move rfl) ?_
                refine XR.rd rfl rfl rfl (Reads.nilCheck rfl) ?_
                refine XR.rd rfl rfl rfl (fa69_4 rfl) ?_
                refine XR.rd rfl rfl rfl (Reads.load_own (v := .int .i64 ((y.got + 1 : Nat) : Int)) k3 rfl (OwnAt.of 0 rfl rfl)) ?_
                refine XR.rd rfl rfl rfl (Reads.nilCheck rfl) ?_
                refine XR.rd rfl rfl rfl (fa69_5 rfl) ?_
                refine XR.rd rfl rfl rfl (Reads.index_arr_own (q := 5 + (y.got + 1)) Tryd.underlying66 z9 rfl rfl (by omega) (by omega)) ?_
                refine XR.rd rfl rfl rfl (Reads.load_own (v := .string (r2.E (y.got + 1))) k9 rfl (OwnAt.of 0 rfl (rC_E (by omega)))) ?_
                rw [hRy.body _ s (by omega) hs]
                refine XR.buildL [.string s] [.string s] rfl rfl rfl Tryd.underlying44 el9 rfl (by simp) ⟨rfl, rfl, trivial⟩ rfl rfl (List.Sublist.cons _ (List.Sublist.cons _ (List.Sublist.cons_cons _ (List.nil_sublist _)))) (fun bu => ?_)
                refine XR.append (V := V) (news := strC [s]) 1 rfl rfl rfl Tryd.underlying44 el9 rfl rfl hV rfl (.slice Tryd.underlying44 (.inr (.inr ⟨bu, 0, rfl, fun jj v hj => ⟨([Value.string s]).toArray, 9, (0, 0), List.Mem.head _, by simpa [strC] using hj⟩⟩)) rfl (strC_one _)) (by omega) (by omega) ?_
                intro V' hV' hVl'
                refine ⟨.inr (List.Sublist.cons _ (List.Sublist.cons _ (List.Sublist.cons _ (List.Sublist.cons_cons _ (List.nil_sublist _))))), ?_⟩
                refine XR.rd rfl rfl rfl (Reads.assign rfl) ?_
                refine XR.nil ?_
                refine XQ.block_normal ?_
                refine XQ.dropn 1 ?_
                refine XQ.back (f2, y.next, ms ++ [s], V') ⟨hM2, by rw [strC_append]; exact hV', hRy.next hM2.ok⟩ (Nat.lt_succ_self _) ⟨rfl, rfl, trivial⟩ rfl (List.Perm.refl _)
              · skip
                rw [hRy.has _ (by omega) (by omega), Option.isSome_eq_false_iff, Option.isNone_iff_eq_none] at h9
                have hin := hM.done h9 hgen (by omega)
                refine XC.exit ?_
                refine XQ.then_exit ?_
                refine XQ.then_exit ?_
                refine XQ.block_exit ?_
                refine XQ.then_normal ?_
                refine XC.seq ?_
                refine XC.region ?_
                refine XO.rd rfl rfl rfl (Reads.move rfl) ?_
                refine XO.rd rfl rfl rfl (Reads.assign rfl) ?_
                refine XO.rd rfl rfl rfl (Reads.assign rfl) ?_
                refine XO.nil ?_
                refine XQ.then_normal ?_
                refine XC.ret ?_
                rw [hin]
                refine XQ.drop (L' := V.ent 9 :: refL b y r2 ++ Lf) (List.Sublist.cons_cons _ (List.Sublist.cons _ (List.Sublist.refl _))) ?_
                refine XQ.done2 (L := V.ent 9 :: refL b y r2) rfl rfl rfl (Im.le_refl _) ?_
                exact ⟨V, r2, rfl, rfl, rfl, hV, hVl, hRy⟩
            · skip
              simp only [cmpInt, decide_eq_false_iff_not] at h8
              have hno : y.early (y.got + 1) = none := by
                cases hc : y.early (y.got + 1) with
                | none => rfl
                | some s => have h9 := (hM.ok.early _ _ hc).2.1; omega
              have hin := hM.done hno hgen (by omega)
              refine XR.s rfl (wg rfl rfl rfl) rfl ?_
              refine XR.s rfl (wg rfl rfl rfl) rfl ?_
              refine XR.s rfl (wg rfl rfl rfl) rfl ?_
              refine XR.s rfl (wg rfl rfl rfl) rfl ?_
              refine XR.s rfl (wg rfl rfl rfl) rfl ?_
              refine XR.s rfl (wg rfl rfl rfl) rfl ?_
              refine XR.s rfl (wg rfl rfl rfl) rfl ?_
              refine XR.s rfl (wg rfl rfl rfl) rfl ?_
              refine XR.s rfl (wg rfl rfl rfl) rfl ?_
              refine XR.s rfl (wg rfl rfl rfl) rfl ?_
              refine XR.rd rfl rfl rfl (Reads.pick_false rfl rfl) ?_
              refine XR.nil ?_
              refine XQ.then_normal ?_
              refine XC.cond rfl (fun hx => by cases hx) (fun _ => ?_)
              refine XC.exit ?_
              refine XQ.then_exit ?_
              refine XQ.then_exit ?_
              refine XQ.block_exit ?_
              refine XQ.then_normal ?_
              refine XC.seq ?_
              refine XC.region ?_
              refine XO.rd rfl rfl rfl (Reads.move rfl) ?_
              refine XO.rd rfl rfl rfl (Reads.assign rfl) ?_
              refine XO.rd rfl rfl rfl (Reads.assign rfl) ?_
              refine XO.nil ?_
              refine XQ.then_normal ?_
              refine XC.ret ?_
              rw [hin]
              refine XQ.drop (L' := V.ent 9 :: refL b y r2 ++ Lf) (List.Sublist.cons_cons _ (List.Sublist.cons _ (List.Sublist.refl _))) ?_
              refine XQ.done2 (L := V.ent 9 :: refL b y r2) rfl rfl rfl (Im.le_refl _) ?_
              exact ⟨V, r2, rfl, rfl, rfl, hV, hVl, hRy⟩
        · skip
          simp only [cmpInt, decide_eq_false_iff_not] at h4
          have hR2 := hR.skip hf (by omega) (fun hh => by omega)
          obtain ⟨r2, hr2⟩ : ∃ r2, r2 = r := ⟨r, rfl⟩
          rw [← hr2] at hR2 ⊢
          refine XR.s rfl (wg rfl rfl rfl) rfl ?_
          refine XR.s rfl (wg rfl rfl rfl) rfl ?_
          refine XR.s rfl (wg rfl rfl rfl) rfl ?_
          refine XR.s rfl (wg rfl rfl rfl) rfl ?_
          refine XR.s rfl (wg rfl rfl rfl) rfl ?_
          refine XR.s rfl (wg rfl rfl rfl) rfl ?_
          refine XR.s rfl (wg rfl rfl rfl) rfl ?_
          refine XR.s rfl (wg rfl rfl rfl) rfl ?_
          refine XR.rd rfl rfl rfl (Reads.pick_false rfl rfl) ?_
          refine XR.nil ?_
          refine XQ.then_normal ?_
          refine XC.cond rfl (fun hx => by cases hx) (fun _ => ?_)
          refine XC.skip ?_
          refine XQ.then_normal ?_
          refine XC.seq ?_
          refine XC.weaken (E' := [(0, _)]) ⟨rfl, trivial⟩ ?_
          refine XC.region ?_
          refine XO.rd rfl rfl rfl (Reads.assign rfl) ?_
          refine XO.nil ?_
          refine XQ.then_normal ?_
          refine XC.seq ?_
          refine XC.block ?_
          refine XC.vec0 9 ?_
          refine XC.loop (ι := Nat × LEnd × List ByteArray × Vec) (fun q => [(0, .pointer (some ⟨b, 0, none⟩)), (6, q.2.2.2.val)]) (fun q => I) (fun q => q.2.2.2.ent 9 :: some (b3, .cells #[.int .i64 p.ser, .int .i64 p.ack, .string p.body, .string p.sl] 24 (0, 0)) :: refL b q.2.1 r2 ++ Lf) (fun q => Mid (takeF x p) q.1 q.2.1 q.2.2.1 ∧ q.2.2.2.Is 1 (strC q.2.2.1) ∧ RIs q.2.1 r2) (fun q => q.1) (101, (takeF x p), [], Vec.nil) ⟨Mid.start hR2.ok, Vec.nil_is 1, hR2⟩ ⟨rfl, rfl, trivial⟩ rfl (List.Perm.refl _) (fun q hq => ?_)
          obtain ⟨f, y, ms, V⟩ := q
          obtain ⟨hM, hV, hRy⟩ := hq
          simp only at hM hV hRy ⊢
          have hfew := hM.few
          have hyg := hM.ok.got
          have hVl : V.len = ms.length := by have := hV.len; rw [strC_len] at this; omega
          refine XC.seq ?_
          refine XC.seq ?_
          refine XC.draw m_mixed none (.pure 0 (.pure 1 (.pure 2 (.pure 3 (.pure 4 (.pure 5 (.pure 6 (.pure 7 (.pure 8 (.pure 9 (.pure 10 (.pure 11 (.pure 12 (.pure 13 (.pure 14 (.pure 15 (.pure 16 (.done)))))))))))))))))) _ (by kernel_rfl) (List.Sublist.refl _) ?_
          refine XR.rd rfl rfl rfl (Reads.move rfl) ?_
          refine XR.rd rfl rfl rfl (Reads.nilCheck rfl) ?_
          refine XR.rd rfl rfl rfl (fa69_4 rfl) ?_
          refine XR.rd rfl rfl rfl (Reads.load_own (v := .int .i64 (y.got : Int)) k3 rfl (OwnAt.of 2 rfl rfl)) ?_
          refine XR.rd rfl rfl rfl (Reads.cmp rfl rfl rfl) ?_
          refine XR.rd rfl rfl rfl (Reads.move rfl) ?_
          refine XR.split (d := 80) rfl (fun h10 => ?_) (fun h10 => ?_)
          · skip
            simp only [cmpInt, decide_eq_true_eq] at h10
            refine XR.rd rfl (wg rfl rfl rfl) rfl (Reads.move rfl) ?_
            refine XR.rd rfl (wg rfl rfl rfl) rfl (Reads.move rfl) ?_
            refine XR.rd rfl (wg rfl rfl rfl) rfl (Reads.nilCheck rfl) ?_
            refine XR.rd rfl (wg rfl rfl rfl) rfl (fa69_4 rfl) ?_
            refine XR.rd rfl (wg rfl rfl rfl) rfl (Reads.load_own (v := .int .i64 (y.got : Int)) k3 rfl (OwnAt.of 2 rfl rfl)) ?_
            refine XR.rd rfl (wg rfl rfl rfl) rfl (Reads.add rfl rfl (by omega)) ?_
            refine XR.rd rfl (wg rfl rfl rfl) rfl (Reads.nilCheck rfl) ?_
            refine XR.rd rfl (wg rfl rfl rfl) rfl (fa69_6 rfl) ?_
            refine XR.rd rfl (wg rfl rfl rfl) rfl (Reads.index_arr_own (q := 106 + (y.got + 1)) Tryd.underlying67 z4 rfl rfl (by omega) (by omega)) ?_
            refine XR.rd rfl (wg rfl rfl rfl) rfl (Reads.load_own (v := .bool (r2.H (y.got + 1))) k4 rfl (OwnAt.of 2 rfl (rC_H (by omega)))) ?_
            refine XR.rd rfl rfl rfl (Reads.pick_true rfl rfl) ?_
            refine XR.nil ?_
            refine XQ.then_normal ?_
            refine XC.cond rfl (fun h11 => ?_) (fun h11 => ?_)
            · skip
              rw [hRy.has _ (by omega) (by omega), Option.isSome_iff_exists] at h11
              obtain ⟨s, hs⟩ := h11
              obtain ⟨f2, rfl, hM2⟩ := hM.next hs
              refine XC.skip ?_
              refine XQ.then_normal ?_
              refine XC.block ?_
              refine XC.seq ?_
              refine XC.region ?_
              refine XO.rd rfl rfl rfl (Reads.move rfl) ?_
              refine XO.rd rfl rfl rfl (Reads.nilCheck rfl) ?_
              refine XO.rd rfl rfl rfl (fa69_4 rfl) ?_
              refine XO.rd rfl rfl rfl (Reads.load_own (v := .int .i64 (y.got : Int)) k3 rfl (OwnAt.of 2 rfl rfl)) ?_
              refine XO.rd rfl rfl rfl (Reads.add rfl rfl (by omega)) ?_
              rw [show (y.got : Int) + 1 = ((y.got + 1 : Nat) : Int) by omega]
              refine XO.rd rfl rfl rfl (Reads.nilCheck rfl) ?_
              refine XO.rd rfl rfl rfl (fa69_4 rfl) ?_
              refine XO.store 2 rfl z3 rfl rfl rfl rfl (by rw [List.size_toArray, rC_len]; decide) ?_
              refine XO.own_eq (congrArg (fun c => _ :: _ :: some (b, Obj.cells c 69 (0, 0)) :: _) ((rC_got y r2 (y.got + 1)).trans (congrArg List.toArray (rC_next y r2)))) ?_
              refine XO.own_eq (L' := V.ent 9 :: some (b3, .cells #[.int .i64 p.ser, .int .i64 p.ack, .string p.body, .string p.sl] 24 (0, 0)) :: refL b y.next r2 ++ Lf) rfl ?_
              refine XO.nil ?_
              refine XQ.then_normal ?_
              refine XC.draw m_mixed none (.pure 0 (.pure 1 (.pure 2 (.pure 3 (.pure 4 (.pure 5 (.pure 6 (.pure 7 (.pure 8 (.pure 9 (.eff 10 (.eff 11 (.pure 12 (.done)))))))))))))) [some (b, .cells (rC y.next r2).toArray 69 (0, 0))] (by kernel_rfl) (List.Sublist.cons _ (List.Sublist.cons _ (List.Sublist.cons_cons _ (List.nil_sublist _)))) ?_
              refine XR.rd rfl rfl rfl (Reads.move rfl) ?_
              refine XR.rd rfl rfl rfl (Reads.move rfl) ?_
              refine XR.rd rfl rfl rfl (Reads.move rfl) ?_
              refine XR.rd rfl rfl rfl (Reads.nilCheck rfl) ?_
              refine XR.rd rfl rfl rfl (fa69_4 rfl) ?_
              refine XR.rd rfl rfl rfl (Reads.load_own (v := .int .i64 ((y.got + 1 : Nat) : Int)) k3 rfl (OwnAt.of 0 rfl rfl)) ?_
              refine XR.rd rfl rfl rfl (Reads.nilCheck rfl) ?_
              refine XR.rd rfl rfl rfl (fa69_5 rfl) ?_
              refine XR.rd rfl rfl rfl (Reads.index_arr_own (q := 5 + (y.got + 1)) Tryd.underlying66 z9 rfl rfl (by omega) (by omega)) ?_
              refine XR.rd rfl rfl rfl (Reads.load_own (v := .string (r2.E (y.got + 1))) k9 rfl (OwnAt.of 0 rfl (rC_E (by omega)))) ?_
              rw [hRy.body _ s (by omega) hs]
              refine XR.buildL [.string s] [.string s] rfl rfl rfl Tryd.underlying44 el9 rfl (by simp) ⟨rfl, rfl, trivial⟩ rfl rfl (List.Sublist.cons _ (List.Sublist.cons _ (List.Sublist.cons_cons _ (List.nil_sublist _)))) (fun bu => ?_)
              refine XR.append (V := V) (news := strC [s]) 1 rfl rfl rfl Tryd.underlying44 el9 rfl rfl hV rfl (.slice Tryd.underlying44 (.inr (.inr ⟨bu, 0, rfl, fun jj v hj => ⟨([Value.string s]).toArray, 9, (0, 0), List.Mem.head _, by simpa [strC] using hj⟩⟩)) rfl (strC_one _)) (by omega) (by omega) ?_
              intro V' hV' hVl'
              refine ⟨.inr (List.Sublist.cons _ (List.Sublist.cons _ (List.Sublist.cons _ (List.Sublist.cons_cons _ (List.nil_sublist _))))), ?_⟩
              refine XR.rd rfl rfl rfl (Reads.assign rfl) ?_
              refine XR.nil ?_
              refine XQ.block_normal ?_
              refine XQ.dropn 1 ?_
              refine XQ.back (f2, y.next, ms ++ [s], V') ⟨hM2, by rw [strC_append]; exact hV', hRy.next hM2.ok⟩ (Nat.lt_succ_self _) ⟨rfl, rfl, trivial⟩ rfl (List.Perm.refl _)
            · skip
              rw [hRy.has _ (by omega) (by omega), Option.isSome_eq_false_iff, Option.isNone_iff_eq_none] at h11
              have hin := hM.done h11 hgen (by omega)
              refine XC.exit ?_
              refine XQ.then_exit ?_
              refine XQ.then_exit ?_
              refine XQ.block_exit ?_
              refine XQ.then_normal ?_
              refine XC.seq ?_
              refine XC.region ?_
              refine XO.rd rfl rfl rfl (Reads.move rfl) ?_
              refine XO.rd rfl rfl rfl (Reads.assign rfl) ?_
              refine XO.rd rfl rfl rfl (Reads.assign rfl) ?_
              refine XO.nil ?_
              refine XQ.then_normal ?_
              refine XC.ret ?_
              rw [hin]
              refine XQ.drop (L' := V.ent 9 :: refL b y r2 ++ Lf) (List.Sublist.cons_cons _ (List.Sublist.cons _ (List.Sublist.refl _))) ?_
              refine XQ.done2 (L := V.ent 9 :: refL b y r2) rfl rfl rfl (Im.le_refl _) ?_
              exact ⟨V, r2, rfl, rfl, rfl, hV, hVl, hRy⟩
          · skip
            simp only [cmpInt, decide_eq_false_iff_not] at h10
            have hno : y.early (y.got + 1) = none := by
              cases hc : y.early (y.got + 1) with
              | none => rfl
              | some s => have h9 := (hM.ok.early _ _ hc).2.1; omega
            have hin := hM.done hno hgen (by omega)
            refine XR.s rfl (wg rfl rfl rfl) rfl ?_
            refine XR.s rfl (wg rfl rfl rfl) rfl ?_
            refine XR.s rfl (wg rfl rfl rfl) rfl ?_
            refine XR.s rfl (wg rfl rfl rfl) rfl ?_
            refine XR.s rfl (wg rfl rfl rfl) rfl ?_
            refine XR.s rfl (wg rfl rfl rfl) rfl ?_
            refine XR.s rfl (wg rfl rfl rfl) rfl ?_
            refine XR.s rfl (wg rfl rfl rfl) rfl ?_
            refine XR.s rfl (wg rfl rfl rfl) rfl ?_
            refine XR.s rfl (wg rfl rfl rfl) rfl ?_
            refine XR.rd rfl rfl rfl (Reads.pick_false rfl rfl) ?_
            refine XR.nil ?_
            refine XQ.then_normal ?_
            refine XC.cond rfl (fun hx => by cases hx) (fun _ => ?_)
            refine XC.exit ?_
            refine XQ.then_exit ?_
            refine XQ.then_exit ?_
            refine XQ.block_exit ?_
            refine XQ.then_normal ?_
            refine XC.seq ?_
            refine XC.region ?_
            refine XO.rd rfl rfl rfl (Reads.move rfl) ?_
            refine XO.rd rfl rfl rfl (Reads.assign rfl) ?_
            refine XO.rd rfl rfl rfl (Reads.assign rfl) ?_
            refine XO.nil ?_
            refine XQ.then_normal ?_
            refine XC.ret ?_
            rw [hin]
            refine XQ.drop (L' := V.ent 9 :: refL b y r2 ++ Lf) (List.Sublist.cons_cons _ (List.Sublist.cons _ (List.Sublist.refl _))) ?_
            refine XQ.done2 (L := V.ent 9 :: refL b y r2) rfl rfl rfl (Im.le_refl _) ?_
            exact ⟨V, r2, rfl, rfl, rfl, hV, hVl, hRy⟩
      · skip
        simp only [cmpInt, decide_eq_false_iff_not] at h3
        have hR2 := hR.skip hf (by omega) (fun hh => by omega)
        obtain ⟨r2, hr2⟩ : ∃ r2, r2 = r := ⟨r, rfl⟩
        rw [← hr2] at hR2 ⊢
        refine XR.s rfl (wg rfl rfl rfl) rfl ?_
        refine XR.s rfl (wg rfl rfl rfl) rfl ?_
        refine XR.s rfl (wg rfl rfl rfl) rfl ?_
        refine XR.s rfl (wg rfl rfl rfl) rfl ?_
        refine XR.s rfl (wg rfl rfl rfl) rfl ?_
        refine XR.s rfl (wg rfl rfl rfl) rfl ?_
        refine XR.s rfl (wg rfl rfl rfl) rfl ?_
        refine XR.s rfl (wg rfl rfl rfl) rfl ?_
        refine XR.rd rfl rfl rfl (Reads.pick_false rfl rfl) ?_
        refine XR.rd rfl rfl rfl (Reads.move rfl) ?_
        refine XR.s rfl (wg rfl rfl rfl) rfl ?_
        refine XR.s rfl (wg rfl rfl rfl) rfl ?_
        refine XR.s rfl (wg rfl rfl rfl) rfl ?_
        refine XR.s rfl (wg rfl rfl rfl) rfl ?_
        refine XR.s rfl (wg rfl rfl rfl) rfl ?_
        refine XR.s rfl (wg rfl rfl rfl) rfl ?_
        refine XR.s rfl (wg rfl rfl rfl) rfl ?_
        refine XR.s rfl (wg rfl rfl rfl) rfl ?_
        refine XR.rd rfl rfl rfl (Reads.pick_false rfl rfl) ?_
        refine XR.nil ?_
        refine XQ.then_normal ?_
        refine XC.cond rfl (fun hx => by cases hx) (fun _ => ?_)
        refine XC.skip ?_
        refine XQ.then_normal ?_
        refine XC.seq ?_
        refine XC.weaken (E' := [(0, _)]) ⟨rfl, trivial⟩ ?_
        refine XC.region ?_
        refine XO.rd rfl rfl rfl (Reads.assign rfl) ?_
        refine XO.nil ?_
        refine XQ.then_normal ?_
        refine XC.seq ?_
        refine XC.block ?_
        refine XC.vec0 9 ?_
        refine XC.loop (ι := Nat × LEnd × List ByteArray × Vec) (fun q => [(0, .pointer (some ⟨b, 0, none⟩)), (6, q.2.2.2.val)]) (fun q => I) (fun q => q.2.2.2.ent 9 :: some (b3, .cells #[.int .i64 p.ser, .int .i64 p.ack, .string p.body, .string p.sl] 24 (0, 0)) :: refL b q.2.1 r2 ++ Lf) (fun q => Mid (takeF x p) q.1 q.2.1 q.2.2.1 ∧ q.2.2.2.Is 1 (strC q.2.2.1) ∧ RIs q.2.1 r2) (fun q => q.1) (101, (takeF x p), [], Vec.nil) ⟨Mid.start hR2.ok, Vec.nil_is 1, hR2⟩ ⟨rfl, rfl, trivial⟩ rfl (List.Perm.refl _) (fun q hq => ?_)
        obtain ⟨f, y, ms, V⟩ := q
        obtain ⟨hM, hV, hRy⟩ := hq
        simp only at hM hV hRy ⊢
        have hfew := hM.few
        have hyg := hM.ok.got
        have hVl : V.len = ms.length := by have := hV.len; rw [strC_len] at this; omega
        refine XC.seq ?_
        refine XC.seq ?_
        refine XC.draw m_mixed none (.pure 0 (.pure 1 (.pure 2 (.pure 3 (.pure 4 (.pure 5 (.pure 6 (.pure 7 (.pure 8 (.pure 9 (.pure 10 (.pure 11 (.pure 12 (.pure 13 (.pure 14 (.pure 15 (.pure 16 (.done)))))))))))))))))) _ (by kernel_rfl) (List.Sublist.refl _) ?_
        refine XR.rd rfl rfl rfl (Reads.move rfl) ?_
        refine XR.rd rfl rfl rfl (Reads.nilCheck rfl) ?_
        refine XR.rd rfl rfl rfl (fa69_4 rfl) ?_
        refine XR.rd rfl rfl rfl (Reads.load_own (v := .int .i64 (y.got : Int)) k3 rfl (OwnAt.of 2 rfl rfl)) ?_
        refine XR.rd rfl rfl rfl (Reads.cmp rfl rfl rfl) ?_
        refine XR.rd rfl rfl rfl (Reads.move rfl) ?_
        refine XR.split (d := 80) rfl (fun h12 => ?_) (fun h12 => ?_)
        · skip
          simp only [cmpInt, decide_eq_true_eq] at h12
          refine XR.rd rfl (wg rfl rfl rfl) rfl (Reads.move rfl) ?_
          refine XR.rd rfl (wg rfl rfl rfl) rfl (Reads.move rfl) ?_
          refine XR.rd rfl (wg rfl rfl rfl) rfl (Reads.nilCheck rfl) ?_
          refine XR.rd rfl (wg rfl rfl rfl) rfl (fa69_4 rfl) ?_
          refine XR.rd rfl (wg rfl rfl rfl) rfl (Reads.load_own (v := .int .i64 (y.got : Int)) k3 rfl (OwnAt.of 2 rfl rfl)) ?_
          refine XR.rd rfl (wg rfl rfl rfl) rfl (Reads.add rfl rfl (by omega)) ?_
          refine XR.rd rfl (wg rfl rfl rfl) rfl (Reads.nilCheck rfl) ?_
          refine XR.rd rfl (wg rfl rfl rfl) rfl (fa69_6 rfl) ?_
          refine XR.rd rfl (wg rfl rfl rfl) rfl (Reads.index_arr_own (q := 106 + (y.got + 1)) Tryd.underlying67 z4 rfl rfl (by omega) (by omega)) ?_
          refine XR.rd rfl (wg rfl rfl rfl) rfl (Reads.load_own (v := .bool (r2.H (y.got + 1))) k4 rfl (OwnAt.of 2 rfl (rC_H (by omega)))) ?_
          refine XR.rd rfl rfl rfl (Reads.pick_true rfl rfl) ?_
          refine XR.nil ?_
          refine XQ.then_normal ?_
          refine XC.cond rfl (fun h13 => ?_) (fun h13 => ?_)
          · skip
            rw [hRy.has _ (by omega) (by omega), Option.isSome_iff_exists] at h13
            obtain ⟨s, hs⟩ := h13
            obtain ⟨f2, rfl, hM2⟩ := hM.next hs
            refine XC.skip ?_
            refine XQ.then_normal ?_
            refine XC.block ?_
            refine XC.seq ?_
            refine XC.region ?_
            refine XO.rd rfl rfl rfl (Reads.move rfl) ?_
            refine XO.rd rfl rfl rfl (Reads.nilCheck rfl) ?_
            refine XO.rd rfl rfl rfl (fa69_4 rfl) ?_
            refine XO.rd rfl rfl rfl (Reads.load_own (v := .int .i64 (y.got : Int)) k3 rfl (OwnAt.of 2 rfl rfl)) ?_
            refine XO.rd rfl rfl rfl (Reads.add rfl rfl (by omega)) ?_
            rw [show (y.got : Int) + 1 = ((y.got + 1 : Nat) : Int) by omega]
            refine XO.rd rfl rfl rfl (Reads.nilCheck rfl) ?_
            refine XO.rd rfl rfl rfl (fa69_4 rfl) ?_
            refine XO.store 2 rfl z3 rfl rfl rfl rfl (by rw [List.size_toArray, rC_len]; decide) ?_
            refine XO.own_eq (congrArg (fun c => _ :: _ :: some (b, Obj.cells c 69 (0, 0)) :: _) ((rC_got y r2 (y.got + 1)).trans (congrArg List.toArray (rC_next y r2)))) ?_
            refine XO.own_eq (L' := V.ent 9 :: some (b3, .cells #[.int .i64 p.ser, .int .i64 p.ack, .string p.body, .string p.sl] 24 (0, 0)) :: refL b y.next r2 ++ Lf) rfl ?_
            refine XO.nil ?_
            refine XQ.then_normal ?_
            refine XC.draw m_mixed none (.pure 0 (.pure 1 (.pure 2 (.pure 3 (.pure 4 (.pure 5 (.pure 6 (.pure 7 (.pure 8 (.pure 9 (.eff 10 (.eff 11 (.pure 12 (.done)))))))))))))) [some (b, .cells (rC y.next r2).toArray 69 (0, 0))] (by kernel_rfl) (List.Sublist.cons _ (List.Sublist.cons _ (List.Sublist.cons_cons _ (List.nil_sublist _)))) ?_
            refine XR.rd rfl rfl rfl (Reads.move rfl) ?_
            refine XR.rd rfl rfl rfl (Reads.move rfl) ?_
            refine XR.rd rfl rfl rfl (Reads.move rfl) ?_
            refine XR.rd rfl rfl rfl (Reads.nilCheck rfl) ?_
            refine XR.rd rfl rfl rfl (fa69_4 rfl) ?_
            refine XR.rd rfl rfl rfl (Reads.load_own (v := .int .i64 ((y.got + 1 : Nat) : Int)) k3 rfl (OwnAt.of 0 rfl rfl)) ?_
            refine XR.rd rfl rfl rfl (Reads.nilCheck rfl) ?_
            refine XR.rd rfl rfl rfl (fa69_5 rfl) ?_
            refine XR.rd rfl rfl rfl (Reads.index_arr_own (q := 5 + (y.got + 1)) Tryd.underlying66 z9 rfl rfl (by omega) (by omega)) ?_
            refine XR.rd rfl rfl rfl (Reads.load_own (v := .string (r2.E (y.got + 1))) k9 rfl (OwnAt.of 0 rfl (rC_E (by omega)))) ?_
            rw [hRy.body _ s (by omega) hs]
            refine XR.buildL [.string s] [.string s] rfl rfl rfl Tryd.underlying44 el9 rfl (by simp) ⟨rfl, rfl, trivial⟩ rfl rfl (List.Sublist.cons _ (List.Sublist.cons _ (List.Sublist.cons_cons _ (List.nil_sublist _)))) (fun bu => ?_)
            refine XR.append (V := V) (news := strC [s]) 1 rfl rfl rfl Tryd.underlying44 el9 rfl rfl hV rfl (.slice Tryd.underlying44 (.inr (.inr ⟨bu, 0, rfl, fun jj v hj => ⟨([Value.string s]).toArray, 9, (0, 0), List.Mem.head _, by simpa [strC] using hj⟩⟩)) rfl (strC_one _)) (by omega) (by omega) ?_
            intro V' hV' hVl'
            refine ⟨.inr (List.Sublist.cons _ (List.Sublist.cons _ (List.Sublist.cons _ (List.Sublist.cons_cons _ (List.nil_sublist _))))), ?_⟩
            refine XR.rd rfl rfl rfl (Reads.assign rfl) ?_
            refine XR.nil ?_
            refine XQ.block_normal ?_
            refine XQ.dropn 1 ?_
            refine XQ.back (f2, y.next, ms ++ [s], V') ⟨hM2, by rw [strC_append]; exact hV', hRy.next hM2.ok⟩ (Nat.lt_succ_self _) ⟨rfl, rfl, trivial⟩ rfl (List.Perm.refl _)
          · skip
            rw [hRy.has _ (by omega) (by omega), Option.isSome_eq_false_iff, Option.isNone_iff_eq_none] at h13
            have hin := hM.done h13 hgen (by omega)
            refine XC.exit ?_
            refine XQ.then_exit ?_
            refine XQ.then_exit ?_
            refine XQ.block_exit ?_
            refine XQ.then_normal ?_
            refine XC.seq ?_
            refine XC.region ?_
            refine XO.rd rfl rfl rfl (Reads.move rfl) ?_
            refine XO.rd rfl rfl rfl (Reads.assign rfl) ?_
            refine XO.rd rfl rfl rfl (Reads.assign rfl) ?_
            refine XO.nil ?_
            refine XQ.then_normal ?_
            refine XC.ret ?_
            rw [hin]
            refine XQ.drop (L' := V.ent 9 :: refL b y r2 ++ Lf) (List.Sublist.cons_cons _ (List.Sublist.cons _ (List.Sublist.refl _))) ?_
            refine XQ.done2 (L := V.ent 9 :: refL b y r2) rfl rfl rfl (Im.le_refl _) ?_
            exact ⟨V, r2, rfl, rfl, rfl, hV, hVl, hRy⟩
        · skip
          simp only [cmpInt, decide_eq_false_iff_not] at h12
          have hno : y.early (y.got + 1) = none := by
            cases hc : y.early (y.got + 1) with
            | none => rfl
            | some s => have h9 := (hM.ok.early _ _ hc).2.1; omega
          have hin := hM.done hno hgen (by omega)
          refine XR.s rfl (wg rfl rfl rfl) rfl ?_
          refine XR.s rfl (wg rfl rfl rfl) rfl ?_
          refine XR.s rfl (wg rfl rfl rfl) rfl ?_
          refine XR.s rfl (wg rfl rfl rfl) rfl ?_
          refine XR.s rfl (wg rfl rfl rfl) rfl ?_
          refine XR.s rfl (wg rfl rfl rfl) rfl ?_
          refine XR.s rfl (wg rfl rfl rfl) rfl ?_
          refine XR.s rfl (wg rfl rfl rfl) rfl ?_
          refine XR.s rfl (wg rfl rfl rfl) rfl ?_
          refine XR.s rfl (wg rfl rfl rfl) rfl ?_
          refine XR.rd rfl rfl rfl (Reads.pick_false rfl rfl) ?_
          refine XR.nil ?_
          refine XQ.then_normal ?_
          refine XC.cond rfl (fun hx => by cases hx) (fun _ => ?_)
          refine XC.exit ?_
          refine XQ.then_exit ?_
          refine XQ.then_exit ?_
          refine XQ.block_exit ?_
          refine XQ.then_normal ?_
          refine XC.seq ?_
          refine XC.region ?_
          refine XO.rd rfl rfl rfl (Reads.move rfl) ?_
          refine XO.rd rfl rfl rfl (Reads.assign rfl) ?_
          refine XO.rd rfl rfl rfl (Reads.assign rfl) ?_
          refine XO.nil ?_
          refine XQ.then_normal ?_
          refine XC.ret ?_
          rw [hin]
          refine XQ.drop (L' := V.ent 9 :: refL b y r2 ++ Lf) (List.Sublist.cons_cons _ (List.Sublist.cons _ (List.Sublist.refl _))) ?_
          refine XQ.done2 (L := V.ent 9 :: refL b y r2) rfl rfl rfl (Im.le_refl _) ?_
          exact ⟨V, r2, rfl, rfl, rfl, hV, hVl, hRy⟩

end Go.Proofs.YtkjhhifhgcihpaaDoor
