/- Walks: what comes in. -/
import Derived.Test.YtkjhhifhgcihpaaDoorD2
namespace Go.Proofs.YtkjhhifhgcihpaaDoor
open Go.Xe Go.Sh Go Go.Lk

theorem in_any (b : Nat) (x : LEnd) (h : EH) (p : Pkt) (I : Im) (hE : EndIs x h) (hp : p.In) (hG : ∃ e fr, I 0 = some (.cells (wC KR).toArray e fr)) : FSo Tryd.prog 26 [.pointer (some ⟨b, 0, none⟩), .agg #[.int .i64 p.ser, .int .i64 p.ack, .string p.body, .string p.sl]] I (endL b x h) (fun u I' L' => ∃ (V : Vec) (h' : EH), u = .tuple #[V.val, .int .i64 (inF x p).2.2] ∧ I' = I ∧ L' = V.ent 9 :: endL b (inF x p).1 h' ∧ V.Is 1 (strC (inF x p).2.1) ∧ V.len = (inF x p).2.1.length ∧ EndIs (inF x p).1 h') := by
  have hVl0 := hE.len
  have hot := hE.ok.other
  have hgo := hE.ok.got
  have hso := hE.ok.sent
  have hac := hE.ok.acked
  refine FSo.intro (n := 110) Tryd.func26 rfl rfl rfl (fun K Lf => ?_)
  refine XC.seq ?_
  refine XC.region ?_
  refine XO.box_agg rfl rfl rfl (fun b3 => ?_)
  refine XO.rd rfl rfl rfl (Reads.assign rfl) ?_
  refine XO.rd rfl rfl rfl (Reads.assign rfl) ?_
  refine XO.nil ?_
  refine XQ.then_normal ?_
  refine XC.seq ?_
  refine XC.seq ?_
  refine XC.region ?_
  refine XO.rd rfl rfl rfl (Reads.move rfl) ?_
  refine XO.rd rfl rfl rfl (Reads.ptr_eq_nil Tryd.underlying25 rfl rfl) ?_
  refine XO.nil ?_
  refine XQ.then_normal ?_
  refine XC.cond rfl (fun hx => by cases hx) (fun _ => ?_)
  refine XC.skip ?_
  refine XQ.then_normal ?_
  refine XC.seq ?_
  refine XC.seq ?_
  refine XC.draw m_mixed none (.pure 0 (.pure 1 (.pure 2 (.pure 3 (.pure 4 (.eff 5 (.pure 6 (.pure 7 (.pure 8 (.pure 9 (.pure 10 (.pure 11 (.pure 12 (.pure 13 (.pure 14 (.pure 15 (.pure 16 (.done)))))))))))))))))) _ (by kernel_rfl) (List.Sublist.refl _) ?_
  refine XR.rd rfl rfl rfl (Reads.move rfl) ?_
  refine XR.rd rfl rfl rfl (Reads.nilCheck rfl) ?_
  refine XR.rd rfl rfl rfl (fa73_1 rfl) ?_
  refine XR.rd rfl rfl rfl (Reads.load_own k9 rfl (by first | exact OwnAt.of 0 rfl rfl | exact OwnAt.of 1 rfl rfl | exact OwnAt.of 2 rfl rfl | exact OwnAt.of 3 rfl rfl | exact OwnAt.of 4 rfl rfl | exact OwnAt.of 5 rfl rfl)) ?_
  refine XR.rd rfl rfl rfl (Reads.load_whole k24 z24 rfl (by first | exact WholeAt.of 0 rfl | exact WholeAt.of 1 rfl | exact WholeAt.of 2 rfl | exact WholeAt.of 3 rfl | exact WholeAt.of 4 rfl | exact WholeAt.of 5 rfl) (by rfl)) ?_
  refine XR.callp rfl rfl rfl en29 (FC.pure (genuine_all x.other p _ (by omega) hp hG)) ⟨rfl, rfl, trivial⟩ (List.Sublist.refl _) ?_
  refine XR.rd rfl rfl rfl (Reads.not rfl) ?_
  refine XR.rd rfl rfl rfl (Reads.move rfl) ?_
  refine XR.split (d := 20) rfl (fun h1 => ?_) (fun h1 => ?_)
  · skip
    simp only [Bool.not_eq_true'] at h1
    refine XR.s rfl (wg rfl rfl rfl) rfl ?_
    refine XR.s rfl (wg rfl rfl rfl) rfl ?_
    refine XR.s rfl (wg rfl rfl rfl) rfl ?_
    refine XR.s rfl (wg rfl rfl rfl) rfl ?_
    refine XR.s rfl (wg rfl rfl rfl) rfl ?_
    refine XR.s rfl (wg rfl rfl rfl) rfl ?_
    refine XR.s rfl (wg rfl rfl rfl) rfl ?_
    refine XR.s rfl (wg rfl rfl rfl) rfl ?_
    refine XR.rd rfl rfl rfl (Reads.pick_true rfl rfl) ?_
    refine XR.nil ?_
    refine XQ.then_normal ?_
    refine XC.cond rfl (fun _ => ?_) (fun hx => by cases hx)
    refine XC.seq ?_
    refine XC.region ?_
    refine XO.rd rfl rfl rfl (Reads.assign rfl) ?_
    refine XO.rd rfl rfl rfl (Reads.assign rfl) ?_
    refine XO.nil ?_
    refine XQ.then_normal ?_
    refine XC.ret ?_
    refine XQ.then_ret ?_
    rw [inF_no (by rintro ⟨hg1, hg2⟩; first | (rw [hg1] at h1; exact absurd h1 (by decide)) | omega)]
    refine XQ.dropn 1 ?_
    refine XQ.same (L' := (Vec.nil.ent 9 :: endL b x h) ++ Lf) rfl ?_
    refine XQ.done2 (L := Vec.nil.ent 9 :: endL b x h) rfl rfl rfl (Im.le_refl _) ?_
    exact ⟨Vec.nil, h, rfl, rfl, rfl, Vec.nil_is 1, rfl, hE⟩
  · skip
    simp only [Bool.not_eq_false'] at h1
    have hf := ((genF_iff _ _).1 h1).2.1
    have hs0 := hf.s0
    have hs1 := hf.s1
    have ha0 := hf.a0
    have ha1 := hf.a1
    refine XR.rd rfl (wg rfl rfl rfl) rfl (fa24_1 rfl) ?_
    refine XR.rd rfl (wg rfl rfl rfl) rfl (Reads.load_own k3 rfl (by first | exact OwnAt.of 0 rfl rfl | exact OwnAt.of 1 rfl rfl | exact OwnAt.of 2 rfl rfl | exact OwnAt.of 3 rfl rfl | exact OwnAt.of 4 rfl rfl | exact OwnAt.of 5 rfl rfl)) ?_
    refine XR.rd rfl (wg rfl rfl rfl) rfl (Reads.move rfl) ?_
    refine XR.rd rfl (wg rfl rfl rfl) rfl (Reads.nilCheck rfl) ?_
    refine XR.rd rfl (wg rfl rfl rfl) rfl (fa73_2 rfl) ?_
    refine XR.rd rfl (wg rfl rfl rfl) rfl (Reads.load_own k44 rfl (by first | exact OwnAt.of 0 rfl rfl | exact OwnAt.of 1 rfl rfl | exact OwnAt.of 2 rfl rfl | exact OwnAt.of 3 rfl rfl | exact OwnAt.of 4 rfl rfl | exact OwnAt.of 5 rfl rfl)) ?_
    refine XR.rd rfl (wg rfl rfl rfl) rfl (Reads.len_slice Tryd.underlying44 rfl) ?_
    refine XR.rd rfl (wg rfl rfl rfl) rfl (Reads.cmp rfl rfl rfl) ?_
    refine XR.rd rfl rfl rfl (Reads.pick_false rfl rfl) ?_
    refine XR.nil ?_
    refine XQ.then_normal ?_
    refine XC.cond rfl (fun h2 => ?_) (fun h2 => ?_)
    · skip
      simp only [cmpInt, decide_eq_true_eq] at h2
      refine XC.seq ?_
      refine XC.region ?_
      refine XO.rd rfl rfl rfl (Reads.assign rfl) ?_
      refine XO.rd rfl rfl rfl (Reads.assign rfl) ?_
      refine XO.nil ?_
      refine XQ.then_normal ?_
      refine XC.ret ?_
      refine XQ.then_ret ?_
      rw [inF_no (by rintro ⟨hg1, hg2⟩; first | (rw [hg1] at h1; exact absurd h1 (by decide)) | omega)]
      refine XQ.dropn 1 ?_
      refine XQ.same (L' := (Vec.nil.ent 9 :: endL b x h) ++ Lf) rfl ?_
      refine XQ.done2 (L := Vec.nil.ent 9 :: endL b x h) rfl rfl rfl (Im.le_refl _) ?_
      exact ⟨Vec.nil, h, rfl, rfl, rfl, Vec.nil_is 1, rfl, hE⟩
    · skip
      simp only [cmpInt, decide_eq_false_iff_not] at h2
      obtain ⟨lm, hml, hnd, hlk⟩ := hE.map
      have hps : Xe.look p.ser lm = x.early p.ser.toNat := by have := hlk p.ser.toNat; rwa [Int.toNat_of_nonneg hs0] at this
      refine XC.skip ?_
      refine XQ.then_normal ?_
      refine XC.seq ?_
      refine XC.draw m_mixed (some 10) (.pure 0 (.pure 1 (.pure 2 (.pure 3 (.pure 4 (.pure 5 (.pure 6 (.pure 7 (.pure 8 (.pure 9 (.eff 10 (.done)))))))))))) _ (by kernel_rfl) (List.Sublist.refl _) ?_
      refine XR.rd rfl rfl rfl (Reads.move rfl) ?_
      refine XR.rd rfl rfl rfl (Reads.move rfl) ?_
      refine XR.rd rfl rfl rfl (Reads.nilCheck rfl) ?_
      refine XR.rd rfl rfl rfl (fa73_3 rfl) ?_
      refine XR.rd rfl rfl rfl (Reads.load_own k3 rfl (by first | exact OwnAt.of 0 rfl rfl | exact OwnAt.of 1 rfl rfl | exact OwnAt.of 2 rfl rfl | exact OwnAt.of 3 rfl rfl | exact OwnAt.of 4 rfl rfl | exact OwnAt.of 5 rfl rfl)) ?_
      refine XR.rd rfl rfl rfl (fa24_1 rfl) ?_
      refine XR.rd rfl rfl rfl (Reads.load_own k3 rfl (by first | exact OwnAt.of 0 rfl rfl | exact OwnAt.of 1 rfl rfl | exact OwnAt.of 2 rfl rfl | exact OwnAt.of 3 rfl rfl | exact OwnAt.of 4 rfl rfl | exact OwnAt.of 5 rfl rfl)) ?_
      refine XR.rd rfl rfl rfl (Reads.max rfl rfl) ?_
      rw [show max (x.acked : Int) p.ack = ((max x.acked p.ack.toNat : Nat) : Int) by omega]
      refine XR.rd rfl rfl rfl (Reads.nilCheck rfl) ?_
      refine XR.rd rfl rfl rfl (fa73_3 rfl) ?_
      refine XR.store 1 rfl rfl z3 rfl rfl rfl rfl (by simp) (.inl rfl) ?_
      refine XR.own_eq (L' := some (b3, .cells #[.int .i64 p.ser, .int .i64 p.ack, .string p.body, .string p.sl] 24 (0, 0)) :: endL b { x with acked := max x.acked p.ack.toNat } h ++ Lf) rfl ?_
      refine XR.nil ?_
      refine XQ.then_normal ?_
      refine XC.seq ?_
      refine XC.seq ?_
      refine XC.draw m_mixed none (.pure 0 (.pure 1 (.pure 2 (.pure 3 (.pure 4 (.pure 5 (.pure 6 (.pure 7 (.pure 8 (.pure 9 (.pure 10 (.pure 11 (.done))))))))))))) _ (by kernel_rfl) (List.Sublist.refl _) ?_
      refine XR.rd rfl rfl rfl (Reads.move rfl) ?_
      refine XR.rd rfl rfl rfl (Reads.nilCheck rfl) ?_
      refine XR.rd rfl rfl rfl (fa73_5 rfl) ?_
      refine XR.rd rfl rfl rfl (Reads.load_own k71 rfl (by first | exact OwnAt.of 0 rfl rfl | exact OwnAt.of 1 rfl rfl | exact OwnAt.of 2 rfl rfl | exact OwnAt.of 3 rfl rfl | exact OwnAt.of 4 rfl rfl | exact OwnAt.of 5 rfl rfl)) ?_
      refine XR.rd rfl rfl rfl (fa24_0 rfl) ?_
      refine XR.rd rfl rfl rfl (Reads.load_own k3 rfl (by first | exact OwnAt.of 0 rfl rfl | exact OwnAt.of 1 rfl rfl | exact OwnAt.of 2 rfl rfl | exact OwnAt.of 3 rfl rfl | exact OwnAt.of 4 rfl rfl | exact OwnAt.of 5 rfl rfl)) ?_
      refine XR.rd rfl rfl rfl (Reads.lookup Tryd.underlying71 Tryd.underlying3 zo9 rfl rfl (List.mem_of_getElem? (i := 3) rfl) hml) ?_
      rw [hps]
      refine XR.rd rfl rfl rfl (Reads.move rfl) ?_
      refine XR.rd rfl rfl rfl (Reads.extract rfl rfl) ?_
      refine XR.rd rfl rfl rfl (Reads.extract rfl rfl) ?_
      refine XR.rd rfl rfl rfl (Reads.assign rfl) ?_
      refine XR.rd rfl rfl rfl (Reads.assign rfl) ?_
      refine XR.nil ?_
      refine XQ.then_normal ?_
      refine XC.seq ?_
      refine XC.draw m_mixed none (.pure 0 (.pure 1 (.pure 2 (.pure 3 (.pure 4 (.pure 5 (.pure 6 (.pure 7 (.pure 8 (.pure 9 (.pure 10 (.pure 11 (.pure 12 (.pure 13 (.pure 14 (.eff 15 (.pure 16 (.done)))))))))))))))))) _ (by kernel_rfl) (List.Sublist.refl _) ?_
      refine XR.rd rfl rfl rfl (Reads.move rfl) ?_
      refine XR.rd rfl rfl rfl (Reads.not rfl) ?_
      refine XR.rd rfl rfl rfl (Reads.move rfl) ?_
      refine XR.split (d := 52) rfl (fun h3 => ?_) (fun h3 => ?_)
      · skip
        simp only [Bool.not_eq_true', Option.isSome_eq_false_iff, Option.isNone_iff_eq_none] at h3
        have hno := h3
        refine XR.rd rfl (wg rfl rfl rfl) rfl (fa24_0 rfl) ?_
        refine XR.rd rfl (wg rfl rfl rfl) rfl (Reads.load_own k3 rfl (by first | exact OwnAt.of 0 rfl rfl | exact OwnAt.of 1 rfl rfl | exact OwnAt.of 2 rfl rfl | exact OwnAt.of 3 rfl rfl | exact OwnAt.of 4 rfl rfl | exact OwnAt.of 5 rfl rfl)) ?_
        refine XR.rd rfl (wg rfl rfl rfl) rfl (Reads.move rfl) ?_
        refine XR.rd rfl (wg rfl rfl rfl) rfl (Reads.nilCheck rfl) ?_
        refine XR.rd rfl (wg rfl rfl rfl) rfl (fa73_4 rfl) ?_
        refine XR.rd rfl (wg rfl rfl rfl) rfl (Reads.load_own k3 rfl (by first | exact OwnAt.of 0 rfl rfl | exact OwnAt.of 1 rfl rfl | exact OwnAt.of 2 rfl rfl | exact OwnAt.of 3 rfl rfl | exact OwnAt.of 4 rfl rfl | exact OwnAt.of 5 rfl rfl)) ?_
        refine XR.rd rfl (wg rfl rfl rfl) rfl (Reads.add (m := (x.got : Int)) rfl rfl (by omega)) ?_
        refine XR.rd rfl (wg rfl rfl rfl) rfl (Reads.move rfl) ?_
        refine XR.rd rfl (wg rfl rfl rfl) rfl (Reads.nilCheck rfl) ?_
        refine XR.rd rfl (wg rfl rfl rfl) rfl (fa73_4 rfl) ?_
        refine XR.rd rfl (wg rfl rfl rfl) rfl (Reads.load_own k3 rfl (by first | exact OwnAt.of 0 rfl rfl | exact OwnAt.of 1 rfl rfl | exact OwnAt.of 2 rfl rfl | exact OwnAt.of 3 rfl rfl | exact OwnAt.of 4 rfl rfl | exact OwnAt.of 5 rfl rfl)) ?_
        refine XR.rd rfl (wg rfl rfl rfl) rfl (Reads.add (m := (x.got : Int)) rfl rfl (by omega)) ?_
        refine XR.callp rfl (wg rfl rfl rfl) rfl en49 (isIn_any _ _ _ _) ⟨rfl, rfl, rfl, trivial⟩ (List.Sublist.refl _) ?_
        refine XR.rd rfl rfl rfl (Reads.pick_true rfl rfl) ?_
        refine XR.nil ?_
        refine XQ.then_normal ?_
        refine XC.cond rfl (fun h4 => ?_) (fun h4 => ?_)
        · skip
          simp only [Pkt.isF, Bool.and_eq_true, decide_eq_true_eq] at h4
          have hy := And.intro hno h4
          refine XC.weaken (E' := [(0, _), (3, _)]) ⟨rfl, rfl, trivial⟩ ?_
          refine XC.draw m_mixed (some 8) (.pure 0 (.pure 1 (.pure 2 (.pure 3 (.pure 4 (.pure 5 (.pure 6 (.pure 7 (.eff 8 (.done)))))))))) _ (by kernel_rfl) (List.Sublist.refl _) ?_
          refine XR.rd rfl rfl rfl (Reads.move rfl) ?_
          refine XR.rd rfl rfl rfl (Reads.nilCheck rfl) ?_
          refine XR.rd rfl rfl rfl (fa73_5 rfl) ?_
          refine XR.rd rfl rfl rfl (Reads.load_own k71 rfl (by first | exact OwnAt.of 0 rfl rfl | exact OwnAt.of 1 rfl rfl | exact OwnAt.of 2 rfl rfl | exact OwnAt.of 3 rfl rfl | exact OwnAt.of 4 rfl rfl | exact OwnAt.of 5 rfl rfl)) ?_
          refine XR.rd rfl rfl rfl (fa24_0 rfl) ?_
          refine XR.rd rfl rfl rfl (Reads.load_own k3 rfl (by first | exact OwnAt.of 0 rfl rfl | exact OwnAt.of 1 rfl rfl | exact OwnAt.of 2 rfl rfl | exact OwnAt.of 3 rfl rfl | exact OwnAt.of 4 rfl rfl | exact OwnAt.of 5 rfl rfl)) ?_
          refine XR.rd rfl rfl rfl (fa24_2 rfl) ?_
          refine XR.rd rfl rfl rfl (Reads.load_own k9 rfl (by first | exact OwnAt.of 0 rfl rfl | exact OwnAt.of 1 rfl rfl | exact OwnAt.of 2 rfl rfl | exact OwnAt.of 3 rfl rfl | exact OwnAt.of 4 rfl rfl | exact OwnAt.of 5 rfl rfl)) ?_
          refine XR.mapInsert (s := p.body) 3 rfl rfl Tryd.underlying71 Tryd.underlying3 rfl rfl rfl rfl hml (by rw [hps]; exact hno) rfl (fun es1 ck1 hml1 => ?_)
          have hE2 := hE.put (ck := ck1) hf (by omega) hy hnd hlk hml1
          refine XR.own_eq (L' := some (b3, .cells #[.int .i64 p.ser, .int .i64 p.ack, .string p.body, .string p.sl] 24 (0, 0)) :: endL b (takeF x p) { h with es := es1, ck := ck1 } ++ Lf) rfl ?_
          obtain ⟨h2, hh2⟩ : ∃ h2 : EH, h2 = { h with es := es1, ck := ck1 } := ⟨_, rfl⟩
          rw [← hh2] at hE2 ⊢
          refine XR.nil ?_
          refine XQ.then_normal ?_
          refine XC.seq ?_
          refine XC.region ?_
          refine XO.rd rfl rfl rfl (Reads.assign rfl) ?_
          refine XO.nil ?_
          refine XQ.then_normal ?_
          refine XC.block ?_
          refine XC.vec0 9 ?_
          refine XC.loop (ι := Nat × LEnd × List ByteArray × Vec × EH) (fun q => [(0, .pointer (some ⟨b, 0, none⟩)), (8, q.2.2.2.1.val)]) (fun q => I) (fun q => q.2.2.2.1.ent 9 :: some (b3, .cells #[.int .i64 p.ser, .int .i64 p.ack, .string p.body, .string p.sl] 24 (0, 0)) :: endL b q.2.1 q.2.2.2.2 ++ Lf) (fun q => Mid (takeF x p) q.1 q.2.1 q.2.2.1 ∧ q.2.2.2.1.Is 1 (strC q.2.2.1) ∧ EndIs q.2.1 q.2.2.2.2) (fun q => q.1) (101, takeF x p, [], Vec.nil, h2) ⟨Mid.start hE2.ok, Vec.nil_is 1, hE2⟩ ⟨rfl, rfl, trivial⟩ rfl (List.Perm.refl _) (fun q hq => ?_)
          obtain ⟨f, y, ms, V, hh⟩ := q
          obtain ⟨hM, hV, hEy⟩ := hq
          simp only at hM hV hEy ⊢
          obtain ⟨l2, hml2, hnd2, hlk2⟩ := hEy.map
          have hfew := hM.few
          have hyg := hM.ok.got
          have hVl : V.len = ms.length := by have := hV.len; rw [strC_len] at this; omega
          refine XC.block ?_
          refine XC.seq ?_
          refine XC.draw m_mixed none (.pure 0 (.pure 1 (.pure 2 (.pure 3 (.pure 4 (.pure 5 (.pure 6 (.pure 7 (.pure 8 (.pure 9 (.pure 10 (.pure 11 (.pure 12 (.pure 13 (.pure 14 (.done)))))))))))))))) _ (by kernel_rfl) (List.Sublist.refl _) ?_
          refine XR.rd rfl rfl rfl (Reads.move rfl) ?_
          refine XR.rd rfl rfl rfl (Reads.nilCheck rfl) ?_
          refine XR.rd rfl rfl rfl (fa73_5 rfl) ?_
          refine XR.rd rfl rfl rfl (Reads.load_own k71 rfl (by first | exact OwnAt.of 0 rfl rfl | exact OwnAt.of 1 rfl rfl | exact OwnAt.of 2 rfl rfl | exact OwnAt.of 3 rfl rfl | exact OwnAt.of 4 rfl rfl | exact OwnAt.of 5 rfl rfl)) ?_
          refine XR.rd rfl rfl rfl (Reads.move rfl) ?_
          refine XR.rd rfl rfl rfl (Reads.nilCheck rfl) ?_
          refine XR.rd rfl rfl rfl (fa73_4 rfl) ?_
          refine XR.rd rfl rfl rfl (Reads.load_own k3 rfl (by first | exact OwnAt.of 0 rfl rfl | exact OwnAt.of 1 rfl rfl | exact OwnAt.of 2 rfl rfl | exact OwnAt.of 3 rfl rfl | exact OwnAt.of 4 rfl rfl | exact OwnAt.of 5 rfl rfl)) ?_
          refine XR.rd rfl rfl rfl (Reads.add rfl rfl (by omega)) ?_
          rw [show (y.got : Int) + 1 = ((y.got + 1 : Nat) : Int) by omega]
          refine XR.rd rfl rfl rfl (Reads.lookup Tryd.underlying71 Tryd.underlying3 zo9 rfl rfl (List.mem_of_getElem? (i := 4) rfl) hml2) ?_
          rw [hlk2 (y.got + 1)]
          refine XR.rd rfl rfl rfl (Reads.move rfl) ?_
          refine XR.rd rfl rfl rfl (Reads.extract rfl rfl) ?_
          refine XR.rd rfl rfl rfl (Reads.extract rfl rfl) ?_
          refine XR.rd rfl rfl rfl (Reads.assign rfl) ?_
          refine XR.rd rfl rfl rfl (Reads.assign rfl) ?_
          refine XR.nil ?_
          refine XQ.then_normal ?_
          refine XC.seq ?_
          refine XC.seq ?_
          refine XC.region ?_
          refine XO.rd rfl rfl rfl (Reads.move rfl) ?_
          refine XO.rd rfl rfl rfl (Reads.not rfl) ?_
          refine XO.nil ?_
          refine XQ.then_normal ?_
          refine XC.cond rfl (fun h5 => ?_) (fun h5 => ?_)
          · skip
            simp only [Bool.not_eq_true', Option.isSome_eq_false_iff, Option.isNone_iff_eq_none] at h5
            have hin := hM.done h5 h1 (by omega)
            refine XC.seq ?_
            refine XC.region ?_
            refine XO.rd rfl rfl rfl (Reads.move rfl) ?_
            refine XO.rd rfl rfl rfl (Reads.assign rfl) ?_
            refine XO.rd rfl rfl rfl (Reads.assign rfl) ?_
            refine XO.nil ?_
            refine XQ.then_normal ?_
            refine XC.ret ?_
            refine XQ.then_ret ?_
            refine XQ.block_ret ?_
            refine XQ.then_ret ?_
            refine XQ.block_ret ?_
            rw [hin]
            refine XQ.drop (L' := V.ent 9 :: endL b y hh ++ Lf) (List.Sublist.cons_cons _ (List.Sublist.cons _ (List.Sublist.refl _))) ?_
            refine XQ.done2 (L := V.ent 9 :: endL b y hh) rfl rfl rfl (Im.le_refl _) ?_
            exact ⟨V, hh, rfl, rfl, rfl, hV, hVl, hEy⟩
          · skip
            simp only [Bool.not_eq_false', Option.isSome_iff_exists] at h5
            obtain ⟨s, hs⟩ := h5
            obtain ⟨f2, rfl, hM2⟩ := hM.next hs
            rw [hs]
            refine XC.skip ?_
            refine XQ.then_normal ?_
            refine XC.seq ?_
            refine XC.region ?_
            refine XO.rd rfl rfl rfl (Reads.move rfl) ?_
            refine XO.rd rfl rfl rfl (Reads.nilCheck rfl) ?_
            refine XO.rd rfl rfl rfl (fa73_4 rfl) ?_
            refine XO.rd rfl rfl rfl (Reads.load_own k3 rfl (by first | exact OwnAt.of 0 rfl rfl | exact OwnAt.of 1 rfl rfl | exact OwnAt.of 2 rfl rfl | exact OwnAt.of 3 rfl rfl | exact OwnAt.of 4 rfl rfl | exact OwnAt.of 5 rfl rfl)) ?_
            refine XO.rd rfl rfl rfl (Reads.add rfl rfl (by omega)) ?_
            rw [show (y.got : Int) + 1 = ((y.got + 1 : Nat) : Int) by omega]
            refine XO.rd rfl rfl rfl (Reads.nilCheck rfl) ?_
            refine XO.rd rfl rfl rfl (fa73_4 rfl) ?_
            refine XO.store 2 rfl z3 rfl rfl rfl rfl (by simp) ?_
            refine XO.own_eq (L' := V.ent 9 :: some (b3, .cells #[.int .i64 p.ser, .int .i64 p.ack, .string p.body, .string p.sl] 24 (0, 0)) :: endL b y.next hh ++ Lf) rfl ?_
            refine XO.nil ?_
            refine XQ.then_normal ?_
            refine XC.seq ?_
            refine XC.draw m_mixed (some 8) (.pure 0 (.pure 1 (.pure 2 (.pure 3 (.pure 4 (.pure 5 (.pure 6 (.pure 7 (.eff 8 (.done)))))))))) _ (by kernel_rfl) (List.Sublist.refl _) ?_
            refine XR.rd rfl rfl rfl (Reads.move rfl) ?_
            refine XR.rd rfl rfl rfl (Reads.nilCheck rfl) ?_
            refine XR.rd rfl rfl rfl (fa73_5 rfl) ?_
            refine XR.rd rfl rfl rfl (Reads.load_own k71 rfl (by first | exact OwnAt.of 0 rfl rfl | exact OwnAt.of 1 rfl rfl | exact OwnAt.of 2 rfl rfl | exact OwnAt.of 3 rfl rfl | exact OwnAt.of 4 rfl rfl | exact OwnAt.of 5 rfl rfl)) ?_
            refine XR.rd rfl rfl rfl (Reads.move rfl) ?_
            refine XR.rd rfl rfl rfl (Reads.nilCheck rfl) ?_
            refine XR.rd rfl rfl rfl (fa73_4 rfl) ?_
            refine XR.rd rfl rfl rfl (Reads.load_own k3 rfl (by first | exact OwnAt.of 0 rfl rfl | exact OwnAt.of 1 rfl rfl | exact OwnAt.of 2 rfl rfl | exact OwnAt.of 3 rfl rfl | exact OwnAt.of 4 rfl rfl | exact OwnAt.of 5 rfl rfl)) ?_
            refine XR.mapDelete (lm := l2) 4 rfl rfl Tryd.underlying71 Tryd.underlying3 rfl rfl rfl hml2 rfl (fun es1 hml3 => ?_)
            refine XR.own_eq (L' := V.ent 9 :: some (b3, .cells #[.int .i64 p.ser, .int .i64 p.ack, .string p.body, .string p.sl] 24 (0, 0)) :: endL b y.next { hh with es := es1 } ++ Lf) rfl ?_
            refine XR.nil ?_
            refine XQ.then_normal ?_
            refine XC.weaken (E' := [(0, _), (8, _), (9, _)]) ⟨rfl, rfl, rfl, trivial⟩ ?_
            refine XC.region ?_
            refine XO.rd rfl rfl rfl (Reads.move rfl) ?_
            refine XO.rd rfl rfl rfl (Reads.move rfl) ?_
            refine XO.buildL [.string s] [.string s] rfl rfl Tryd.underlying44 el9 rfl (by simp) ⟨rfl, rfl, trivial⟩ rfl rfl (fun bu => ?_)
            refine XO.append (V := V) (news := strC [s]) 1 rfl rfl Tryd.underlying44 el9 rfl rfl hV rfl (.slice Tryd.underlying44 (readable_row 0 rfl rfl) rfl (strC_one _)) (by omega) (by omega) ?_
            intro V' hV' hVl'
            refine XO.rd rfl rfl rfl (Reads.assign rfl) ?_
            refine XO.nil ?_
            refine XQ.block_normal ?_
            refine XQ.dropn 1 ?_
            refine XQ.back (f2, y.next, ms ++ [s], V', { hh with es := es1 }) ⟨hM2, by rw [strC_append]; exact hV', hEy.next hM2.ok hnd2 hlk2 hml3⟩ (Nat.lt_succ_self _) ⟨rfl, rfl, trivial⟩ rfl (List.Perm.refl _)
        · skip
          simp only [Pkt.isF, Bool.and_eq_false_iff, decide_eq_false_iff_not] at h4
          have hE2 := hE.skip hf (by omega) (fun hh => by omega)
          refine XC.own_eq (L' := some (b3, .cells #[.int .i64 p.ser, .int .i64 p.ack, .string p.body, .string p.sl] 24 (0, 0)) :: endL b (takeF x p) h ++ Lf) rfl ?_
          obtain ⟨h2, hh2⟩ : ∃ h2, h2 = h := ⟨h, rfl⟩
          rw [← hh2] at hE2 ⊢
          refine XC.skip ?_
          refine XQ.then_normal ?_
          refine XC.seq ?_
          refine XC.weaken (E' := [(0, _)]) ⟨rfl, trivial⟩ ?_
          refine XC.region ?_
          refine XO.rd rfl rfl rfl (Reads.assign rfl) ?_
          refine XO.nil ?_
          refine XQ.then_normal ?_
          refine XC.block ?_
          refine XC.vec0 9 ?_
          refine XC.loop (ι := Nat × LEnd × List ByteArray × Vec × EH) (fun q => [(0, .pointer (some ⟨b, 0, none⟩)), (8, q.2.2.2.1.val)]) (fun q => I) (fun q => q.2.2.2.1.ent 9 :: some (b3, .cells #[.int .i64 p.ser, .int .i64 p.ack, .string p.body, .string p.sl] 24 (0, 0)) :: endL b q.2.1 q.2.2.2.2 ++ Lf) (fun q => Mid (takeF x p) q.1 q.2.1 q.2.2.1 ∧ q.2.2.2.1.Is 1 (strC q.2.2.1) ∧ EndIs q.2.1 q.2.2.2.2) (fun q => q.1) (101, takeF x p, [], Vec.nil, h2) ⟨Mid.start hE2.ok, Vec.nil_is 1, hE2⟩ ⟨rfl, rfl, trivial⟩ rfl (List.Perm.refl _) (fun q hq => ?_)
          obtain ⟨f, y, ms, V, hh⟩ := q
          obtain ⟨hM, hV, hEy⟩ := hq
          simp only at hM hV hEy ⊢
          obtain ⟨l2, hml2, hnd2, hlk2⟩ := hEy.map
          have hfew := hM.few
          have hyg := hM.ok.got
          have hVl : V.len = ms.length := by have := hV.len; rw [strC_len] at this; omega
          refine XC.block ?_
          refine XC.seq ?_
          refine XC.draw m_mixed none (.pure 0 (.pure 1 (.pure 2 (.pure 3 (.pure 4 (.pure 5 (.pure 6 (.pure 7 (.pure 8 (.pure 9 (.pure 10 (.pure 11 (.pure 12 (.pure 13 (.pure 14 (.done)))))))))))))))) _ (by kernel_rfl) (List.Sublist.refl _) ?_
          refine XR.rd rfl rfl rfl (Reads.move rfl) ?_
          refine XR.rd rfl rfl rfl (Reads.nilCheck rfl) ?_
          refine XR.rd rfl rfl rfl (fa73_5 rfl) ?_
          refine XR.rd rfl rfl rfl (Reads.load_own k71 rfl (by first | exact OwnAt.of 0 rfl rfl | exact OwnAt.of 1 rfl rfl | exact OwnAt.of 2 rfl rfl | exact OwnAt.of 3 rfl rfl | exact OwnAt.of 4 rfl rfl | exact OwnAt.of 5 rfl rfl)) ?_
          refine XR.rd rfl rfl rfl (Reads.move rfl) ?_
          refine XR.rd rfl rfl rfl (Reads.nilCheck rfl) ?_
          refine XR.rd rfl rfl rfl (fa73_4 rfl) ?_
          refine XR.rd rfl rfl rfl (Reads.load_own k3 rfl (by first | exact OwnAt.of 0 rfl rfl | exact OwnAt.of 1 rfl rfl | exact OwnAt.of 2 rfl rfl | exact OwnAt.of 3 rfl rfl | exact OwnAt.of 4 rfl rfl | exact OwnAt.of 5 rfl rfl)) ?_
          refine XR.rd rfl rfl rfl (Reads.add rfl rfl (by omega)) ?_
          rw [show (y.got : Int) + 1 = ((y.got + 1 : Nat) : Int) by omega]
          refine XR.rd rfl rfl rfl (Reads.lookup Tryd.underlying71 Tryd.underlying3 zo9 rfl rfl (List.mem_of_getElem? (i := 4) rfl) hml2) ?_
          rw [hlk2 (y.got + 1)]
          refine XR.rd rfl rfl rfl (Reads.move rfl) ?_
          refine XR.rd rfl rfl rfl (Reads.extract rfl rfl) ?_
          refine XR.rd rfl rfl rfl (Reads.extract rfl rfl) ?_
          refine XR.rd rfl rfl rfl (Reads.assign rfl) ?_
          refine XR.rd rfl rfl rfl (Reads.assign rfl) ?_
          refine XR.nil ?_
          refine XQ.then_normal ?_
          refine XC.seq ?_
          refine XC.seq ?_
          refine XC.region ?_
          refine XO.rd rfl rfl rfl (Reads.move rfl) ?_
          refine XO.rd rfl rfl rfl (Reads.not rfl) ?_
          refine XO.nil ?_
          refine XQ.then_normal ?_
          refine XC.cond rfl (fun h6 => ?_) (fun h6 => ?_)
          · skip
            simp only [Bool.not_eq_true', Option.isSome_eq_false_iff, Option.isNone_iff_eq_none] at h6
            have hin := hM.done h6 h1 (by omega)
            refine XC.seq ?_
            refine XC.region ?_
            refine XO.rd rfl rfl rfl (Reads.move rfl) ?_
            refine XO.rd rfl rfl rfl (Reads.assign rfl) ?_
            refine XO.rd rfl rfl rfl (Reads.assign rfl) ?_
            refine XO.nil ?_
            refine XQ.then_normal ?_
            refine XC.ret ?_
            refine XQ.then_ret ?_
            refine XQ.block_ret ?_
            refine XQ.then_ret ?_
            refine XQ.block_ret ?_
            rw [hin]
            refine XQ.drop (L' := V.ent 9 :: endL b y hh ++ Lf) (List.Sublist.cons_cons _ (List.Sublist.cons _ (List.Sublist.refl _))) ?_
            refine XQ.done2 (L := V.ent 9 :: endL b y hh) rfl rfl rfl (Im.le_refl _) ?_
            exact ⟨V, hh, rfl, rfl, rfl, hV, hVl, hEy⟩
          · skip
            simp only [Bool.not_eq_false', Option.isSome_iff_exists] at h6
            obtain ⟨s, hs⟩ := h6
            obtain ⟨f2, rfl, hM2⟩ := hM.next hs
            rw [hs]
            refine XC.skip ?_
            refine XQ.then_normal ?_
            refine XC.seq ?_
            refine XC.region ?_
            refine XO.rd rfl rfl rfl (Reads.move rfl) ?_
            refine XO.rd rfl rfl rfl (Reads.nilCheck rfl) ?_
            refine XO.rd rfl rfl rfl (fa73_4 rfl) ?_
            refine XO.rd rfl rfl rfl (Reads.load_own k3 rfl (by first | exact OwnAt.of 0 rfl rfl | exact OwnAt.of 1 rfl rfl | exact OwnAt.of 2 rfl rfl | exact OwnAt.of 3 rfl rfl | exact OwnAt.of 4 rfl rfl | exact OwnAt.of 5 rfl rfl)) ?_
            refine XO.rd rfl rfl rfl (Reads.add rfl rfl (by omega)) ?_
            rw [show (y.got : Int) + 1 = ((y.got + 1 : Nat) : Int) by omega]
            refine XO.rd rfl rfl rfl (Reads.nilCheck rfl) ?_
            refine XO.rd rfl rfl rfl (fa73_4 rfl) ?_
            refine XO.store 2 rfl z3 rfl rfl rfl rfl (by simp) ?_
            refine XO.own_eq (L' := V.ent 9 :: some (b3, .cells #[.int .i64 p.ser, .int .i64 p.ack, .string p.body, .string p.sl] 24 (0, 0)) :: endL b y.next hh ++ Lf) rfl ?_
            refine XO.nil ?_
            refine XQ.then_normal ?_
            refine XC.seq ?_
            refine XC.draw m_mixed (some 8) (.pure 0 (.pure 1 (.pure 2 (.pure 3 (.pure 4 (.pure 5 (.pure 6 (.pure 7 (.eff 8 (.done)))))))))) _ (by kernel_rfl) (List.Sublist.refl _) ?_
            refine XR.rd rfl rfl rfl (Reads.move rfl) ?_
            refine XR.rd rfl rfl rfl (Reads.nilCheck rfl) ?_
            refine XR.rd rfl rfl rfl (fa73_5 rfl) ?_
            refine XR.rd rfl rfl rfl (Reads.load_own k71 rfl (by first | exact OwnAt.of 0 rfl rfl | exact OwnAt.of 1 rfl rfl | exact OwnAt.of 2 rfl rfl | exact OwnAt.of 3 rfl rfl | exact OwnAt.of 4 rfl rfl | exact OwnAt.of 5 rfl rfl)) ?_
            refine XR.rd rfl rfl rfl (Reads.move rfl) ?_
            refine XR.rd rfl rfl rfl (Reads.nilCheck rfl) ?_
            refine XR.rd rfl rfl rfl (fa73_4 rfl) ?_
            refine XR.rd rfl rfl rfl (Reads.load_own k3 rfl (by first | exact OwnAt.of 0 rfl rfl | exact OwnAt.of 1 rfl rfl | exact OwnAt.of 2 rfl rfl | exact OwnAt.of 3 rfl rfl | exact OwnAt.of 4 rfl rfl | exact OwnAt.of 5 rfl rfl)) ?_
            refine XR.mapDelete (lm := l2) 4 rfl rfl Tryd.underlying71 Tryd.underlying3 rfl rfl rfl hml2 rfl (fun es1 hml3 => ?_)
            refine XR.own_eq (L' := V.ent 9 :: some (b3, .cells #[.int .i64 p.ser, .int .i64 p.ack, .string p.body, .string p.sl] 24 (0, 0)) :: endL b y.next { hh with es := es1 } ++ Lf) rfl ?_
            refine XR.nil ?_
            refine XQ.then_normal ?_
            refine XC.region ?_
            refine XO.rd rfl rfl rfl (Reads.move rfl) ?_
            refine XO.rd rfl rfl rfl (Reads.move rfl) ?_
            refine XO.buildL [.string s] [.string s] rfl rfl Tryd.underlying44 el9 rfl (by simp) ⟨rfl, rfl, trivial⟩ rfl rfl (fun bu => ?_)
            refine XO.append (V := V) (news := strC [s]) 1 rfl rfl Tryd.underlying44 el9 rfl rfl hV rfl (.slice Tryd.underlying44 (readable_row 0 rfl rfl) rfl (strC_one _)) (by omega) (by omega) ?_
            intro V' hV' hVl'
            refine XO.rd rfl rfl rfl (Reads.assign rfl) ?_
            refine XO.nil ?_
            refine XQ.block_normal ?_
            refine XQ.dropn 1 ?_
            refine XQ.back (f2, y.next, ms ++ [s], V', { hh with es := es1 }) ⟨hM2, by rw [strC_append]; exact hV', hEy.next hM2.ok hnd2 hlk2 hml3⟩ (Nat.lt_succ_self _) ⟨rfl, rfl, trivial⟩ rfl (List.Perm.refl _)
      · skip
        simp only [Bool.not_eq_false'] at h3
        have hE2 := hE.skip hf (by omega) (fun hh => by rw [hh.1] at h3; cases h3)
        refine XR.own_eq (L' := some (b3, .cells #[.int .i64 p.ser, .int .i64 p.ack, .string p.body, .string p.sl] 24 (0, 0)) :: endL b (takeF x p) h ++ Lf) rfl ?_
        obtain ⟨h2, hh2⟩ : ∃ h2, h2 = h := ⟨h, rfl⟩
        rw [← hh2] at hE2 ⊢
        refine XR.s rfl (wg rfl rfl rfl) rfl ?_
        refine XR.s rfl (wg rfl rfl rfl) rfl ?_
        refine XR.s rfl (wg rfl rfl rfl) rfl ?_
        refine XR.s rfl (wg rfl rfl rfl) rfl ?_
        refine XR.s rfl (wg rfl rfl rfl) rfl ?_
        refine XR.s rfl (wg rfl rfl rfl) rfl ?_
        refine XR.s rfl (wg rfl rfl rfl) rfl ?_
        refine XR.s rfl (wg rfl rfl rfl) rfl ?_
        refine XR.s rfl (wg rfl rfl rfl) rfl ?_
        refine XR.s rfl (wg rfl rfl rfl) rfl ?_
        refine XR.s rfl (wg rfl rfl rfl) rfl ?_
        refine XR.s rfl (wg rfl rfl rfl) rfl ?_
        refine XR.se rfl (wg rfl rfl rfl) rfl (List.Sublist.refl _) ?_
        refine XR.rd rfl rfl rfl (Reads.pick_false rfl rfl) ?_
        refine XR.nil ?_
        refine XQ.then_normal ?_
        refine XC.cond rfl (fun hx => by cases hx) (fun _ => ?_)
        refine XC.skip ?_
        refine XQ.then_normal ?_
        refine XC.seq ?_
        refine XC.weaken (E' := [(0, _)]) ⟨rfl, trivial⟩ ?_
        refine XC.region ?_
        refine XO.rd rfl rfl rfl (Reads.assign rfl) ?_
        refine XO.nil ?_
        refine XQ.then_normal ?_
        refine XC.block ?_
        refine XC.vec0 9 ?_
        refine XC.loop (ι := Nat × LEnd × List ByteArray × Vec × EH) (fun q => [(0, .pointer (some ⟨b, 0, none⟩)), (8, q.2.2.2.1.val)]) (fun q => I) (fun q => q.2.2.2.1.ent 9 :: some (b3, .cells #[.int .i64 p.ser, .int .i64 p.ack, .string p.body, .string p.sl] 24 (0, 0)) :: endL b q.2.1 q.2.2.2.2 ++ Lf) (fun q => Mid (takeF x p) q.1 q.2.1 q.2.2.1 ∧ q.2.2.2.1.Is 1 (strC q.2.2.1) ∧ EndIs q.2.1 q.2.2.2.2) (fun q => q.1) (101, takeF x p, [], Vec.nil, h2) ⟨Mid.start hE2.ok, Vec.nil_is 1, hE2⟩ ⟨rfl, rfl, trivial⟩ rfl (List.Perm.refl _) (fun q hq => ?_)
        obtain ⟨f, y, ms, V, hh⟩ := q
        obtain ⟨hM, hV, hEy⟩ := hq
        simp only at hM hV hEy ⊢
        obtain ⟨l2, hml2, hnd2, hlk2⟩ := hEy.map
        have hfew := hM.few
        have hyg := hM.ok.got
        have hVl : V.len = ms.length := by have := hV.len; rw [strC_len] at this; omega
        refine XC.block ?_
        refine XC.seq ?_
        refine XC.draw m_mixed none (.pure 0 (.pure 1 (.pure 2 (.pure 3 (.pure 4 (.pure 5 (.pure 6 (.pure 7 (.pure 8 (.pure 9 (.pure 10 (.pure 11 (.pure 12 (.pure 13 (.pure 14 (.done)))))))))))))))) _ (by kernel_rfl) (List.Sublist.refl _) ?_
        refine XR.rd rfl rfl rfl (Reads.move rfl) ?_
        refine XR.rd rfl rfl rfl (Reads.nilCheck rfl) ?_
        refine XR.rd rfl rfl rfl (fa73_5 rfl) ?_
        refine XR.rd rfl rfl rfl (Reads.load_own k71 rfl (by first | exact OwnAt.of 0 rfl rfl | exact OwnAt.of 1 rfl rfl | exact OwnAt.of 2 rfl rfl | exact OwnAt.of 3 rfl rfl | exact OwnAt.of 4 rfl rfl | exact OwnAt.of 5 rfl rfl)) ?_
        refine XR.rd rfl rfl rfl (Reads.move rfl) ?_
        refine XR.rd rfl rfl rfl (Reads.nilCheck rfl) ?_
        refine XR.rd rfl rfl rfl (fa73_4 rfl) ?_
        refine XR.rd rfl rfl rfl (Reads.load_own k3 rfl (by first | exact OwnAt.of 0 rfl rfl | exact OwnAt.of 1 rfl rfl | exact OwnAt.of 2 rfl rfl | exact OwnAt.of 3 rfl rfl | exact OwnAt.of 4 rfl rfl | exact OwnAt.of 5 rfl rfl)) ?_
        refine XR.rd rfl rfl rfl (Reads.add rfl rfl (by omega)) ?_
        rw [show (y.got : Int) + 1 = ((y.got + 1 : Nat) : Int) by omega]
        refine XR.rd rfl rfl rfl (Reads.lookup Tryd.underlying71 Tryd.underlying3 zo9 rfl rfl (List.mem_of_getElem? (i := 4) rfl) hml2) ?_
        rw [hlk2 (y.got + 1)]
        refine XR.rd rfl rfl rfl (Reads.move rfl) ?_
        refine XR.rd rfl rfl rfl (Reads.extract rfl rfl) ?_
        refine XR.rd rfl rfl rfl (Reads.extract rfl rfl) ?_
        refine XR.rd rfl rfl rfl (Reads.assign rfl) ?_
        refine XR.rd rfl rfl rfl (Reads.assign rfl) ?_
        refine XR.nil ?_
        refine XQ.then_normal ?_
        refine XC.seq ?_
        refine XC.seq ?_
        refine XC.region ?_
        refine XO.rd rfl rfl rfl (Reads.move rfl) ?_
        refine XO.rd rfl rfl rfl (Reads.not rfl) ?_
        refine XO.nil ?_
        refine XQ.then_normal ?_
        refine XC.cond rfl (fun h7 => ?_) (fun h7 => ?_)
        · skip
          simp only [Bool.not_eq_true', Option.isSome_eq_false_iff, Option.isNone_iff_eq_none] at h7
          have hin := hM.done h7 h1 (by omega)
          refine XC.seq ?_
          refine XC.region ?_
          refine XO.rd rfl rfl rfl (Reads.move rfl) ?_
          refine XO.rd rfl rfl rfl (Reads.assign rfl) ?_
          refine XO.rd rfl rfl rfl (Reads.assign rfl) ?_
          refine XO.nil ?_
          refine XQ.then_normal ?_
          refine XC.ret ?_
          refine XQ.then_ret ?_
          refine XQ.block_ret ?_
          refine XQ.then_ret ?_
          refine XQ.block_ret ?_
          rw [hin]
          refine XQ.drop (L' := V.ent 9 :: endL b y hh ++ Lf) (List.Sublist.cons_cons _ (List.Sublist.cons _ (List.Sublist.refl _))) ?_
          refine XQ.done2 (L := V.ent 9 :: endL b y hh) rfl rfl rfl (Im.le_refl _) ?_
          exact ⟨V, hh, rfl, rfl, rfl, hV, hVl, hEy⟩
        · skip
          simp only [Bool.not_eq_false', Option.isSome_iff_exists] at h7
          obtain ⟨s, hs⟩ := h7
          obtain ⟨f2, rfl, hM2⟩ := hM.next hs
          rw [hs]
          refine XC.skip ?_
          refine XQ.then_normal ?_
          refine XC.seq ?_
          refine XC.region ?_
          refine XO.rd rfl rfl rfl (Reads.move rfl) ?_
          refine XO.rd rfl rfl rfl (Reads.nilCheck rfl) ?_
          refine XO.rd rfl rfl rfl (fa73_4 rfl) ?_
          refine XO.rd rfl rfl rfl (Reads.load_own k3 rfl (by first | exact OwnAt.of 0 rfl rfl | exact OwnAt.of 1 rfl rfl | exact OwnAt.of 2 rfl rfl | exact OwnAt.of 3 rfl rfl | exact OwnAt.of 4 rfl rfl | exact OwnAt.of 5 rfl rfl)) ?_
          refine XO.rd rfl rfl rfl (Reads.add rfl rfl (by omega)) ?_
          rw [show (y.got : Int) + 1 = ((y.got + 1 : Nat) : Int) by omega]
          refine XO.rd rfl rfl rfl (Reads.nilCheck rfl) ?_
          refine XO.rd rfl rfl rfl (fa73_4 rfl) ?_
          refine XO.store 2 rfl z3 rfl rfl rfl rfl (by simp) ?_
          refine XO.own_eq (L' := V.ent 9 :: some (b3, .cells #[.int .i64 p.ser, .int .i64 p.ack, .string p.body, .string p.sl] 24 (0, 0)) :: endL b y.next hh ++ Lf) rfl ?_
          refine XO.nil ?_
          refine XQ.then_normal ?_
          refine XC.seq ?_
          refine XC.draw m_mixed (some 8) (.pure 0 (.pure 1 (.pure 2 (.pure 3 (.pure 4 (.pure 5 (.pure 6 (.pure 7 (.eff 8 (.done)))))))))) _ (by kernel_rfl) (List.Sublist.refl _) ?_
          refine XR.rd rfl rfl rfl (Reads.move rfl) ?_
          refine XR.rd rfl rfl rfl (Reads.nilCheck rfl) ?_
          refine XR.rd rfl rfl rfl (fa73_5 rfl) ?_
          refine XR.rd rfl rfl rfl (Reads.load_own k71 rfl (by first | exact OwnAt.of 0 rfl rfl | exact OwnAt.of 1 rfl rfl | exact OwnAt.of 2 rfl rfl | exact OwnAt.of 3 rfl rfl | exact OwnAt.of 4 rfl rfl | exact OwnAt.of 5 rfl rfl)) ?_
          refine XR.rd rfl rfl rfl (Reads.move rfl) ?_
          refine XR.rd rfl rfl rfl (Reads.nilCheck rfl) ?_
          refine XR.rd rfl rfl rfl (fa73_4 rfl) ?_
          refine XR.rd rfl rfl rfl (Reads.load_own k3 rfl (by first | exact OwnAt.of 0 rfl rfl | exact OwnAt.of 1 rfl rfl | exact OwnAt.of 2 rfl rfl | exact OwnAt.of 3 rfl rfl | exact OwnAt.of 4 rfl rfl | exact OwnAt.of 5 rfl rfl)) ?_
          refine XR.mapDelete (lm := l2) 4 rfl rfl Tryd.underlying71 Tryd.underlying3 rfl rfl rfl hml2 rfl (fun es1 hml3 => ?_)
          refine XR.own_eq (L' := V.ent 9 :: some (b3, .cells #[.int .i64 p.ser, .int .i64 p.ack, .string p.body, .string p.sl] 24 (0, 0)) :: endL b y.next { hh with es := es1 } ++ Lf) rfl ?_
          refine XR.nil ?_
          refine XQ.then_normal ?_
          refine XC.region ?_
          refine XO.rd rfl rfl rfl (Reads.move rfl) ?_
          refine XO.rd rfl rfl rfl (Reads.move rfl) ?_
          refine XO.buildL [.string s] [.string s] rfl rfl Tryd.underlying44 el9 rfl (by simp) ⟨rfl, rfl, trivial⟩ rfl rfl (fun bu => ?_)
          refine XO.append (V := V) (news := strC [s]) 1 rfl rfl Tryd.underlying44 el9 rfl rfl hV rfl (.slice Tryd.underlying44 (readable_row 0 rfl rfl) rfl (strC_one _)) (by omega) (by omega) ?_
          intro V' hV' hVl'
          refine XO.rd rfl rfl rfl (Reads.assign rfl) ?_
          refine XO.nil ?_
          refine XQ.block_normal ?_
          refine XQ.dropn 1 ?_
          refine XQ.back (f2, y.next, ms ++ [s], V', { hh with es := es1 }) ⟨hM2, by rw [strC_append]; exact hV', hEy.next hM2.ok hnd2 hlk2 hml3⟩ (Nat.lt_succ_self _) ⟨rfl, rfl, trivial⟩ rfl (List.Perm.refl _)

theorem in_nil (p : Pkt) (I : Im) : FC Tryd.prog 26 [.pointer none, .agg #[.int .i64 p.ser, .int .i64 p.ack, .string p.body, .string p.sl]] I (fun u I' => u = .tuple #[.slice none 0 0, .int .i64 1] ∧ I' = I) := by
  refine FSo.intro (n := 110) Tryd.func26 rfl rfl rfl (fun K Lf => ?_)
  refine XC.seq ?_
  refine XC.region ?_
  refine XO.box_agg rfl rfl rfl (fun b3 => ?_)
  refine XO.rd rfl rfl rfl (Reads.assign rfl) ?_
  refine XO.rd rfl rfl rfl (Reads.assign rfl) ?_
  refine XO.nil ?_
  refine XQ.then_normal ?_
  refine XC.seq ?_
  refine XC.seq ?_
  refine XC.region ?_
  refine XO.rd rfl rfl rfl (Reads.move rfl) ?_
  refine XO.rd rfl rfl rfl (Reads.nil_eq_nil Tryd.underlying25 rfl rfl) ?_
  refine XO.nil ?_
  refine XQ.then_normal ?_
  refine XC.cond rfl (fun _ => ?_) (fun hx => by cases hx)
  refine XC.seq ?_
  refine XC.region ?_
  refine XO.rd rfl rfl rfl (Reads.assign rfl) ?_
  refine XO.rd rfl rfl rfl (Reads.assign rfl) ?_
  refine XO.nil ?_
  refine XQ.then_normal ?_
  refine XC.ret ?_
  refine XQ.then_ret ?_
  refine XQ.dropn 1 ?_
  refine XQ.done2 (L := []) rfl rfl rfl (Im.le_refl _) ?_
  exact ⟨rfl, rfl, rfl⟩

end Go.Proofs.YtkjhhifhgcihpaaDoor
