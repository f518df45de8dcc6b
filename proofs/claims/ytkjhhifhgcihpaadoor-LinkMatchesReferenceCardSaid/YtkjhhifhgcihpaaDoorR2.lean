/- Walk: the reference's packets that go out. -/
import Derived.Test.YtkjhhifhgcihpaaDoorR1
namespace Go.Proofs.YtkjhhifhgcihpaaDoor
open Go.Xe Go.Sh Go Go.Lk

set_option maxHeartbeats 1000000 in
theorem rout_any (b : Nat) (x : LEnd) (r : RH) (I : Im) (hR : RIs x r) : FSo Tryd.prog 24 [.pointer (some ⟨b, 0, none⟩)] I (refL b x r) (fun u I' L' => ∃ V : Vec, u = V.val ∧ I' = I ∧ L' = V.ent 24 :: refL b x r ∧ V.Is 4 (pktC (outF x)) ∧ V.len = (outF x).length) := by
  have hVl := hR.len
  have hb4 := bareF_len x
  have hbi := bareF_in hR.ok
  have hke := hR.ok.key
  have hso := hR.ok.sent
  have hac := hR.ok.acked
  have hgo := hR.ok.got
  refine FSo.intro (n := 76) Tryd.func24 rfl rfl rfl (fun K Lf => ?_)
  refine XC.seq ?_
  refine XC.region ?_
  refine XO.rd rfl rfl rfl (Reads.assign rfl) ?_
  refine XO.nil ?_
  refine XQ.then_normal ?_
  refine XC.seq ?_
  refine XC.region ?_
  refine XO.rd rfl rfl rfl (Reads.assign rfl) ?_
  refine XO.nil ?_
  refine XQ.then_normal ?_
  refine XC.seq ?_
  refine XC.seq ?_
  refine XC.region ?_
  refine XO.rd rfl rfl rfl (Reads.move rfl) ?_
  refine XO.rd rfl rfl rfl (Reads.nilCheck rfl) ?_
  refine XO.rd rfl rfl rfl (fa69_3 rfl) ?_
  refine XO.rd rfl rfl rfl (Reads.load_own k3 rfl (by first | exact OwnAt.of 0 rfl rfl | exact OwnAt.of 1 rfl rfl | exact OwnAt.of 2 rfl rfl | exact OwnAt.of 3 rfl rfl | exact OwnAt.of 4 rfl rfl | exact OwnAt.of 5 rfl rfl)) ?_
  refine XO.rd rfl rfl rfl (Reads.assign rfl) ?_
  refine XO.nil ?_
  refine XQ.then_normal ?_
  refine XC.block ?_
  refine XC.vec0 24 ?_
  refine XC.loop (ι := Nat × Vec) (fun q => [(0, .pointer (some ⟨b, 0, none⟩)), (3, q.2.val), (4, .int .i64 ((x.acked + q.1 : Nat) : Int))]) (fun q => I) (fun q => q.2.ent 24 :: refL b x r ++ Lf) (fun q => q.1 ≤ x.many ∧ q.2.Is 4 (pktC ((wF x).take q.1))) (fun q => x.many - q.1) (0, Vec.nil) ⟨Nat.zero_le _, Vec.nil_is 4⟩ ⟨rfl, rfl, rfl, trivial⟩ rfl (List.Perm.refl _) (fun q hq => ?_)
  obtain ⟨j, O⟩ := q
  obtain ⟨hj1, hO⟩ := hq
  simp only at hj1 hO ⊢
  have hOl := hO.len
  rw [pktC_len, List.length_take, wF_len] at hOl
  have hmany : x.many = min 4 (x.sent.length - x.acked) := rfl
  refine XC.seq ?_
  refine XC.seq ?_
  refine XC.region ?_
  refine XO.rd rfl rfl rfl (Reads.move rfl) ?_
  refine XO.rd rfl rfl rfl (Reads.move rfl) ?_
  refine XO.rd rfl rfl rfl (Reads.nilCheck rfl) ?_
  refine XO.rd rfl rfl rfl (fa69_2 rfl) ?_
  refine XO.rd rfl rfl rfl (Reads.load_own k44 rfl (by first | exact OwnAt.of 0 rfl rfl | exact OwnAt.of 1 rfl rfl | exact OwnAt.of 2 rfl rfl | exact OwnAt.of 3 rfl rfl | exact OwnAt.of 4 rfl rfl | exact OwnAt.of 5 rfl rfl)) ?_
  refine XO.rd rfl rfl rfl (Reads.len_slice Tryd.underlying44 rfl) ?_
  refine XO.rd rfl rfl rfl (Reads.cmp rfl rfl rfl) ?_
  refine XO.rd rfl rfl rfl (Reads.move rfl) ?_
  refine XO.split (d := 17) rfl (fun h1 => ?_) (fun h1 => ?_)
  · skip
    simp only [cmpInt, decide_eq_true_eq] at h1
    refine XO.rd (wg rfl rfl rfl) rfl rfl (Reads.move rfl) ?_
    refine XO.rd (wg rfl rfl rfl) rfl rfl (Reads.move rfl) ?_
    refine XO.rd (wg rfl rfl rfl) rfl rfl (Reads.nilCheck rfl) ?_
    refine XO.rd (wg rfl rfl rfl) rfl rfl (fa69_3 rfl) ?_
    refine XO.rd (wg rfl rfl rfl) rfl rfl (Reads.load_own k3 rfl (by first | exact OwnAt.of 0 rfl rfl | exact OwnAt.of 1 rfl rfl | exact OwnAt.of 2 rfl rfl | exact OwnAt.of 3 rfl rfl | exact OwnAt.of 4 rfl rfl | exact OwnAt.of 5 rfl rfl)) ?_
    refine XO.rd (wg rfl rfl rfl) rfl rfl (Reads.add rfl rfl (by omega)) ?_
    refine XO.rd (wg rfl rfl rfl) rfl rfl (Reads.cmp rfl rfl rfl) ?_
    refine XO.rd rfl rfl rfl (Reads.pick_true rfl rfl) ?_
    refine XO.nil ?_
    refine XQ.then_normal ?_
    refine XC.cond rfl (fun h2 => ?_) (fun h2 => ?_)
    · skip
      simp only [cmpInt, decide_eq_true_eq] at h2
      have hj3 : j < x.many := by omega
      refine XC.skip ?_
      refine XQ.then_normal ?_
      refine XC.seq ?_
      refine XC.block ?_
      refine XC.draw m_mixed none (.pure 0 (.pure 1 (.pure 2 (.pure 3 (.pure 4 (.pure 5 (.pure 6 (.pure 7 (.pure 8 (.pure 9 (.pure 10 (.pure 11 (.pure 12 (.pure 13 (.pure 14 (.eff 15 (.eff 16 (.pure 17 (.done))))))))))))))))))) [some (b, .cells (rC x r).toArray 69 (0, 0)), r.V.ent 9] (by kernel_rfl) (List.Sublist.cons _ (List.Sublist.cons_cons _ (List.Sublist.cons_cons _ (List.nil_sublist _)))) ?_
      refine XR.rd rfl rfl rfl (Reads.move rfl) ?_
      refine XR.rd rfl rfl rfl (Reads.move rfl) ?_
      refine XR.rd rfl rfl rfl (Reads.add rfl rfl (by omega)) ?_
      rw [show ((x.acked + j : Nat) : Int) + 1 = ((x.acked + j + 1 : Nat) : Int) by omega]
      refine XR.rd rfl rfl rfl (Reads.move rfl) ?_
      refine XR.rd rfl rfl rfl (Reads.nilCheck rfl) ?_
      refine XR.rd rfl rfl rfl (fa69_4 rfl) ?_
      refine XR.rd rfl rfl rfl (Reads.load_own k3 rfl (by first | exact OwnAt.of 0 rfl rfl | exact OwnAt.of 1 rfl rfl | exact OwnAt.of 2 rfl rfl | exact OwnAt.of 3 rfl rfl | exact OwnAt.of 4 rfl rfl | exact OwnAt.of 5 rfl rfl)) ?_
      refine XR.rd rfl rfl rfl (Reads.move rfl) ?_
      refine XR.rd rfl rfl rfl (Reads.nilCheck rfl) ?_
      refine XR.rd rfl rfl rfl (fa69_2 rfl) ?_
      refine XR.rd rfl rfl rfl (Reads.load_own k44 rfl (by first | exact OwnAt.of 0 rfl rfl | exact OwnAt.of 1 rfl rfl | exact OwnAt.of 2 rfl rfl | exact OwnAt.of 3 rfl rfl | exact OwnAt.of 4 rfl rfl | exact OwnAt.of 5 rfl rfl)) ?_
      refine XR.rd rfl rfl rfl (Reads.move rfl) ?_
      refine XR.rd rfl rfl rfl (Reads.index_slot (q := x.acked + j) Tryd.underlying44 z9 rfl rfl (by omega) (vec_isSomes hR.vec (strC_get (i := x.acked + j) (by omega))) (by omega)) ?_
      refine XR.rd rfl rfl rfl (Reads.load_vecs (V := r.V) (k := x.acked + j) (v := .string (x.sent.getD (x.acked + j) ⟨#[]⟩)) k9 rfl hR.vec (e := 9) (List.mem_of_getElem? (i := 1) rfl) (strC_get (by omega))) ?_
      refine XR.rd rfl rfl rfl (bd24 (vs := [(0, _), (1, _), (2, _)]) #[_, _, _, .string ⟨#[]⟩] ⟨rfl, rfl, rfl, rfl, rfl, rfl, trivial⟩ rfl) ?_
      refine XR.buildL [.agg #[.int .i64 ((x.acked + j + 1 : Nat) : Int), .int .i64 (x.got : Int), .string (x.sent.getD (x.acked + j) ⟨#[]⟩), .string ⟨#[]⟩]] [.int .i64 ((x.acked + j + 1 : Nat) : Int), .int .i64 (x.got : Int), .string (x.sent.getD (x.acked + j) ⟨#[]⟩), .string ⟨#[]⟩] rfl rfl rfl Tryd.underlying37 el24 rfl (by simp) ⟨rfl, rfl, trivial⟩ rfl rfl (List.Sublist.cons _ (List.Sublist.cons_cons _ (List.Sublist.cons_cons _ (List.nil_sublist _)))) (fun bu => ?_)
      refine XR.append (V := O) (news := [.int .i64 ((x.acked + j + 1 : Nat) : Int), .int .i64 (x.got : Int), .string (x.sent.getD (x.acked + j) ⟨#[]⟩), .string ⟨#[]⟩]) 1 rfl rfl rfl Tryd.underlying37 el24 rfl rfl hO rfl (.slice Tryd.underlying37 (.inr (.inr ⟨bu, 0, rfl, fun jj v hj => ⟨([.int .i64 ((x.acked + j + 1 : Nat) : Int), .int .i64 (x.got : Int), .string (x.sent.getD (x.acked + j) ⟨#[]⟩), .string ⟨#[]⟩]).toArray, 24, (0, 0), List.Mem.head _, by simpa [strC] using hj⟩⟩)) rfl (by intro v hv; simp at hv; rcases hv with rfl | rfl | rfl | rfl <;> rfl)) (by omega) (by omega) ?_
      intro O' hO' _
      refine ⟨.inr (List.Sublist.cons _ (List.Sublist.cons _ (List.Sublist.cons_cons _ (List.Sublist.cons_cons _ (List.nil_sublist _))))), ?_⟩
      refine XR.rd rfl rfl rfl (Reads.assign rfl) ?_
      refine XR.nil ?_
      refine XQ.block_normal ?_
      refine XQ.then_normal ?_
      refine XC.region ?_
      refine XO.rd rfl rfl rfl (Reads.move rfl) ?_
      refine XO.rd rfl rfl rfl (Reads.add rfl rfl (by omega)) ?_
      rw [show ((x.acked + j : Nat) : Int) + 1 = ((x.acked + (j + 1) : Nat) : Int) by omega]
      refine XO.rd rfl rfl rfl (Reads.assign rfl) ?_
      refine XO.nil ?_
      refine XQ.dropn 1 ?_
      refine XQ.back (j + 1, O') ⟨by simp only; omega, by simp only; rw [wF_step hj3, pktC_append]; exact hO'⟩ (by simp only; omega) ⟨rfl, rfl, rfl, trivial⟩ rfl (List.Perm.refl _)
    · skip
      simp only [cmpInt, decide_eq_false_iff_not] at h2
      have hje : j = x.many := by have : x.many = min 4 (x.sent.length - x.acked) := rfl; omega
      refine XC.exit ?_
      refine XQ.then_exit ?_
      refine XQ.then_exit ?_
      refine XQ.block_exit ?_
      refine XQ.then_normal ?_
      refine XC.seq ?_
      refine XC.seq ?_
      refine XC.region ?_
      refine XO.rd rfl rfl rfl (Reads.move rfl) ?_
      refine XO.rd rfl rfl rfl (Reads.len_slice Tryd.underlying37 rfl) ?_
      refine XO.rd rfl rfl rfl (Reads.cmp rfl rfl rfl) ?_
      refine XO.nil ?_
      refine XQ.then_normal ?_
      refine XC.cond rfl (fun h3 => ?_) (fun h3 => ?_)
      · skip
        simp only [cmpInt, beq_iff_eq] at h3
        rw [hje] at hO
        have hOl := hO.len
        rw [pktC_len, List.length_take, wF_len, Nat.min_self] at hOl
        have hmany : x.many = min 4 (x.sent.length - x.acked) := rfl
        refine XC.region ?_
        refine XO.rd rfl rfl rfl (Reads.move rfl) ?_
        refine XO.rd rfl rfl rfl (Reads.move rfl) ?_
        refine XO.rd rfl rfl rfl (Reads.nilCheck rfl) ?_
        refine XO.rd rfl rfl rfl (fa69_4 rfl) ?_
        refine XO.rd rfl rfl rfl (Reads.load_own k3 rfl (by first | exact OwnAt.of 0 rfl rfl | exact OwnAt.of 1 rfl rfl | exact OwnAt.of 2 rfl rfl | exact OwnAt.of 3 rfl rfl | exact OwnAt.of 4 rfl rfl | exact OwnAt.of 5 rfl rfl)) ?_
        refine XO.rd rfl rfl rfl (bd24 (vs := [(1, _)]) #[.int .i64 0, _, .string ⟨#[]⟩, .string ⟨#[]⟩] ⟨rfl, rfl, trivial⟩ rfl) ?_
        refine XO.buildL [.agg #[.int .i64 0, .int .i64 (x.got : Int), .string ⟨#[]⟩, .string ⟨#[]⟩]] [.int .i64 0, .int .i64 (x.got : Int), .string ⟨#[]⟩, .string ⟨#[]⟩] rfl rfl Tryd.underlying37 el24 rfl (by simp) ⟨rfl, rfl, trivial⟩ rfl rfl (fun bu => ?_)
        refine XO.append (V := O) (news := [.int .i64 0, .int .i64 (x.got : Int), .string ⟨#[]⟩, .string ⟨#[]⟩]) 1 rfl rfl Tryd.underlying37 el24 rfl rfl hO rfl (.slice Tryd.underlying37 (readable_row 0 rfl rfl) rfl (by intro v hv; simp at hv; rcases hv with rfl | rfl | rfl | rfl <;> rfl)) (by omega) (by omega) ?_
        intro V hV _
        refine XO.dropn 1 ?_
        refine XO.own_eq (L' := V.ent 24 :: refL b x r ++ Lf) rfl ?_
        replace hV : V.Is 4 (pktC (bareF x)) := by rw [bareF_none (by omega)]; rw [List.length_eq_zero_iff.1 (show ((wF x).take x.many).length = 0 by rw [List.length_take, wF_len]; omega)] at hV; exact hV
        refine XO.rd rfl rfl rfl (Reads.assign rfl) ?_
        refine XO.nil ?_
        refine XQ.then_normal ?_
        refine XC.seq ?_
        refine XC.seq ?_
        refine XC.region ?_
        refine XO.rd rfl rfl rfl (Reads.assign rfl) ?_
        refine XO.nil ?_
        refine XQ.then_normal ?_
        refine XC.block ?_
        have hVl2 : V.len = (bareF x).length := by have := hV.len; rw [pktC_len] at this; omega
        refine XC.loop (ι := Nat × Vec) (fun q => [(0, .pointer (some ⟨b, 0, none⟩)), (3, q.2.val), (5, .int .i64 q.1)]) (fun q => I) (fun q => q.2.ent 24 :: refL b x r ++ Lf) (fun q => q.1 ≤ (bareF x).length ∧ q.2.len = V.len ∧ q.2.Is 4 (pktC (partF (sealed x.key) (bareF x) q.1))) (fun q => (bareF x).length - q.1) (0, V) ⟨Nat.zero_le _, rfl, by simpa [partF] using hV⟩ ⟨rfl, rfl, rfl, trivial⟩ rfl (List.Perm.refl _) (fun q hq => ?_)
        obtain ⟨i, V1⟩ := q
        obtain ⟨hi1, hl1, hV1⟩ := hq
        simp only at hi1 hl1 hV1 ⊢
        refine XC.seq ?_
        refine XC.seq ?_
        refine XC.region ?_
        refine XO.rd rfl rfl rfl (Reads.move rfl) ?_
        refine XO.rd rfl rfl rfl (Reads.move rfl) ?_
        refine XO.rd rfl rfl rfl (Reads.len_slice Tryd.underlying37 rfl) ?_
        refine XO.rd rfl rfl rfl (Reads.cmp rfl rfl rfl) ?_
        refine XO.nil ?_
        refine XQ.then_normal ?_
        refine XC.cond rfl (fun h4 => ?_) (fun h4 => ?_)
        · skip
          simp only [cmpInt, decide_eq_true_eq] at h4
          have hi3 : i < (bareF x).length := by omega
          refine XC.skip ?_
          refine XQ.then_normal ?_
          refine XC.seq ?_
          refine XC.block ?_
          refine XC.draw m_mixed (some 13) (.pure 0 (.pure 1 (.pure 2 (.pure 3 (.pure 4 (.pure 5 (.pure 6 (.pure 7 (.pure 8 (.pure 9 (.eff 10 (.pure 11 (.pure 12 (.eff 13 (.done))))))))))))))) _ (by kernel_rfl) (List.Sublist.refl _) ?_
          refine XR.rd rfl rfl rfl (Reads.move rfl) ?_
          refine XR.rd rfl rfl rfl (Reads.move rfl) ?_
          refine XR.rd rfl rfl rfl (Reads.move rfl) ?_
          refine XR.rd rfl rfl rfl (Reads.nilCheck rfl) ?_
          refine XR.rd rfl rfl rfl (fa69_0 rfl) ?_
          refine XR.rd rfl rfl rfl (Reads.load_own (v := .string x.key) k9 rfl (OwnAt.of 1 rfl rfl)) ?_
          refine XR.rd rfl rfl rfl (Reads.move rfl) ?_
          refine XR.rd rfl rfl rfl (Reads.move rfl) ?_
          refine XR.rd rfl rfl rfl (Reads.index_slot (q := i * 4) Tryd.underlying37 z24 rfl rfl (by omega) (vec_isSomes (k := i * 4 + 0) hV1 (partF_cell hi3 0 _ rfl)) (by omega)) ?_
          refine XR.rd rfl rfl rfl (Reads.load_agg_vecs (V := V1) (vs := (bareF x)[i].cells) k24 z24 rfl hV1 (e := 24) (List.mem_of_getElem? (i := 0) rfl) (Nat.succ_pos _) (partF_cell hi3)) ?_
          refine XR.callp rfl rfl rfl en41 (rseal_any x.key (bareF x)[i] _ (by omega) (hbi _ (List.getElem_mem hi3))) ⟨rfl, rfl, trivial⟩ (List.Sublist.refl _) ?_
          refine XR.rd rfl rfl rfl (Reads.index_slot (q := i * 4) Tryd.underlying37 z24 rfl rfl (by omega) (vec_isSomes (k := i * 4 + 0) hV1 (partF_cell hi3 0 _ rfl)) (by omega)) ?_
          refine XR.rd rfl rfl rfl (fs24_3 rfl (vec_addr (k := i * 4 + 0) hV1 (partF_cell hi3 0 _ rfl))) ?_
          refine XR.store_vecs (V := V1) (e := 24) 0 rfl rfl z9 rfl rfl rfl hV1 rfl (partF_cell hi3 3 _ rfl) rfl ?_
          intro V' hV' hval
          rw [partF_seal hi3] at hV'
          rw [← hval]
          refine XR.nil ?_
          refine XQ.block_normal ?_
          refine XQ.then_normal ?_
          refine XC.weaken (E' := [(0, _), (3, _), (5, _)]) ⟨rfl, rfl, rfl, trivial⟩ ?_
          refine XC.region ?_
          refine XO.rd rfl rfl rfl (Reads.move rfl) ?_
          refine XO.rd rfl rfl rfl (Reads.add rfl rfl (by omega)) ?_
          refine XO.rd rfl rfl rfl (Reads.assign rfl) ?_
          refine XO.nil ?_
          have hl2 : V'.len = V1.len := by have h1 := hV'.len; have h2 := hV1.len; rw [pktC_len, partF_len] at h1 h2; omega
          refine XQ.back (i + 1, V') ⟨by simp only; omega, by simp only; omega, hV'⟩ (by simp only; omega) ⟨rfl, rfl, rfl, trivial⟩ rfl (List.Perm.refl _)
        · skip
          simp only [cmpInt, decide_eq_false_iff_not] at h4
          have hie : i = (bareF x).length := by omega
          subst hie
          rw [partF_all] at hV1
          refine XC.exit ?_
          refine XQ.then_exit ?_
          refine XQ.then_exit ?_
          refine XQ.block_exit ?_
          refine XQ.then_normal ?_
          refine XC.seq ?_
          refine XC.region ?_
          refine XO.rd rfl rfl rfl (Reads.move rfl) ?_
          refine XO.rd rfl rfl rfl (Reads.assign rfl) ?_
          refine XO.nil ?_
          refine XQ.then_normal ?_
          refine XC.ret ?_
          refine XQ.done1 (L := V1.ent 24 :: refL b x r) rfl rfl (Im.le_refl _) ?_
          exact ⟨V1, rfl, rfl, rfl, hV1, by rw [hl1, hVl2, outF, List.length_map]⟩
      · skip
        simp only [cmpInt, beq_eq_false_iff_ne] at h3
        rw [hje] at hO
        have hOl := hO.len
        rw [pktC_len, List.length_take, wF_len, Nat.min_self] at hOl
        have hmany : x.many = min 4 (x.sent.length - x.acked) := rfl
        have hV : O.Is 4 (pktC (bareF x)) := by rw [← wF_bare (by omega)]; rw [List.take_of_length_le (by rw [wF_len]; omega)] at hO; exact hO
        obtain ⟨V, hVe⟩ : ∃ V, V = O := ⟨_, rfl⟩
        rw [← hVe] at hV ⊢
        refine XC.skip ?_
        refine XQ.then_normal ?_
        refine XC.seq ?_
        refine XC.seq ?_
        refine XC.region ?_
        refine XO.rd rfl rfl rfl (Reads.assign rfl) ?_
        refine XO.nil ?_
        refine XQ.then_normal ?_
        refine XC.block ?_
        have hVl2 : V.len = (bareF x).length := by have := hV.len; rw [pktC_len] at this; omega
        refine XC.loop (ι := Nat × Vec) (fun q => [(0, .pointer (some ⟨b, 0, none⟩)), (3, q.2.val), (5, .int .i64 q.1)]) (fun q => I) (fun q => q.2.ent 24 :: refL b x r ++ Lf) (fun q => q.1 ≤ (bareF x).length ∧ q.2.len = V.len ∧ q.2.Is 4 (pktC (partF (sealed x.key) (bareF x) q.1))) (fun q => (bareF x).length - q.1) (0, V) ⟨Nat.zero_le _, rfl, by simpa [partF] using hV⟩ ⟨rfl, rfl, rfl, trivial⟩ rfl (List.Perm.refl _) (fun q hq => ?_)
        obtain ⟨i, V1⟩ := q
        obtain ⟨hi1, hl1, hV1⟩ := hq
        simp only at hi1 hl1 hV1 ⊢
        refine XC.seq ?_
        refine XC.seq ?_
        refine XC.region ?_
        refine XO.rd rfl rfl rfl (Reads.move rfl) ?_
        refine XO.rd rfl rfl rfl (Reads.move rfl) ?_
        refine XO.rd rfl rfl rfl (Reads.len_slice Tryd.underlying37 rfl) ?_
        refine XO.rd rfl rfl rfl (Reads.cmp rfl rfl rfl) ?_
        refine XO.nil ?_
        refine XQ.then_normal ?_
        refine XC.cond rfl (fun h5 => ?_) (fun h5 => ?_)
        · skip
          simp only [cmpInt, decide_eq_true_eq] at h5
          have hi3 : i < (bareF x).length := by omega
          refine XC.skip ?_
          refine XQ.then_normal ?_
          refine XC.seq ?_
          refine XC.block ?_
          refine XC.draw m_mixed (some 13) (.pure 0 (.pure 1 (.pure 2 (.pure 3 (.pure 4 (.pure 5 (.pure 6 (.pure 7 (.pure 8 (.pure 9 (.eff 10 (.pure 11 (.pure 12 (.eff 13 (.done))))))))))))))) _ (by kernel_rfl) (List.Sublist.refl _) ?_
          refine XR.rd rfl rfl rfl (Reads.move rfl) ?_
          refine XR.rd rfl rfl rfl (Reads.move rfl) ?_
          refine XR.rd rfl rfl rfl (Reads.move rfl) ?_
          refine XR.rd rfl rfl rfl (Reads.nilCheck rfl) ?_
          refine XR.rd rfl rfl rfl (fa69_0 rfl) ?_
          refine XR.rd rfl rfl rfl (Reads.load_own (v := .string x.key) k9 rfl (OwnAt.of 1 rfl rfl)) ?_
          refine XR.rd rfl rfl rfl (Reads.move rfl) ?_
          refine XR.rd rfl rfl rfl (Reads.move rfl) ?_
          refine XR.rd rfl rfl rfl (Reads.index_slot (q := i * 4) Tryd.underlying37 z24 rfl rfl (by omega) (vec_isSomes (k := i * 4 + 0) hV1 (partF_cell hi3 0 _ rfl)) (by omega)) ?_
          refine XR.rd rfl rfl rfl (Reads.load_agg_vecs (V := V1) (vs := (bareF x)[i].cells) k24 z24 rfl hV1 (e := 24) (List.mem_of_getElem? (i := 0) rfl) (Nat.succ_pos _) (partF_cell hi3)) ?_
          refine XR.callp rfl rfl rfl en41 (rseal_any x.key (bareF x)[i] _ (by omega) (hbi _ (List.getElem_mem hi3))) ⟨rfl, rfl, trivial⟩ (List.Sublist.refl _) ?_
          refine XR.rd rfl rfl rfl (Reads.index_slot (q := i * 4) Tryd.underlying37 z24 rfl rfl (by omega) (vec_isSomes (k := i * 4 + 0) hV1 (partF_cell hi3 0 _ rfl)) (by omega)) ?_
          refine XR.rd rfl rfl rfl (fs24_3 rfl (vec_addr (k := i * 4 + 0) hV1 (partF_cell hi3 0 _ rfl))) ?_
          refine XR.store_vecs (V := V1) (e := 24) 0 rfl rfl z9 rfl rfl rfl hV1 rfl (partF_cell hi3 3 _ rfl) rfl ?_
          intro V' hV' hval
          rw [partF_seal hi3] at hV'
          rw [← hval]
          refine XR.nil ?_
          refine XQ.block_normal ?_
          refine XQ.then_normal ?_
          refine XC.region ?_
          refine XO.rd rfl rfl rfl (Reads.move rfl) ?_
          refine XO.rd rfl rfl rfl (Reads.add rfl rfl (by omega)) ?_
          refine XO.rd rfl rfl rfl (Reads.assign rfl) ?_
          refine XO.nil ?_
          have hl2 : V'.len = V1.len := by have h1 := hV'.len; have h2 := hV1.len; rw [pktC_len, partF_len] at h1 h2; omega
          refine XQ.back (i + 1, V') ⟨by simp only; omega, by simp only; omega, hV'⟩ (by simp only; omega) ⟨rfl, rfl, rfl, trivial⟩ rfl (List.Perm.refl _)
        · skip
          simp only [cmpInt, decide_eq_false_iff_not] at h5
          have hie : i = (bareF x).length := by omega
          subst hie
          rw [partF_all] at hV1
          refine XC.exit ?_
          refine XQ.then_exit ?_
          refine XQ.then_exit ?_
          refine XQ.block_exit ?_
          refine XQ.then_normal ?_
          refine XC.seq ?_
          refine XC.region ?_
          refine XO.rd rfl rfl rfl (Reads.move rfl) ?_
          refine XO.rd rfl rfl rfl (Reads.assign rfl) ?_
          refine XO.nil ?_
          refine XQ.then_normal ?_
          refine XC.ret ?_
          refine XQ.done1 (L := V1.ent 24 :: refL b x r) rfl rfl (Im.le_refl _) ?_
          exact ⟨V1, rfl, rfl, rfl, hV1, by rw [hl1, hVl2, outF, List.length_map]⟩
  · skip
    simp only [cmpInt, decide_eq_false_iff_not] at h1
    have hje : j = x.many := by have : x.many = min 4 (x.sent.length - x.acked) := rfl; omega
    refine XO.s (wg rfl rfl rfl) rfl ?_
    refine XO.s (wg rfl rfl rfl) rfl ?_
    refine XO.s (wg rfl rfl rfl) rfl ?_
    refine XO.s (wg rfl rfl rfl) rfl ?_
    refine XO.s (wg rfl rfl rfl) rfl ?_
    refine XO.s (wg rfl rfl rfl) rfl ?_
    refine XO.s (wg rfl rfl rfl) rfl ?_
    refine XO.rd rfl rfl rfl (Reads.pick_false rfl rfl) ?_
    refine XO.nil ?_
    refine XQ.then_normal ?_
    refine XC.cond rfl (fun hx => by cases hx) (fun _ => ?_)
    refine XC.exit ?_
    refine XQ.then_exit ?_
    refine XQ.then_exit ?_
    refine XQ.block_exit ?_
    refine XQ.then_normal ?_
    refine XC.seq ?_
    refine XC.seq ?_
    refine XC.region ?_
    refine XO.rd rfl rfl rfl (Reads.move rfl) ?_
    refine XO.rd rfl rfl rfl (Reads.len_slice Tryd.underlying37 rfl) ?_
    refine XO.rd rfl rfl rfl (Reads.cmp rfl rfl rfl) ?_
    refine XO.nil ?_
    refine XQ.then_normal ?_
    refine XC.cond rfl (fun h6 => ?_) (fun h6 => ?_)
    · skip
      simp only [cmpInt, beq_iff_eq] at h6
      rw [hje] at hO
      have hOl := hO.len
      rw [pktC_len, List.length_take, wF_len, Nat.min_self] at hOl
      have hmany : x.many = min 4 (x.sent.length - x.acked) := rfl
      refine XC.region ?_
      refine XO.rd rfl rfl rfl (Reads.move rfl) ?_
      refine XO.rd rfl rfl rfl (Reads.move rfl) ?_
      refine XO.rd rfl rfl rfl (Reads.nilCheck rfl) ?_
      refine XO.rd rfl rfl rfl (fa69_4 rfl) ?_
      refine XO.rd rfl rfl rfl (Reads.load_own k3 rfl (by first | exact OwnAt.of 0 rfl rfl | exact OwnAt.of 1 rfl rfl | exact OwnAt.of 2 rfl rfl | exact OwnAt.of 3 rfl rfl | exact OwnAt.of 4 rfl rfl | exact OwnAt.of 5 rfl rfl)) ?_
      refine XO.rd rfl rfl rfl (bd24 (vs := [(1, _)]) #[.int .i64 0, _, .string ⟨#[]⟩, .string ⟨#[]⟩] ⟨rfl, rfl, trivial⟩ rfl) ?_
      refine XO.buildL [.agg #[.int .i64 0, .int .i64 (x.got : Int), .string ⟨#[]⟩, .string ⟨#[]⟩]] [.int .i64 0, .int .i64 (x.got : Int), .string ⟨#[]⟩, .string ⟨#[]⟩] rfl rfl Tryd.underlying37 el24 rfl (by simp) ⟨rfl, rfl, trivial⟩ rfl rfl (fun bu => ?_)
      refine XO.append (V := O) (news := [.int .i64 0, .int .i64 (x.got : Int), .string ⟨#[]⟩, .string ⟨#[]⟩]) 1 rfl rfl Tryd.underlying37 el24 rfl rfl hO rfl (.slice Tryd.underlying37 (readable_row 0 rfl rfl) rfl (by intro v hv; simp at hv; rcases hv with rfl | rfl | rfl | rfl <;> rfl)) (by omega) (by omega) ?_
      intro V hV _
      refine XO.dropn 1 ?_
      refine XO.own_eq (L' := V.ent 24 :: refL b x r ++ Lf) rfl ?_
      replace hV : V.Is 4 (pktC (bareF x)) := by rw [bareF_none (by omega)]; rw [List.length_eq_zero_iff.1 (show ((wF x).take x.many).length = 0 by rw [List.length_take, wF_len]; omega)] at hV; exact hV
      refine XO.rd rfl rfl rfl (Reads.assign rfl) ?_
      refine XO.nil ?_
      refine XQ.then_normal ?_
      refine XC.seq ?_
      refine XC.seq ?_
      refine XC.region ?_
      refine XO.rd rfl rfl rfl (Reads.assign rfl) ?_
      refine XO.nil ?_
      refine XQ.then_normal ?_
      refine XC.block ?_
      have hVl2 : V.len = (bareF x).length := by have := hV.len; rw [pktC_len] at this; omega
      refine XC.loop (ι := Nat × Vec) (fun q => [(0, .pointer (some ⟨b, 0, none⟩)), (3, q.2.val), (5, .int .i64 q.1)]) (fun q => I) (fun q => q.2.ent 24 :: refL b x r ++ Lf) (fun q => q.1 ≤ (bareF x).length ∧ q.2.len = V.len ∧ q.2.Is 4 (pktC (partF (sealed x.key) (bareF x) q.1))) (fun q => (bareF x).length - q.1) (0, V) ⟨Nat.zero_le _, rfl, by simpa [partF] using hV⟩ ⟨rfl, rfl, rfl, trivial⟩ rfl (List.Perm.refl _) (fun q hq => ?_)
      obtain ⟨i, V1⟩ := q
      obtain ⟨hi1, hl1, hV1⟩ := hq
      simp only at hi1 hl1 hV1 ⊢
      refine XC.seq ?_
      refine XC.seq ?_
      refine XC.region ?_
      refine XO.rd rfl rfl rfl (Reads.move rfl) ?_
      refine XO.rd rfl rfl rfl (Reads.move rfl) ?_
      refine XO.rd rfl rfl rfl (Reads.len_slice Tryd.underlying37 rfl) ?_
      refine XO.rd rfl rfl rfl (Reads.cmp rfl rfl rfl) ?_
      refine XO.nil ?_
      refine XQ.then_normal ?_
      refine XC.cond rfl (fun h7 => ?_) (fun h7 => ?_)
      · skip
        simp only [cmpInt, decide_eq_true_eq] at h7
        have hi3 : i < (bareF x).length := by omega
        refine XC.skip ?_
        refine XQ.then_normal ?_
        refine XC.seq ?_
        refine XC.block ?_
        refine XC.draw m_mixed (some 13) (.pure 0 (.pure 1 (.pure 2 (.pure 3 (.pure 4 (.pure 5 (.pure 6 (.pure 7 (.pure 8 (.pure 9 (.eff 10 (.pure 11 (.pure 12 (.eff 13 (.done))))))))))))))) _ (by kernel_rfl) (List.Sublist.refl _) ?_
        refine XR.rd rfl rfl rfl (Reads.move rfl) ?_
        refine XR.rd rfl rfl rfl (Reads.move rfl) ?_
        refine XR.rd rfl rfl rfl (Reads.move rfl) ?_
        refine XR.rd rfl rfl rfl (Reads.nilCheck rfl) ?_
        refine XR.rd rfl rfl rfl (fa69_0 rfl) ?_
        refine XR.rd rfl rfl rfl (Reads.load_own (v := .string x.key) k9 rfl (OwnAt.of 1 rfl rfl)) ?_
        refine XR.rd rfl rfl rfl (Reads.move rfl) ?_
        refine XR.rd rfl rfl rfl (Reads.move rfl) ?_
        refine XR.rd rfl rfl rfl (Reads.index_slot (q := i * 4) Tryd.underlying37 z24 rfl rfl (by omega) (vec_isSomes (k := i * 4 + 0) hV1 (partF_cell hi3 0 _ rfl)) (by omega)) ?_
        refine XR.rd rfl rfl rfl (Reads.load_agg_vecs (V := V1) (vs := (bareF x)[i].cells) k24 z24 rfl hV1 (e := 24) (List.mem_of_getElem? (i := 0) rfl) (Nat.succ_pos _) (partF_cell hi3)) ?_
        refine XR.callp rfl rfl rfl en41 (rseal_any x.key (bareF x)[i] _ (by omega) (hbi _ (List.getElem_mem hi3))) ⟨rfl, rfl, trivial⟩ (List.Sublist.refl _) ?_
        refine XR.rd rfl rfl rfl (Reads.index_slot (q := i * 4) Tryd.underlying37 z24 rfl rfl (by omega) (vec_isSomes (k := i * 4 + 0) hV1 (partF_cell hi3 0 _ rfl)) (by omega)) ?_
        refine XR.rd rfl rfl rfl (fs24_3 rfl (vec_addr (k := i * 4 + 0) hV1 (partF_cell hi3 0 _ rfl))) ?_
        refine XR.store_vecs (V := V1) (e := 24) 0 rfl rfl z9 rfl rfl rfl hV1 rfl (partF_cell hi3 3 _ rfl) rfl ?_
        intro V' hV' hval
        rw [partF_seal hi3] at hV'
        rw [← hval]
        refine XR.nil ?_
        refine XQ.block_normal ?_
        refine XQ.then_normal ?_
        refine XC.weaken (E' := [(0, _), (3, _), (5, _)]) ⟨rfl, rfl, rfl, trivial⟩ ?_
        refine XC.region ?_
        refine XO.rd rfl rfl rfl (Reads.move rfl) ?_
        refine XO.rd rfl rfl rfl (Reads.add rfl rfl (by omega)) ?_
        refine XO.rd rfl rfl rfl (Reads.assign rfl) ?_
        refine XO.nil ?_
        have hl2 : V'.len = V1.len := by have h1 := hV'.len; have h2 := hV1.len; rw [pktC_len, partF_len] at h1 h2; omega
        refine XQ.back (i + 1, V') ⟨by simp only; omega, by simp only; omega, hV'⟩ (by simp only; omega) ⟨rfl, rfl, rfl, trivial⟩ rfl (List.Perm.refl _)
      · skip
        simp only [cmpInt, decide_eq_false_iff_not] at h7
        have hie : i = (bareF x).length := by omega
        subst hie
        rw [partF_all] at hV1
        refine XC.exit ?_
        refine XQ.then_exit ?_
        refine XQ.then_exit ?_
        refine XQ.block_exit ?_
        refine XQ.then_normal ?_
        refine XC.seq ?_
        refine XC.region ?_
        refine XO.rd rfl rfl rfl (Reads.move rfl) ?_
        refine XO.rd rfl rfl rfl (Reads.assign rfl) ?_
        refine XO.nil ?_
        refine XQ.then_normal ?_
        refine XC.ret ?_
        refine XQ.done1 (L := V1.ent 24 :: refL b x r) rfl rfl (Im.le_refl _) ?_
        exact ⟨V1, rfl, rfl, rfl, hV1, by rw [hl1, hVl2, outF, List.length_map]⟩
    · skip
      simp only [cmpInt, beq_eq_false_iff_ne] at h6
      rw [hje] at hO
      have hOl := hO.len
      rw [pktC_len, List.length_take, wF_len, Nat.min_self] at hOl
      have hmany : x.many = min 4 (x.sent.length - x.acked) := rfl
      have hV : O.Is 4 (pktC (bareF x)) := by rw [← wF_bare (by omega)]; rw [List.take_of_length_le (by rw [wF_len]; omega)] at hO; exact hO
      obtain ⟨V, hVe⟩ : ∃ V, V = O := ⟨_, rfl⟩
      rw [← hVe] at hV ⊢
      refine XC.skip ?_
      refine XQ.then_normal ?_
      refine XC.seq ?_
      refine XC.seq ?_
      refine XC.region ?_
      refine XO.rd rfl rfl rfl (Reads.assign rfl) ?_
      refine XO.nil ?_
      refine XQ.then_normal ?_
      refine XC.block ?_
      have hVl2 : V.len = (bareF x).length := by have := hV.len; rw [pktC_len] at this; omega
      refine XC.loop (ι := Nat × Vec) (fun q => [(0, .pointer (some ⟨b, 0, none⟩)), (3, q.2.val), (5, .int .i64 q.1)]) (fun q => I) (fun q => q.2.ent 24 :: refL b x r ++ Lf) (fun q => q.1 ≤ (bareF x).length ∧ q.2.len = V.len ∧ q.2.Is 4 (pktC (partF (sealed x.key) (bareF x) q.1))) (fun q => (bareF x).length - q.1) (0, V) ⟨Nat.zero_le _, rfl, by simpa [partF] using hV⟩ ⟨rfl, rfl, rfl, trivial⟩ rfl (List.Perm.refl _) (fun q hq => ?_)
      obtain ⟨i, V1⟩ := q
      obtain ⟨hi1, hl1, hV1⟩ := hq
      simp only at hi1 hl1 hV1 ⊢
      refine XC.seq ?_
      refine XC.seq ?_
      refine XC.region ?_
      refine XO.rd rfl rfl rfl (Reads.move rfl) ?_
      refine XO.rd rfl rfl rfl (Reads.move rfl) ?_
      refine XO.rd rfl rfl rfl (Reads.len_slice Tryd.underlying37 rfl) ?_
      refine XO.rd rfl rfl rfl (Reads.cmp rfl rfl rfl) ?_
      refine XO.nil ?_
      refine XQ.then_normal ?_
      refine XC.cond rfl (fun h8 => ?_) (fun h8 => ?_)
      · skip
        simp only [cmpInt, decide_eq_true_eq] at h8
        have hi3 : i < (bareF x).length := by omega
        refine XC.skip ?_
        refine XQ.then_normal ?_
        refine XC.seq ?_
        refine XC.block ?_
        refine XC.draw m_mixed (some 13) (.pure 0 (.pure 1 (.pure 2 (.pure 3 (.pure 4 (.pure 5 (.pure 6 (.pure 7 (.pure 8 (.pure 9 (.eff 10 (.pure 11 (.pure 12 (.eff 13 (.done))))))))))))))) _ (by kernel_rfl) (List.Sublist.refl _) ?_
        refine XR.rd rfl rfl rfl (Reads.move rfl) ?_
        refine XR.rd rfl rfl rfl (Reads.move rfl) ?_
        refine XR.rd rfl rfl rfl (Reads.move rfl) ?_
        refine XR.rd rfl rfl rfl (Reads.nilCheck rfl) ?_
        refine XR.rd rfl rfl rfl (fa69_0 rfl) ?_
        refine XR.rd rfl rfl rfl (Reads.load_own (v := .string x.key) k9 rfl (OwnAt.of 1 rfl rfl)) ?_
        refine XR.rd rfl rfl rfl (Reads.move rfl) ?_
        refine XR.rd rfl rfl rfl (Reads.move rfl) ?_
        refine XR.rd rfl rfl rfl (Reads.index_slot (q := i * 4) Tryd.underlying37 z24 rfl rfl (by omega) (vec_isSomes (k := i * 4 + 0) hV1 (partF_cell hi3 0 _ rfl)) (by omega)) ?_
        refine XR.rd rfl rfl rfl (Reads.load_agg_vecs (V := V1) (vs := (bareF x)[i].cells) k24 z24 rfl hV1 (e := 24) (List.mem_of_getElem? (i := 0) rfl) (Nat.succ_pos _) (partF_cell hi3)) ?_
        refine XR.callp rfl rfl rfl en41 (rseal_any x.key (bareF x)[i] _ (by omega) (hbi _ (List.getElem_mem hi3))) ⟨rfl, rfl, trivial⟩ (List.Sublist.refl _) ?_
        refine XR.rd rfl rfl rfl (Reads.index_slot (q := i * 4) Tryd.underlying37 z24 rfl rfl (by omega) (vec_isSomes (k := i * 4 + 0) hV1 (partF_cell hi3 0 _ rfl)) (by omega)) ?_
        refine XR.rd rfl rfl rfl (fs24_3 rfl (vec_addr (k := i * 4 + 0) hV1 (partF_cell hi3 0 _ rfl))) ?_
        refine XR.store_vecs (V := V1) (e := 24) 0 rfl rfl z9 rfl rfl rfl hV1 rfl (partF_cell hi3 3 _ rfl) rfl ?_
        intro V' hV' hval
        rw [partF_seal hi3] at hV'
        rw [← hval]
        refine XR.nil ?_
        refine XQ.block_normal ?_
        refine XQ.then_normal ?_
        refine XC.region ?_
        refine XO.rd rfl rfl rfl (Reads.move rfl) ?_
        refine XO.rd rfl rfl rfl (Reads.add rfl rfl (by omega)) ?_
        refine XO.rd rfl rfl rfl (Reads.assign rfl) ?_
        refine XO.nil ?_
        have hl2 : V'.len = V1.len := by have h1 := hV'.len; have h2 := hV1.len; rw [pktC_len, partF_len] at h1 h2; omega
        refine XQ.back (i + 1, V') ⟨by simp only; omega, by simp only; omega, hV'⟩ (by simp only; omega) ⟨rfl, rfl, rfl, trivial⟩ rfl (List.Perm.refl _)
      · skip
        simp only [cmpInt, decide_eq_false_iff_not] at h8
        have hie : i = (bareF x).length := by omega
        subst hie
        rw [partF_all] at hV1
        refine XC.exit ?_
        refine XQ.then_exit ?_
        refine XQ.then_exit ?_
        refine XQ.block_exit ?_
        refine XQ.then_normal ?_
        refine XC.seq ?_
        refine XC.region ?_
        refine XO.rd rfl rfl rfl (Reads.move rfl) ?_
        refine XO.rd rfl rfl rfl (Reads.assign rfl) ?_
        refine XO.nil ?_
        refine XQ.then_normal ?_
        refine XC.ret ?_
        refine XQ.done1 (L := V1.ent 24 :: refL b x r) rfl rfl (Im.le_refl _) ?_
        exact ⟨V1, rfl, rfl, rfl, hV1, by rw [hl1, hVl2, outF, List.length_map]⟩

end Go.Proofs.YtkjhhifhgcihpaaDoor
