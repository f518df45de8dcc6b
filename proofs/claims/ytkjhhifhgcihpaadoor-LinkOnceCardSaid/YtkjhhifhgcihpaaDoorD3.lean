/- Walks: the packets that go out, one after the other. -/
import Derived.Test.YtkjhhifhgcihpaaDoorD2
namespace Go.Proofs.YtkjhhifhgcihpaaDoor
open Go.Xe Go.Sh Go Go.Lk

theorem pk1_any (l bx b : Nat) (x : LEnd) (h : EH) (I : Im) (L0 : Own) (J : Nat → Own → Prop) (hE : EndIs x h) (h0 : J 0 L0) (hy : ∀ k L (hk : k < (bareF x).length), J k L → YS Tryd.prog l [(bareF x)[k].val] I L (fun b I' L' => b = true ∧ I' = I ∧ J (k + 1) L')) : FSo Tryd.prog 56 [.func (.yield l) #[] #[], .pointer (some ⟨bx, 0, none⟩)] I ((some (bx, .cells #[.pointer (some ⟨b, 0, none⟩)] 25 (0, 0)) :: endL b x h) ++ L0) (fun u I' L' => I' = I ∧ ∃ L1, L' = (some (bx, .cells #[.pointer (some ⟨b, 0, none⟩)] 25 (0, 0)) :: endL b x h) ++ L1 ∧ J (bareF x).length L1) := by
  have hVl := hE.len
  have hso := hE.ok.sent
  have hac := hE.ok.acked
  have hgo := hE.ok.got
  have hVc := hE.vec.le
  refine FSo.intro (n := 65) Tryd.func56 rfl rfl rfl (fun K Lf => ?_)
  refine XC.seq ?_
  refine XC.seq ?_
  refine XC.draw m_mixed none (.pure 0 (.pure 1 (.pure 2 (.pure 3 (.pure 4 (.pure 5 (.pure 6 (.pure 7 (.pure 8 (.pure 9 (.done))))))))))) _ (by kernel_rfl) (List.Sublist.refl _) ?_
  refine XR.rd rfl rfl rfl (Reads.load_own k25 rfl (by first | exact OwnAt.of 0 rfl rfl | exact OwnAt.of 1 rfl rfl | exact OwnAt.of 2 rfl rfl | exact OwnAt.of 3 rfl rfl | exact OwnAt.of 4 rfl rfl | exact OwnAt.of 5 rfl rfl)) ?_
  refine XR.rd rfl rfl rfl (Reads.nilCheck rfl) ?_
  refine XR.rd rfl rfl rfl (fa73_3 rfl) ?_
  refine XR.rd rfl rfl rfl (Reads.load_own k3 rfl (by first | exact OwnAt.of 0 rfl rfl | exact OwnAt.of 1 rfl rfl | exact OwnAt.of 2 rfl rfl | exact OwnAt.of 3 rfl rfl | exact OwnAt.of 4 rfl rfl | exact OwnAt.of 5 rfl rfl)) ?_
  refine XR.rd rfl rfl rfl (Reads.load_own k25 rfl (by first | exact OwnAt.of 0 rfl rfl | exact OwnAt.of 1 rfl rfl | exact OwnAt.of 2 rfl rfl | exact OwnAt.of 3 rfl rfl | exact OwnAt.of 4 rfl rfl | exact OwnAt.of 5 rfl rfl)) ?_
  refine XR.rd rfl rfl rfl (Reads.nilCheck rfl) ?_
  refine XR.rd rfl rfl rfl (fa73_2 rfl) ?_
  refine XR.rd rfl rfl rfl (Reads.load_own k44 rfl (by first | exact OwnAt.of 0 rfl rfl | exact OwnAt.of 1 rfl rfl | exact OwnAt.of 2 rfl rfl | exact OwnAt.of 3 rfl rfl | exact OwnAt.of 4 rfl rfl | exact OwnAt.of 5 rfl rfl)) ?_
  refine XR.rd rfl rfl rfl (Reads.len_slice Tryd.underlying44 rfl) ?_
  refine XR.rd rfl rfl rfl (Reads.cmp rfl rfl rfl) ?_
  refine XR.nil ?_
  refine XQ.then_normal ?_
  refine XC.cond rfl (fun h1 => ?_) (fun h1 => ?_)
  · skip
    simp only [cmpInt, beq_iff_eq] at h1
    have hx0 : x.acked = x.sent.length := by omega
    have hb1 := bareF_none hx0
    have hy0 : YS Tryd.prog l [.agg #[.int .i64 0, .int .i64 (x.got : Int), .string ⟨#[]⟩, .string ⟨#[]⟩]] I L0 (fun b I' L' => b = true ∧ I' = I ∧ J 1 L') := by have := hy 0 L0 (by rw [hb1]; exact Nat.one_pos) h0; simp only [hb1, List.getElem_cons_zero] at this; exact this
    refine XC.seq ?_
    refine XC.region ?_
    refine XO.rd rfl rfl rfl (Reads.move rfl) ?_
    refine XO.rd rfl rfl rfl (Reads.load_own k25 rfl (by first | exact OwnAt.of 0 rfl rfl | exact OwnAt.of 1 rfl rfl | exact OwnAt.of 2 rfl rfl | exact OwnAt.of 3 rfl rfl | exact OwnAt.of 4 rfl rfl | exact OwnAt.of 5 rfl rfl)) ?_
    refine XO.rd rfl rfl rfl (Reads.nilCheck rfl) ?_
    refine XO.rd rfl rfl rfl (fa73_4 rfl) ?_
    refine XO.rd rfl rfl rfl (Reads.load_own k3 rfl (by first | exact OwnAt.of 0 rfl rfl | exact OwnAt.of 1 rfl rfl | exact OwnAt.of 2 rfl rfl | exact OwnAt.of 3 rfl rfl | exact OwnAt.of 4 rfl rfl | exact OwnAt.of 5 rfl rfl)) ?_
    refine XO.rd rfl rfl rfl (bd24 (vs := [(1, _)]) #[.int .i64 0, _, .string ⟨#[]⟩, .string ⟨#[]⟩] ⟨rfl, rfl, trivial⟩ rfl) ?_
    refine XO.yield (vs := [_]) (L1 := L0) (Lf := (some (bx, .cells #[.pointer (some ⟨b, 0, none⟩)] 25 (0, 0)) :: endL b x h) ++ Lf) rfl rfl rfl ⟨rfl, trivial⟩ hy0 (perm3 _ _ _) ?_
    rintro y I2 L2 _ ⟨rfl, hI2, hJ2⟩
    replace hI2 := hI2.symm
    subst hI2
    refine XO.perm (perm3b _ _ _) ?_
    refine XO.nil ?_
    refine XQ.then_normal ?_
    refine XC.ret ?_
    refine XQ.then_ret ?_
    refine XQ.done0 (L := (some (bx, .cells #[.pointer (some ⟨b, 0, none⟩)] 25 (0, 0)) :: endL b x h) ++ L2) rfl (Im.le_refl _) ?_
    exact ⟨rfl, L2, rfl, by rw [hb1]; exact hJ2⟩
  · skip
    simp only [cmpInt, beq_eq_false_iff_ne] at h1
    have hx0 : ¬ x.acked = x.sent.length := by omega
    have hbl := bareF_wait hx0
    have hmn : x.many = min 4 (x.sent.length - x.acked) := rfl
    have hva : ∃ b o, h.V.addr = some ⟨b, o, none⟩ := vec_addr hE.vec (strC_get (i := x.acked) (by omega))
    have hvs := vec_isSomes hE.vec (strC_get (i := x.acked) (by omega))
    refine XC.skip ?_
    refine XQ.then_normal ?_
    refine XC.seq ?_
    refine XC.draw m_mixed none (.pure 0 (.pure 1 (.pure 2 (.pure 3 (.pure 4 (.pure 5 (.pure 6 (.pure 7 (.pure 8 (.pure 9 (.pure 10 (.pure 11 (.pure 12 (.pure 13 (.pure 14 (.pure 15 (.pure 16 (.pure 17 (.pure 18 (.pure 19 (.pure 20 (.pure 21 (.done))))))))))))))))))))))) _ (by kernel_rfl) (List.Sublist.refl _) ?_
    refine XR.rd rfl rfl rfl (Reads.load_own k25 rfl (by first | exact OwnAt.of 0 rfl rfl | exact OwnAt.of 1 rfl rfl | exact OwnAt.of 2 rfl rfl | exact OwnAt.of 3 rfl rfl | exact OwnAt.of 4 rfl rfl | exact OwnAt.of 5 rfl rfl)) ?_
    refine XR.rd rfl rfl rfl (Reads.nilCheck rfl) ?_
    refine XR.rd rfl rfl rfl (fa73_2 rfl) ?_
    refine XR.rd rfl rfl rfl (Reads.load_own k44 rfl (by first | exact OwnAt.of 0 rfl rfl | exact OwnAt.of 1 rfl rfl | exact OwnAt.of 2 rfl rfl | exact OwnAt.of 3 rfl rfl | exact OwnAt.of 4 rfl rfl | exact OwnAt.of 5 rfl rfl)) ?_
    refine XR.rd rfl rfl rfl (Reads.load_own k25 rfl (by first | exact OwnAt.of 0 rfl rfl | exact OwnAt.of 1 rfl rfl | exact OwnAt.of 2 rfl rfl | exact OwnAt.of 3 rfl rfl | exact OwnAt.of 4 rfl rfl | exact OwnAt.of 5 rfl rfl)) ?_
    refine XR.rd rfl rfl rfl (Reads.nilCheck rfl) ?_
    refine XR.rd rfl rfl rfl (fa73_3 rfl) ?_
    refine XR.rd rfl rfl rfl (Reads.load_own k3 rfl (by first | exact OwnAt.of 0 rfl rfl | exact OwnAt.of 1 rfl rfl | exact OwnAt.of 2 rfl rfl | exact OwnAt.of 3 rfl rfl | exact OwnAt.of 4 rfl rfl | exact OwnAt.of 5 rfl rfl)) ?_
    refine XR.rd rfl rfl rfl (Reads.load_own k25 rfl (by first | exact OwnAt.of 0 rfl rfl | exact OwnAt.of 1 rfl rfl | exact OwnAt.of 2 rfl rfl | exact OwnAt.of 3 rfl rfl | exact OwnAt.of 4 rfl rfl | exact OwnAt.of 5 rfl rfl)) ?_
    refine XR.rd rfl rfl rfl (Reads.nilCheck rfl) ?_
    refine XR.rd rfl rfl rfl (fa73_3 rfl) ?_
    refine XR.rd rfl rfl rfl (Reads.load_own k3 rfl (by first | exact OwnAt.of 0 rfl rfl | exact OwnAt.of 1 rfl rfl | exact OwnAt.of 2 rfl rfl | exact OwnAt.of 3 rfl rfl | exact OwnAt.of 4 rfl rfl | exact OwnAt.of 5 rfl rfl)) ?_
    refine XR.rd rfl rfl rfl (Reads.add rfl rfl (by omega)) ?_
    refine XR.rd rfl rfl rfl (Reads.load_own k25 rfl (by first | exact OwnAt.of 0 rfl rfl | exact OwnAt.of 1 rfl rfl | exact OwnAt.of 2 rfl rfl | exact OwnAt.of 3 rfl rfl | exact OwnAt.of 4 rfl rfl | exact OwnAt.of 5 rfl rfl)) ?_
    refine XR.rd rfl rfl rfl (Reads.nilCheck rfl) ?_
    refine XR.rd rfl rfl rfl (fa73_2 rfl) ?_
    refine XR.rd rfl rfl rfl (Reads.load_own k44 rfl (by first | exact OwnAt.of 0 rfl rfl | exact OwnAt.of 1 rfl rfl | exact OwnAt.of 2 rfl rfl | exact OwnAt.of 3 rfl rfl | exact OwnAt.of 4 rfl rfl | exact OwnAt.of 5 rfl rfl)) ?_
    refine XR.rd rfl rfl rfl (Reads.len_slice Tryd.underlying44 rfl) ?_
    refine XR.rd rfl rfl rfl (Reads.min rfl rfl) ?_
    rw [show min ((x.acked : Int) + 4) (h.V.len : Int) = ((x.acked + x.many : Nat) : Int) by omega]
    refine XR.rd rfl rfl rfl (Reads.slice_gen x.acked (x.acked + x.many) h.V.cap Tryd.underlying44 z9 rfl ⟨_, rfl⟩ ⟨_, rfl⟩ rfl (fun h => by cases h) (by omega) (by omega) (by omega)) ?_
    rw [show x.acked + x.many - x.acked = x.many by omega]
    refine XR.rd rfl rfl rfl (Reads.len_slice Tryd.underlying44 rfl) ?_
    refine XR.rd rfl rfl rfl (Reads.move rfl) ?_
    refine XR.nil ?_
    refine XQ.then_normal ?_
    refine XC.block ?_
    refine XC.loop (ι := Nat × Own) (fun q => [(0, .func (.yield l) #[] #[]), (1, .pointer (some ⟨bx, 0, none⟩)), (41, .slice (cutA h.V.addr h.V.cap x.acked 1) x.many (h.V.cap - x.acked)), (42, .int .i64 (x.many : Int)), (43, .int .i64 q.1)]) (fun q => I) (fun q => (some (bx, .cells #[.pointer (some ⟨b, 0, none⟩)] 25 (0, 0)) :: endL b x h) ++ q.2 ++ Lf) (fun q => q.1 ≤ x.many ∧ J q.1 q.2) (fun q => x.many - q.1) (0, L0) ⟨Nat.zero_le _, h0⟩ ⟨rfl, rfl, rfl, rfl, rfl, trivial⟩ rfl (List.Perm.refl _) (fun q hq => ?_)
    obtain ⟨k, L1⟩ := q
    obtain ⟨hk1, hJ⟩ := hq
    simp only at hk1 hJ ⊢
    refine XC.seq ?_
    refine XC.region ?_
    refine XO.rd rfl rfl rfl (Reads.cmp rfl rfl rfl) ?_
    refine XO.nil ?_
    refine XQ.then_normal ?_
    refine XC.seq ?_
    refine XC.cond rfl (fun h2 => ?_) (fun h2 => ?_)
    · skip
      simp only [cmpInt, decide_eq_true_eq] at h2
      have hk3 : k < (bareF x).length := by omega
      have hyk : YS Tryd.prog l [.agg #[.int .i64 ((x.acked + k + 1 : Nat) : Int), .int .i64 (x.got : Int), .string (x.sent.getD (x.acked + k) ⟨#[]⟩), .string ⟨#[]⟩]] I L1 (fun b I' L' => b = true ∧ I' = I ∧ J (k + 1) L') := by have := hy k L1 hk3 hJ; rw [bareF_get hx0] at this; exact this
      refine XC.skip ?_
      refine XQ.then_normal ?_
      refine XC.seq ?_
      refine XC.block ?_
      refine XC.seq ?_
      refine XC.region ?_
      refine XO.rd rfl rfl rfl (Reads.move rfl) ?_
      refine XO.rd rfl rfl rfl (Reads.index_slot (q := k) Tryd.underlying44 z9 rfl rfl (by omega) (cut_isSome hvs) (by omega)) ?_
      refine XO.rd rfl rfl rfl (Reads.load_vecs (V := h.V) (k := x.acked + k) (v := .string (x.sent.getD (x.acked + k) ⟨#[]⟩)) k9 (congrArg (fun a => some (Value.pointer a)) (slot_cut (by omega) hva)) hE.vec (e := 9) (List.mem_of_getElem? (i := 2) rfl) (strC_get (by omega))) ?_
      refine XO.rd rfl rfl rfl (Reads.assign rfl) ?_
      refine XO.rd rfl rfl rfl (Reads.assign rfl) ?_
      refine XO.nil ?_
      refine XQ.then_normal ?_
      refine XC.seq ?_
      refine XC.draw m_mixed none (.pure 0 (.pure 1 (.pure 2 (.pure 3 (.pure 4 (.pure 5 (.pure 6 (.pure 7 (.pure 8 (.pure 9 (.pure 10 (.pure 11 (.pure 12 (.pure 13 (.eff 14 (.pure 15 (.done))))))))))))))))) (some (bx, .cells #[.pointer (some ⟨b, 0, none⟩)] 25 (0, 0)) :: endL b x h) (by kernel_rfl) (by rw [List.append_assoc]; exact List.sublist_append_left _ _) ?_
      refine XR.rd rfl rfl rfl (Reads.move rfl) ?_
      refine XR.rd rfl rfl rfl (Reads.load_own k25 rfl (by first | exact OwnAt.of 0 rfl rfl | exact OwnAt.of 1 rfl rfl | exact OwnAt.of 2 rfl rfl | exact OwnAt.of 3 rfl rfl | exact OwnAt.of 4 rfl rfl | exact OwnAt.of 5 rfl rfl)) ?_
      refine XR.rd rfl rfl rfl (Reads.nilCheck rfl) ?_
      refine XR.rd rfl rfl rfl (fa73_3 rfl) ?_
      refine XR.rd rfl rfl rfl (Reads.load_own k3 rfl (by first | exact OwnAt.of 0 rfl rfl | exact OwnAt.of 1 rfl rfl | exact OwnAt.of 2 rfl rfl | exact OwnAt.of 3 rfl rfl | exact OwnAt.of 4 rfl rfl | exact OwnAt.of 5 rfl rfl)) ?_
      refine XR.rd rfl rfl rfl (Reads.move rfl) ?_
      refine XR.rd rfl rfl rfl (Reads.add rfl rfl (by omega)) ?_
      refine XR.rd rfl rfl rfl (Reads.add rfl rfl (by omega)) ?_
      rw [show (x.acked : Int) + (k : Int) + 1 = ((x.acked + k + 1 : Nat) : Int) by omega]
      refine XR.rd rfl rfl rfl (Reads.load_own k25 rfl (by first | exact OwnAt.of 0 rfl rfl | exact OwnAt.of 1 rfl rfl | exact OwnAt.of 2 rfl rfl | exact OwnAt.of 3 rfl rfl | exact OwnAt.of 4 rfl rfl | exact OwnAt.of 5 rfl rfl)) ?_
      refine XR.rd rfl rfl rfl (Reads.nilCheck rfl) ?_
      refine XR.rd rfl rfl rfl (fa73_4 rfl) ?_
      refine XR.rd rfl rfl rfl (Reads.load_own k3 rfl (by first | exact OwnAt.of 0 rfl rfl | exact OwnAt.of 1 rfl rfl | exact OwnAt.of 2 rfl rfl | exact OwnAt.of 3 rfl rfl | exact OwnAt.of 4 rfl rfl | exact OwnAt.of 5 rfl rfl)) ?_
      refine XR.rd rfl rfl rfl (Reads.move rfl) ?_
      refine XR.rd rfl rfl rfl (bd24 (vs := [(0, _), (1, _), (2, _)]) #[_, _, _, .string ⟨#[]⟩] ⟨rfl, rfl, rfl, rfl, rfl, rfl, trivial⟩ rfl) ?_
      refine XR.yield (vs := [_]) (L1 := L1) (Lf := (some (bx, .cells #[.pointer (some ⟨b, 0, none⟩)] 25 (0, 0)) :: endL b x h) ++ Lf) rfl rfl rfl rfl ⟨rfl, trivial⟩ hyk (perm3 _ _ _) ?_
      rintro y I2 L2 _ ⟨rfl, hI2, hJ2⟩
      replace hI2 := hI2.symm
      subst hI2
      refine ⟨.inr ((List.sublist_append_left _ _).trans (List.sublist_append_right _ _)), ?_⟩
      refine XR.rd rfl rfl rfl (Reads.not rfl) ?_
      refine XR.nil ?_
      refine XQ.then_normal ?_
      refine XC.cond rfl (fun hx => by cases hx) (fun _ => ?_)
      refine XC.skip ?_
      refine XQ.block_normal ?_
      refine XQ.then_normal ?_
      refine XC.weaken (E' := [(0, _), (1, _), (41, _), (42, _), (43, _)]) ⟨rfl, rfl, rfl, rfl, rfl, trivial⟩ ?_
      refine XC.region ?_
      refine XO.rd rfl rfl rfl (Reads.add rfl rfl (by omega)) ?_
      refine XO.rd rfl rfl rfl (Reads.move rfl) ?_
      refine XO.nil ?_
      refine XQ.back (k + 1, L2) ⟨by simp only; omega, hJ2⟩ (by simp only; omega) ⟨rfl, rfl, rfl, rfl, rfl, trivial⟩ rfl (perm3b _ _ _)
    · skip
      simp only [cmpInt, decide_eq_false_iff_not] at h2
      have hkk : k = (bareF x).length := by omega
      refine XC.exit ?_
      refine XQ.then_exit ?_
      refine XQ.then_exit ?_
      refine XQ.block_exit ?_
      refine XQ.done_normal ?_
      refine XQ.done0 (L := (some (bx, .cells #[.pointer (some ⟨b, 0, none⟩)] 25 (0, 0)) :: endL b x h) ++ L1) rfl (Im.le_refl _) ?_
      exact ⟨rfl, L1, rfl, by rw [← hkk]; exact hJ⟩

end Go.Proofs.YtkjhhifhgcihpaaDoor
