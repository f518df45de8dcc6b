/- Walk: the reference's Blame. -/
import Derived.Test.YtmlliafhpbfdbaaDoorMH
import Derived.Test.YtmlliafhpbfdbaaDoorK9
namespace Go.Proofs.YtmlliafhpbfdbaaDoor
open Go.Xe Go.Sh Go Go.At

set_option maxHeartbeats 1600000 in
theorem rblame_any (x : Att) (a ak aw : Option Addr) (cap ck cw : Nat) (keys : List ByteArray) (knows : List Int) (I : Im) (hA : Arr I a x.hs) (h63 : x.hs.length ≤ 9223372036854775807) (hK : Arr I ak keys) (hkl : keys.length ≤ 1000000) (hW : Arr I aw knows) (hcap : x.hs.length ≤ cap) : FC Tryd.prog 36 [.slice ak keys.length ck, .slice aw knows.length cw, .agg (x.cs a cap).toArray] I (fun u _I' => u = .tuple #[.int .i64 (blame keys knows x).1, .int .i64 (blame keys knows x).2]) := by
  have hI := Im.le_refl I
  refine FSo.intro (n := 81) Tryd.func36 rfl rfl rfl (fun K Lf => ?_)
  refine XC.seq ?_
  refine XC.region ?_
  refine XO.box_agg rfl rfl rfl (fun b5 => ?_)
  refine XO.rd rfl rfl rfl (Reads.assign rfl) ?_
  refine XO.rd rfl rfl rfl (Reads.assign rfl) ?_
  refine XO.nil ?_
  refine XQ.then_normal ?_
  refine XC.seq ?_
  refine XC.seq ?_
  refine XC.region ?_
  refine XO.rd rfl rfl rfl (Reads.load_whole k37 z37 rfl (by first | exact WholeAt.of 0 rfl | exact WholeAt.of 1 rfl | exact WholeAt.of 2 rfl | exact WholeAt.of 3 rfl | exact WholeAt.of 4 rfl | exact WholeAt.of 5 rfl) (by rfl)) ?_
  refine XO.callp rfl rfl en30 (rformed_any x a cap _ hA h63) ⟨rfl, trivial⟩ ?_
  refine XO.rd rfl rfl rfl (Reads.not rfl) ?_
  refine XO.rd rfl rfl rfl (Reads.move rfl) ?_
  refine XO.split (d := 16) rfl (fun h1 => ?_) (fun h1 => ?_)
  · skip
    simp only [Bool.not_eq_true'] at h1
    refine XO.s (wg rfl rfl rfl) rfl ?_
    refine XO.s (wg rfl rfl rfl) rfl ?_
    refine XO.s (wg rfl rfl rfl) rfl ?_
    refine XO.rd rfl rfl rfl (Reads.pick_true rfl rfl) ?_
    refine XO.rd rfl rfl rfl (Reads.move rfl) ?_
    refine XO.s (wg rfl rfl rfl) rfl ?_
    refine XO.s (wg rfl rfl rfl) rfl ?_
    refine XO.s (wg rfl rfl rfl) rfl ?_
    refine XO.rd rfl rfl rfl (Reads.pick_true rfl rfl) ?_
    refine XO.nil ?_
    refine XQ.then_normal ?_
    refine XC.cond rfl (fun _ => ?_) (fun hx => by cases hx)
    refine XC.seq ?_
    refine XC.region ?_
    refine XO.rd rfl rfl rfl (Reads.assign rfl) ?_
    refine XO.rd rfl rfl rfl (Reads.assign rfl) ?_
    refine XO.nil ?_
    refine XQ.then_normal ?_
    refine XC.ret ?_
    refine XQ.then_ret ?_
    refine XQ.dropn 1 ?_
    refine XQ.done2 (L := []) rfl rfl rfl hI ?_
    exact ⟨rfl, by rw [blame_no (by simp [*])]⟩
  · skip
    simp only [Bool.not_eq_false'] at h1
    have hf : x.formed = true := h1
    have hle8 := formed_len hf
    have hn9 : x.hs.length ≤ 9 := by omega
    have hsz := formed_sz hf
    have hin := formed_in hf
    have hdi := formed_d hf
    refine XO.rd (wg rfl rfl rfl) rfl rfl (Reads.move rfl) ?_
    refine XO.callp (wg rfl rfl rfl) rfl en64 (rkeys_any ak ck keys true _ hK hkl) ⟨rfl, rfl, trivial⟩ ?_
    refine XO.rd (wg rfl rfl rfl) rfl rfl (Reads.not rfl) ?_
    refine XO.rd rfl rfl rfl (Reads.pick_false rfl rfl) ?_
    refine XO.rd rfl rfl rfl (Reads.move rfl) ?_
    refine XO.split (d := 21) rfl (fun h2 => ?_) (fun h2 => ?_)
    · skip
      simp only [Bool.not_eq_true'] at h2
      have hfk : fullKeys keys = false := h2
      refine XO.s (wg rfl rfl rfl) rfl ?_
      refine XO.s (wg rfl rfl rfl) rfl ?_
      refine XO.s (wg rfl rfl rfl) rfl ?_
      refine XO.rd rfl rfl rfl (Reads.pick_true rfl rfl) ?_
      refine XO.nil ?_
      refine XQ.then_normal ?_
      refine XC.cond rfl (fun _ => ?_) (fun hx => by cases hx)
      refine XC.seq ?_
      refine XC.region ?_
      refine XO.rd rfl rfl rfl (Reads.assign rfl) ?_
      refine XO.rd rfl rfl rfl (Reads.assign rfl) ?_
      refine XO.nil ?_
      refine XQ.then_normal ?_
      refine XC.ret ?_
      refine XQ.then_ret ?_
      refine XQ.dropn 1 ?_
      refine XQ.done2 (L := []) rfl rfl rfl hI ?_
      exact ⟨rfl, by rw [blame_no (by simp [*])]⟩
    · skip
      simp only [Bool.not_eq_false'] at h2
      have hfk : fullKeys keys = true := h2
      have hk8 := (fullKeys_iff.1 hfk).1
      have hks := full_size hfk
      refine XO.rd (wg rfl rfl rfl) rfl rfl (Reads.move rfl) ?_
      refine XO.rd (wg rfl rfl rfl) rfl rfl (Reads.len_slice Tryd.underlying23 rfl) ?_
      refine XO.rd (wg rfl rfl rfl) rfl rfl (Reads.cmp rfl rfl rfl) ?_
      refine XO.rd rfl rfl rfl (Reads.pick_false rfl rfl) ?_
      refine XO.nil ?_
      refine XQ.then_normal ?_
      refine XC.cond rfl (fun h3 => ?_) (fun h3 => ?_)
      · skip
        simp only [cmpInt, bne_iff_ne, ne_eq] at h3
        have hw8 : ¬ knows.length = 8 := by omega
        refine XC.seq ?_
        refine XC.region ?_
        refine XO.rd rfl rfl rfl (Reads.assign rfl) ?_
        refine XO.rd rfl rfl rfl (Reads.assign rfl) ?_
        refine XO.nil ?_
        refine XQ.then_normal ?_
        refine XC.ret ?_
        refine XQ.then_ret ?_
        refine XQ.dropn 1 ?_
        refine XQ.done2 (L := []) rfl rfl rfl hI ?_
        exact ⟨rfl, by rw [blame_no (by simp [okKnows, hw8])]⟩
      · skip
        simp only [cmpInt, bne_eq_false_iff_eq] at h3
        have hw8 : knows.length = 8 := by omega
        refine XC.skip ?_
        refine XQ.then_normal ?_
        refine XC.seq ?_
        refine XC.seq ?_
        refine XC.region ?_
        refine XO.rd rfl rfl rfl (Reads.assign rfl) ?_
        refine XO.nil ?_
        refine XQ.then_normal ?_
        refine XC.block ?_
        refine XC.loop (ι := Nat) (fun q => [(0, .slice ak keys.length ck), (1, .slice aw knows.length cw), (5, .pointer (some ⟨b5, 0, none⟩)), (8, .int .i64 q)]) (fun q => I) (fun q => some (b5, .cells (x.cs a cap).toArray 37 (0, 0)) :: ([] ++ Lf)) (fun q => q ≤ knows.length ∧ ∀ (j : Nat) (hj : j < knows.length), j < q → inB knows[j] 0 255 = true) (fun q => knows.length - q) 0 ⟨Nat.zero_le _, fun _ _ h => absurd h (Nat.not_lt_zero _)⟩ ⟨rfl, rfl, rfl, rfl, trivial⟩ rfl (List.Perm.refl _) (fun j hj => ?_)
        obtain ⟨hj1, hj2⟩ := hj
        refine XC.seq ?_
        refine XC.seq ?_
        refine XC.region ?_
        refine XO.rd rfl rfl rfl (Reads.move rfl) ?_
        refine XO.rd rfl rfl rfl (Reads.move rfl) ?_
        refine XO.rd rfl rfl rfl (Reads.len_slice Tryd.underlying23 rfl) ?_
        refine XO.rd rfl rfl rfl (Reads.cmp rfl rfl rfl) ?_
        refine XO.nil ?_
        refine XQ.then_normal ?_
        refine XC.cond rfl (fun h4 => ?_) (fun h4 => ?_)
        · skip
          simp only [cmpInt, decide_eq_true_eq] at h4
          have hj3 : j < knows.length := by omega
          refine XC.skip ?_
          refine XQ.then_normal ?_
          refine XC.seq ?_
          refine XC.block ?_
          refine XC.seq ?_
          refine XC.region ?_
          refine XO.rd rfl rfl rfl (Reads.move rfl) ?_
          refine XO.rd rfl rfl rfl (Reads.move rfl) ?_
          refine XO.rd rfl rfl rfl (Reads.index_slot Tryd.underlying23 z3 rfl rfl (by omega) (hW.isSome (by decide) (by omega)) rfl) ?_
          refine XO.rd rfl rfl rfl (Reads.load_at k3 rfl (hW.int hj3)) ?_
          refine XO.callp rfl rfl en63 (rin_any _ _ _ _) ⟨rfl, rfl, rfl, trivial⟩ ?_
          refine XO.rd rfl rfl rfl (Reads.not rfl) ?_
          refine XO.nil ?_
          refine XQ.then_normal ?_
          refine XC.cond rfl (fun h5 => ?_) (fun h5 => ?_)
          · skip
            simp only [Bool.not_eq_true'] at h5
            refine XC.seq ?_
            refine XC.region ?_
            refine XO.rd rfl rfl rfl (Reads.assign rfl) ?_
            refine XO.rd rfl rfl rfl (Reads.assign rfl) ?_
            refine XO.nil ?_
            refine XQ.then_normal ?_
            refine XC.ret ?_
            refine XQ.block_ret ?_
            refine XQ.then_ret ?_
            refine XQ.then_ret ?_
            refine XQ.block_ret ?_
            refine XQ.then_ret ?_
            refine XQ.dropn 1 ?_
            refine XQ.done2 (L := []) rfl rfl rfl hI ?_
            exact ⟨rfl, by rw [blame_no (by rw [okKnows_bad hj3 (by assumption)]; simp)]⟩
          · skip
            simp only [Bool.not_eq_false'] at h5
            have hin := h5
            refine XC.skip ?_
            refine XQ.block_normal ?_
            refine XQ.then_normal ?_
            refine XC.region ?_
            refine XO.rd rfl rfl rfl (Reads.move rfl) ?_
            refine XO.rd rfl rfl rfl (Reads.add rfl rfl (by omega)) ?_
            refine XO.rd rfl rfl rfl (Reads.assign rfl) ?_
            refine XO.nil ?_
            refine XQ.back (j + 1) ⟨by omega, fun q h hq => by rcases Nat.lt_succ_iff_lt_or_eq.1 hq with h9 | rfl; exact hj2 q h h9; exact hin⟩ (by omega) ⟨rfl, rfl, rfl, rfl, trivial⟩ rfl (List.Perm.refl _)
        · skip
          simp only [cmpInt, decide_eq_false_iff_not] at h4
          have hok := okKnows_of hw8 (fun q hq => hj2 q hq (by omega))
          have hwk := okKnows_in (show knows.any (fun n => !inB n 0 255) = false by rw [okKnows_any hw8] at hok; simpa using hok)
          refine XC.exit ?_
          refine XQ.then_exit ?_
          refine XQ.then_exit ?_
          refine XQ.block_exit ?_
          refine XQ.then_normal ?_
          refine XC.seq ?_
          refine XC.seq ?_
          refine XC.region ?_
          refine XO.rd rfl rfl rfl (Reads.assign rfl) ?_
          refine XO.nil ?_
          refine XQ.then_normal ?_
          refine XC.block ?_
          refine XC.loop (ι := Nat × Im) (fun q => [(0, .slice ak keys.length ck), (1, .slice aw knows.length cw), (5, .pointer (some ⟨b5, 0, none⟩)), (9, .int .i64 q.1)]) (fun q => q.2) (fun q => some (b5, .cells (x.cs a cap).toArray 37 (0, 0)) :: ([] ++ Lf)) (fun q => q.1 ≤ x.hs.length ∧ I.le q.2 ∧ Arr q.2 a x.hs ∧ Arr q.2 ak keys ∧ Arr q.2 aw knows ∧ ∀ i, i < q.1 → bad keys knows x i = false) (fun q => x.hs.length - q.1) (0, _) ⟨Nat.zero_le _, hI, hA, hK, hW, fun _ h => absurd h (Nat.not_lt_zero _)⟩ ⟨rfl, rfl, rfl, rfl, trivial⟩ rfl (List.Perm.refl _) (fun q hq => ?_)
          obtain ⟨i, M⟩ := q
          obtain ⟨hi1, hI, hA, hK, hW, hi2⟩ := hq
          simp only at hi1 hI hA hK hW hi2 ⊢
          refine XC.seq ?_
          refine XC.seq ?_
          refine XC.region ?_
          refine XO.rd rfl rfl rfl (Reads.move rfl) ?_
          refine XO.rd rfl rfl rfl (fa37_1 rfl) ?_
          refine XO.rd rfl rfl rfl (Reads.load_own k35 rfl (by first | exact OwnAt.of 0 rfl rfl | exact OwnAt.of 1 rfl rfl | exact OwnAt.of 2 rfl rfl | exact OwnAt.of 3 rfl rfl | exact OwnAt.of 4 rfl rfl | exact OwnAt.of 5 rfl rfl)) ?_
          refine XO.rd rfl rfl rfl (Reads.len_slice Tryd.underlying35 rfl) ?_
          refine XO.rd rfl rfl rfl (Reads.cmp rfl rfl rfl) ?_
          refine XO.nil ?_
          refine XQ.then_normal ?_
          refine XC.cond rfl (fun h6 => ?_) (fun h6 => ?_)
          · skip
            simp only [cmpInt, decide_eq_true_eq] at h6
            have hi3 : i < x.hs.length := by omega
            have hci := formed_c hf hi3
            have hsk : (((knows.getD (x.h i).c.toNat 0).toNat : Nat) : Int) = knows[(x.h i).c.toNat]'(by omega) := by have h9 := hwk _ (List.getElem_mem (show (x.h i).c.toNat < knows.length by omega)); rw [List.getD_eq_getElem?_getD, List.getElem?_eq_getElem (show (x.h i).c.toNat < knows.length by omega), Option.getD_some]; omega
            refine XC.skip ?_
            refine XQ.then_normal ?_
            refine XC.seq ?_
            refine XC.block ?_
            refine XC.seq ?_
            refine XC.region ?_
            refine XO.rd rfl rfl rfl (fa37_1 rfl) ?_
            refine XO.rd rfl rfl rfl (Reads.load_own k35 rfl (by first | exact OwnAt.of 0 rfl rfl | exact OwnAt.of 1 rfl rfl | exact OwnAt.of 2 rfl rfl | exact OwnAt.of 3 rfl rfl | exact OwnAt.of 4 rfl rfl | exact OwnAt.of 5 rfl rfl)) ?_
            refine XO.rd rfl rfl rfl (Reads.move rfl) ?_
            refine XO.rd rfl rfl rfl (Reads.index_slot (q := i * 3) Tryd.underlying35 z53 rfl rfl (by omega) (hA.isSome (by decide) (by omega)) rfl) ?_
            refine XO.rd rfl rfl rfl (Reads.load_agg_at (vs := (x.h i).cs) k53 z53 rfl (hA.addr (by decide) (by omega)) (by rw [x.h_get hi3]; exact hA.hand hi3)) ?_
            refine XO.alloc (cs := #[.int .i64 0, .int .i64 0, .string ⟨#[]⟩]) rfl rfl zo53 rfl (fun b10 => ?_)
            refine XO.store_agg (vs := (x.h i).cs) 0 rfl z53 rfl rfl (by simp [Hand.cs, Value.oneCell']) rfl (by simp [Hand.cs]) ?_
            refine XO.own_eq (congrArg (fun c => some (b10, Obj.cells c 53 (0, 0)) :: _) (show _ = (x.h i).cs.toArray from rfl)) ?_
            refine XO.nil ?_
            refine XQ.then_normal ?_
            refine XC.seq ?_
            refine XC.seq ?_
            refine XC.draw m_mixed none (.pure 0 (.pure 1 (.pure 2 (.pure 3 (.pure 4 (.pure 5 (.pure 6 (.eff 7 (.pure 8 (.done)))))))))) _ (by kernel_rfl) (List.Sublist.refl _) ?_
            refine XR.rd rfl rfl rfl (Reads.move rfl) ?_
            refine XR.rd rfl rfl rfl (fa53_0 rfl) ?_
            refine XR.rd rfl rfl rfl (Reads.load_own k3 rfl (by first | exact OwnAt.of 0 rfl rfl | exact OwnAt.of 1 rfl rfl | exact OwnAt.of 2 rfl rfl | exact OwnAt.of 3 rfl rfl | exact OwnAt.of 4 rfl rfl | exact OwnAt.of 5 rfl rfl)) ?_
            refine XR.rd rfl rfl rfl (Reads.index_slot (q := (x.h i).c.toNat) Tryd.underlying29 z9 rfl rfl (by omega) (hK.isSome (by decide) (by omega)) (by omega)) ?_
            refine XR.rd rfl rfl rfl (Reads.load_at (v := .string (keyAt keys x i)) k9 rfl (by rw [keyAt_get hk8 hci]; have h9 := hK.str (j := (x.h i).c.toNat) (by omega); rw [Nat.mul_one] at h9; exact h9)) ?_
            refine XR.rd rfl rfl rfl (Reads.load_whole k37 z37 rfl (by first | exact WholeAt.of 0 rfl | exact WholeAt.of 1 rfl | exact WholeAt.of 2 rfl | exact WholeAt.of 3 rfl | exact WholeAt.of 4 rfl | exact WholeAt.of 5 rfl) (by rfl)) ?_
            refine XR.rd rfl rfl rfl (Reads.move rfl) ?_
            refine XR.callp rfl rfl rfl en66 (rright_any (keyAt keys x i) x a cap i _ hA hi3 (by omega) hsz (keyAt_le hk8 hks hci)) ⟨rfl, rfl, rfl, trivial⟩ (List.Sublist.refl _) ?_
            refine XR.rd rfl rfl rfl (Reads.not rfl) ?_
            refine XR.nil ?_
            refine XQ.then_normal ?_
            refine XC.cond rfl (fun h7 => ?_) (fun h7 => ?_)
            · skip
              have hbd : bad keys knows x i = true := by simp only [Bool.not_eq_true'] at h7; simp [bad, h7]
              refine XC.seq ?_
              refine XC.region ?_
              refine XO.rd rfl rfl rfl (Reads.move rfl) ?_
              refine XO.rd rfl rfl rfl (Reads.assign rfl) ?_
              refine XO.rd rfl rfl rfl (Reads.assign rfl) ?_
              refine XO.nil ?_
              refine XQ.then_normal ?_
              refine XC.ret ?_
              refine XQ.then_ret ?_
              refine XQ.block_ret ?_
              refine XQ.then_ret ?_
              refine XQ.then_ret ?_
              refine XQ.block_ret ?_
              refine XQ.then_ret ?_
              refine XQ.dropn 2 ?_
              refine XQ.done2 (L := []) rfl rfl rfl hI ?_
              exact ⟨rfl, by rw [blame_yes hf hfk hok, firstI_some.2 ⟨hi3, hbd, hi2⟩]; rfl⟩
            · skip
              simp only [Bool.not_eq_false'] at h7
              have hrt : right (keyAt keys x i) x i = true := h7
              refine XC.skip ?_
              refine XQ.then_normal ?_
              refine XC.seq ?_
              refine XC.seq ?_
              refine XC.region ?_
              refine XO.rd rfl rfl rfl (Reads.move rfl) ?_
              refine XO.rd rfl rfl rfl (Reads.cmp rfl rfl rfl) ?_
              refine XO.nil ?_
              refine XQ.then_normal ?_
              refine XC.cond rfl (fun h8 => ?_) (fun h8 => ?_)
              · skip
                simp only [cmpInt, beq_iff_eq] at h8
                have hb0 : bad keys knows x i = false := bad_step hrt (.inl (by omega))
                refine XC.exit ?_
                refine XQ.then_exit ?_
                refine XQ.block_exit ?_
                refine XQ.then_normal ?_
                refine XC.region ?_
                refine XO.rd rfl rfl rfl (Reads.move rfl) ?_
                refine XO.rd rfl rfl rfl (Reads.add rfl rfl (by omega)) ?_
                refine XO.rd rfl rfl rfl (Reads.assign rfl) ?_
                refine XO.nil ?_
                refine XQ.dropn 1 ?_
                refine XQ.back (i + 1, _) ⟨by simp only; omega, hI, hA, hK, hW, fun q hq => by rcases Nat.lt_succ_iff_lt_or_eq.1 hq with h9 | rfl; exact hi2 q h9; exact hb0⟩ (by simp only; omega) ⟨rfl, rfl, rfl, rfl, trivial⟩ rfl (List.Perm.refl _)
              · skip
                simp only [cmpInt, beq_eq_false_iff_ne] at h8
                have hi0 : 0 < i := by omega
                have hpl := pre_len (x := x) (m := i) (by omega)
                have hsm := says_most (s := (knows.getD (x.h i).c.toNat 0).toNat) hf hfk hi0 hi3 (hi2 (i - 1) (by omega)) rfl
                have hks2 : ∀ k ∈ known keys (knows.getD (x.h i).c.toNat 0).toNat, k.size ≤ 1000 := fun k hk => by obtain ⟨q, hq, rfl⟩ := List.mem_map.1 hk; split; rw [List.getD_eq_getElem?_getD, List.getElem?_eq_getElem (List.mem_range.1 hq)]; exact hks _ (List.getElem_mem _); decide
                refine XC.skip ?_
                refine XQ.then_normal ?_
                refine XC.seq ?_
                refine XC.region ?_
                refine XO.rd rfl rfl rfl (Reads.load_whole k37 z37 rfl (by first | exact WholeAt.of 0 rfl | exact WholeAt.of 1 rfl | exact WholeAt.of 2 rfl | exact WholeAt.of 3 rfl | exact WholeAt.of 4 rfl | exact WholeAt.of 5 rfl) (by rfl)) ?_
                refine XO.rd rfl rfl rfl (Reads.move rfl) ?_
                refine XO.call rfl rfl en31 (rcut_any x a cap (i : Int) _ hA h63 hcap) ⟨rfl, rfl, trivial⟩ ?_
                rintro u J94 hle94 hr
                replace hI := Im.le_trans hI hle94
                replace hA := hA.mono hle94
                replace hK := hK.mono hle94
                replace hW := hW.mono hle94
                rw [cut_yes hf (by omega) (by omega)] at hr
                obtain ⟨v9, e9, rfl, hy9, _⟩ := hr
                obtain ⟨rfl, ac, cc, rfl, hcp9, hCu⟩ := hy9 _ rfl
                refine XO.rd rfl rfl rfl (Reads.move rfl) ?_
                refine XO.rd rfl rfl rfl (Reads.extract rfl rfl) ?_
                refine XO.rd rfl rfl rfl (Reads.extract rfl rfl) ?_
                refine XO.alloc (cs := #[.int .i64 0, .int .i64 0, .int .i64 0, .int .i64 0, .slice none 0 0]) rfl rfl zo37 rfl (fun b11 => ?_)
                refine XO.store_agg (vs := (x.pre i).cs ac cc) 0 rfl z37 rfl rfl (by simp [Value.oneCell']) rfl (by simp) ?_
                refine XO.rd rfl rfl rfl (Reads.assign rfl) ?_
                refine XO.nil ?_
                refine XQ.then_normal ?_
                refine XC.seq ?_
                refine XC.weaken (E' := [(0, _), (1, _), (5, _), (9, _), (10, _), (11, _)]) ⟨rfl, rfl, rfl, rfl, rfl, rfl, trivial⟩ ?_
                refine XC.draw m_mixed none (.pure 0 (.pure 1 (.pure 2 (.pure 3 (.pure 4 (.pure 5 (.pure 6 (.pure 7 (.pure 9 (.eff 8 (.eff 10 (.pure 11 (.done))))))))))))) _ (by kernel_rfl) (List.Sublist.refl _) ?_
                refine XR.rd rfl rfl rfl (fa53_1 rfl) ?_
                refine XR.rd rfl rfl rfl (Reads.load_own k3 rfl (by first | exact OwnAt.of 0 rfl rfl | exact OwnAt.of 1 rfl rfl | exact OwnAt.of 2 rfl rfl | exact OwnAt.of 3 rfl rfl | exact OwnAt.of 4 rfl rfl | exact OwnAt.of 5 rfl rfl)) ?_
                refine XR.rd rfl rfl rfl (Reads.move rfl) ?_
                refine XR.rd rfl rfl rfl (Reads.move rfl) ?_
                refine XR.rd rfl rfl rfl (fa53_0 rfl) ?_
                refine XR.rd rfl rfl rfl (Reads.load_own k3 rfl (by first | exact OwnAt.of 0 rfl rfl | exact OwnAt.of 1 rfl rfl | exact OwnAt.of 2 rfl rfl | exact OwnAt.of 3 rfl rfl | exact OwnAt.of 4 rfl rfl | exact OwnAt.of 5 rfl rfl)) ?_
                refine XR.rd rfl rfl rfl (Reads.index_slot (q := (x.h i).c.toNat) Tryd.underlying23 z3 rfl rfl (by omega) (hW.isSome (by decide) (by omega)) (by omega)) ?_
                refine XR.rd rfl rfl rfl (Reads.load_at (v := .int .i64 ((knows.getD (x.h i).c.toNat 0).toNat : Int)) k3 rfl (by rw [hsk]; have h9 := hW.int (j := (x.h i).c.toNat) (by omega); rw [Nat.mul_one] at h9; exact h9)) ?_
                refine XR.rd rfl rfl rfl (Reads.load_whole k37 z37 rfl (by first | exact WholeAt.of 0 rfl | exact WholeAt.of 1 rfl | exact WholeAt.of 2 rfl | exact WholeAt.of 3 rfl | exact WholeAt.of 4 rfl | exact WholeAt.of 5 rfl) (by rfl)) ?_
                refine XR.call rfl rfl rfl en14 (known_any ak ck keys (knows.getD (x.h i).c.toNat 0).toNat _ hK (by omega)) ⟨rfl, rfl, trivial⟩ (List.Sublist.refl _) ?_
                rintro u J95 hle95 hr
                replace hI := Im.le_trans hI hle95
                replace hA := hA.mono hle95
                replace hK := hK.mono hle95
                replace hW := hW.mono hle95
                replace hCu := hCu.mono hle95
                obtain ⟨ks, cks, rfl, hcks, hKs⟩ := hr.ex
                refine XR.callp rfl rfl rfl en67 (rsays_any (x.pre i) ac ks cc cks (known keys (knows.getD (x.h i).c.toNat 0).toNat) _ hCu (by omega) (fun q hq => by rw [pre_agree q (by omega)]; exact hsz q (by omega)) hKs (by rw [known_len]; exact hk8) hks2 (by omega) (by rw [hpl, pre_agree (i - 1) (by omega)]; exact formed_c hf (by omega))) ⟨rfl, rfl, trivial⟩ (List.Sublist.refl _) ?_
                refine XR.rd rfl rfl rfl (Reads.cmp rfl rfl rfl) ?_
                refine XR.nil ?_
                refine XQ.then_normal ?_
                refine XC.cond rfl (fun h9 => ?_) (fun h9 => ?_)
                · skip
                  simp only [cmpInt, bne_iff_ne, ne_eq] at h9
                  rw [hpl, hsm] at h9
                  have hbd : bad keys knows x i = true := by rw [bad_pos hrt hi0]; simp [h9]
                  refine XC.seq ?_
                  refine XC.region ?_
                  refine XO.rd rfl rfl rfl (Reads.move rfl) ?_
                  refine XO.rd rfl rfl rfl (Reads.assign rfl) ?_
                  refine XO.rd rfl rfl rfl (Reads.assign rfl) ?_
                  refine XO.nil ?_
                  refine XQ.then_normal ?_
                  refine XC.ret ?_
                  refine XQ.block_ret ?_
                  refine XQ.then_ret ?_
                  refine XQ.then_ret ?_
                  refine XQ.block_ret ?_
                  refine XQ.then_ret ?_
                  refine XQ.dropn 3 ?_
                  refine XQ.done2 (L := []) rfl rfl rfl hI ?_
                  exact ⟨rfl, by rw [blame_yes hf hfk hok, firstI_some.2 ⟨hi3, hbd, hi2⟩]; rfl⟩
                · skip
                  simp only [cmpInt, bne_eq_false_iff_eq] at h9
                  rw [hpl, hsm] at h9
                  have hb0 : bad keys knows x i = false := bad_step hrt (.inr h9)
                  refine XC.skip ?_
                  refine XQ.block_normal ?_
                  refine XQ.then_normal ?_
                  refine XC.region ?_
                  refine XO.rd rfl rfl rfl (Reads.move rfl) ?_
                  refine XO.rd rfl rfl rfl (Reads.add rfl rfl (by omega)) ?_
                  refine XO.rd rfl rfl rfl (Reads.assign rfl) ?_
                  refine XO.nil ?_
                  refine XQ.dropn 2 ?_
                  refine XQ.back (i + 1, _) ⟨by simp only; omega, hI, hA, hK, hW, fun q hq => by rcases Nat.lt_succ_iff_lt_or_eq.1 hq with h9 | rfl; exact hi2 q h9; exact hb0⟩ (by simp only; omega) ⟨rfl, rfl, rfl, rfl, trivial⟩ rfl (List.Perm.refl _)
          · skip
            simp only [cmpInt, decide_eq_false_iff_not] at h6
            refine XC.exit ?_
            refine XQ.then_exit ?_
            refine XQ.then_exit ?_
            refine XQ.block_exit ?_
            refine XQ.then_normal ?_
            refine XC.seq ?_
            refine XC.region ?_
            refine XO.rd rfl rfl rfl (Reads.assign rfl) ?_
            refine XO.rd rfl rfl rfl (Reads.assign rfl) ?_
            refine XO.nil ?_
            refine XQ.then_normal ?_
            refine XC.ret ?_
            refine XQ.dropn 1 ?_
            refine XQ.done2 (L := []) rfl rfl rfl hI ?_
            exact ⟨rfl, by rw [blame_yes hf hfk hok, firstI_none.2 (fun q hq => hi2 q (by omega))]; rfl⟩

end Go.Proofs.YtmlliafhpbfdbaaDoor
