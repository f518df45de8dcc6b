/- Walks: the reference's lists of keys. Walks: who knows whom; dials. Walks: the reference's Begin and Pass. Walks: the reference's Shown and Check. -/
import Derived.Test.YtmlliafhpbfdbaaDoorME
import Derived.Test.YtmlliafhpbfdbaaDoorMK
import Derived.Test.YtmlliafhpbfdbaaDoorCJ
import Derived.Test.YtmlliafhpbfdbaaDoorF4
import Derived.Test.YtmlliafhpbfdbaaDoorMG
namespace Go.Proofs.YtmlliafhpbfdbaaDoor
open Go.Xe Go.Sh Go Go.At Go.RowKit

theorem key_any (n : Int) (I : Im) (hn : 0 ≤ n ∧ n ≤ 255) : FC Tryd.prog 25 [.int .i64 n] I (fun u I' => u = .string (keyC n.toNat) ∧ I' = I) := by
  refine FSo.intro (n := 19) Tryd.func25 rfl rfl rfl (fun K Lf => ?_)
  refine XC.seq ?_
  refine XC.region ?_
  refine XO.rd rfl rfl rfl (Reads.assign rfl) ?_
  refine XO.nil ?_
  refine XQ.then_normal ?_
  refine XC.seq ?_
  refine XC.region ?_
  refine XO.makeSlice (m := 32) rfl rfl Tryd.underlying98 el5 rfl rfl rfl (by decide) (by decide) (fun b5 => ?_)
  refine XO.rd rfl rfl rfl (Reads.assign rfl) ?_
  refine XO.nil ?_
  refine XQ.then_normal ?_
  refine XC.seq ?_
  refine XC.seq ?_
  refine XC.region ?_
  refine XO.rd rfl rfl rfl (Reads.assign rfl) ?_
  refine XO.nil ?_
  refine XQ.then_normal ?_
  refine XC.block ?_
  refine XC.loop (ι := Nat) (fun q => [(0, .int .i64 n), (3, .slice (some ⟨b5, 0, none⟩) 32 32), (4, .int .i64 q)]) (fun q => I) (fun q => some (b5, .cells (fillD (List.replicate q (UInt8.ofNat n.toNat)) 32).toArray 5 (0, 0)) :: ([] ++ Lf)) (fun q => q ≤ 32) (fun q => 32 - q) 0 (by omega) ⟨rfl, rfl, rfl, trivial⟩ rfl (List.Perm.refl _) (fun k hk => ?_)
  refine XC.seq ?_
  refine XC.seq ?_
  refine XC.region ?_
  refine XO.rd rfl rfl rfl (Reads.move rfl) ?_
  refine XO.rd rfl rfl rfl (Reads.move rfl) ?_
  refine XO.rd rfl rfl rfl (Reads.len_slice Tryd.underlying98 rfl) ?_
  refine XO.rd rfl rfl rfl (Reads.cmp rfl rfl rfl) ?_
  refine XO.nil ?_
  refine XQ.then_normal ?_
  refine XC.cond rfl (fun h1 => ?_) (fun h1 => ?_)
  · skip
    simp only [cmpInt, decide_eq_true_eq] at h1
    have hk3 : k < 32 := by omega
    refine XC.skip ?_
    refine XQ.then_normal ?_
    refine XC.seq ?_
    refine XC.block ?_
    refine XC.region ?_
    refine XO.rd rfl rfl rfl (Reads.move rfl) ?_
    refine XO.rd rfl rfl rfl (Reads.move rfl) ?_
    refine XO.rd rfl rfl rfl (Reads.move rfl) ?_
    refine XO.rd rfl rfl rfl (Reads.conv Tryd.underlying3 rfl Tryd.underlying5 rfl) ?_
    rw [wrap8 (z := n) (by omega)]
    refine XO.rd rfl rfl rfl (Reads.index_own (q := k) Tryd.underlying98 z5 rfl rfl (by omega) (by omega)) ?_
    refine XO.store 0 rfl z5 rfl rfl rfl rfl (by rw [fill_size (by omega)]; omega) ?_
    rw [key_step hk3]
    refine XO.nil ?_
    refine XQ.block_normal ?_
    refine XQ.then_normal ?_
    refine XC.region ?_
    refine XO.rd rfl rfl rfl (Reads.move rfl) ?_
    refine XO.rd rfl rfl rfl (Reads.add rfl rfl (by omega)) ?_
    refine XO.rd rfl rfl rfl (Reads.assign rfl) ?_
    refine XO.nil ?_
    refine XQ.back (k + 1) (by omega) (by omega) ⟨rfl, rfl, rfl, trivial⟩ rfl (List.Perm.refl _)
  · skip
    simp only [cmpInt, decide_eq_false_iff_not] at h1
    refine XC.exit ?_
    refine XQ.then_exit ?_
    refine XQ.then_exit ?_
    refine XQ.block_exit ?_
    refine XQ.then_normal ?_
    refine XC.seq ?_
    refine XC.region ?_
    refine XO.rd rfl rfl rfl (Reads.move rfl) ?_
    rw [show k = 32 by omega]
    refine XO.rd rfl rfl rfl (Reads.to_string (bs := List.replicate 32 (UInt8.ofNat n.toNat)) Tryd.underlying98 Tryd.underlying5 Tryd.underlying9 rfl (by simp) (readable_row 0 rfl (by rw [key_full]; simp))) ?_
    refine XO.rd rfl rfl rfl (Reads.assign rfl) ?_
    refine XO.nil ?_
    refine XQ.then_normal ?_
    refine XC.ret ?_
    refine XQ.dropn 1 ?_
    refine XQ.done1 rfl rfl (Im.le_refl _) ?_
    exact ⟨rfl, rfl, rfl⟩

theorem all_any (I : Im) : FC Tryd.prog 15 [] I (fun u I' => Sl I' u (allK)) := by
  refine FSo.intro (n := 13) Tryd.func15 rfl rfl rfl (fun K Lf => ?_)
  refine XC.seq ?_
  refine XC.region ?_
  refine XO.rd rfl rfl rfl (Reads.assign rfl) ?_
  refine XO.nil ?_
  refine XQ.then_normal ?_
  refine XC.seq ?_
  refine XC.region ?_
  refine XO.rd rfl rfl rfl (Reads.assign rfl) ?_
  refine XO.nil ?_
  refine XQ.then_normal ?_
  refine XC.seq ?_
  refine XC.seq ?_
  refine XC.region ?_
  refine XO.rd rfl rfl rfl (Reads.assign rfl) ?_
  refine XO.nil ?_
  refine XQ.then_normal ?_
  refine XC.block ?_
  refine XC.vec0 9 ?_
  refine XC.loop (ι := Nat × Vec) (fun q => [(1, q.2.val), (2, .int .i64 q.1)]) (fun q => I) (fun q => q.2.ent 9 :: ([] ++ Lf)) (fun q => q.1 ≤ 8 ∧ q.2.Is 1 (strC (allK.take q.1))) (fun q => 8 - q.1) (0, Vec.nil) ⟨Nat.zero_le _, Vec.nil_is 1⟩ ⟨rfl, rfl, trivial⟩ rfl (List.Perm.refl _) (fun q hq => ?_)
  obtain ⟨k, V⟩ := q
  obtain ⟨hk1, hV⟩ := hq
  simp only at hk1 hV ⊢
  have hVl : V.len = k := by have h9 := hV.len; rw [show (strC (allK.take k)).length = k by rw [strC_len, List.length_take, allK_len]; omega] at h9; omega
  refine XC.seq ?_
  refine XC.seq ?_
  refine XC.region ?_
  refine XO.rd rfl rfl rfl (Reads.move rfl) ?_
  refine XO.rd rfl rfl rfl (Reads.cmp rfl rfl rfl) ?_
  refine XO.nil ?_
  refine XQ.then_normal ?_
  refine XC.cond rfl (fun h1 => ?_) (fun h1 => ?_)
  · skip
    simp only [cmpInt, decide_eq_true_eq] at h1
    have hk3 : k < 8 := by omega
    refine XC.skip ?_
    refine XQ.then_normal ?_
    refine XC.seq ?_
    refine XC.block ?_
    refine XC.region ?_
    refine XO.rd rfl rfl rfl (Reads.move rfl) ?_
    refine XO.rd rfl rfl rfl (Reads.move rfl) ?_
    refine XO.callp rfl rfl en25 (key_any k _ (by omega)) ⟨rfl, trivial⟩ ?_
    refine XO.buildL [.string (keyC (k : Int).toNat)] [.string (keyC (k : Int).toNat)] rfl rfl Tryd.underlying29 el9 rfl (by simp) ⟨rfl, rfl, trivial⟩ rfl rfl (fun bu => ?_)
    refine XO.append (V := V) (news := strC [keyC (k : Int).toNat]) 1 rfl rfl Tryd.underlying29 el9 rfl rfl hV rfl (.slice Tryd.underlying29 (readable_row 0 rfl rfl) rfl (strC_one _)) (by omega) (by omega) ?_
    intro V' hV' hVl'
    refine XO.rd rfl rfl rfl (Reads.assign rfl) ?_
    refine XO.nil ?_
    refine XQ.block_normal ?_
    refine XQ.then_normal ?_
    refine XC.region ?_
    refine XO.rd rfl rfl rfl (Reads.move rfl) ?_
    refine XO.rd rfl rfl rfl (Reads.add rfl rfl (by omega)) ?_
    refine XO.rd rfl rfl rfl (Reads.assign rfl) ?_
    refine XO.nil ?_
    refine XQ.dropn 1 ?_
    refine XQ.back (k + 1, V') ⟨by simp only; omega, by simp only; rw [allK_take hk3, strC_append]; exact hV'⟩ (by simp only; omega) ⟨rfl, rfl, trivial⟩ rfl (List.Perm.refl _)
  · skip
    simp only [cmpInt, decide_eq_false_iff_not] at h1
    refine XC.exit ?_
    refine XQ.then_exit ?_
    refine XQ.then_exit ?_
    refine XQ.block_exit ?_
    refine XQ.then_normal ?_
    refine XC.seq ?_
    refine XC.region ?_
    refine XO.rd rfl rfl rfl (Reads.move rfl) ?_
    refine XO.rd rfl rfl rfl (Reads.assign rfl) ?_
    refine XO.nil ?_
    refine XQ.then_normal ?_
    refine XC.ret ?_
    have hV8 : V.Is 1 (strC allK) := by rw [show k = 8 by omega, allK_all] at hV; exact hV
    refine XQ.give_vec (fun hb => ?_)
    refine XQ.done1 (L := []) rfl rfl (Vec.le_give hb) ?_
    exact ⟨rfl, (Vec.sl (by decide) hV8 (flat_strs _ _) hb).2⟩

theorem known_any (ak : Option Addr) (ck : Nat) (keys : List ByteArray) (s : Nat) (I : Im) (hK : Arr I ak keys) (hkl : keys.length ≤ 60) : FC Tryd.prog 14 [.slice ak keys.length ck, .int .i64 (s : Int)] I (fun u I' => Sl I' u (known keys s)) := by
  refine FSo.intro (n := 29) Tryd.func14 rfl rfl rfl (fun K Lf => ?_)
  refine XC.seq ?_
  refine XC.region ?_
  refine XO.rd rfl rfl rfl (Reads.assign rfl) ?_
  refine XO.nil ?_
  refine XQ.then_normal ?_
  refine XC.seq ?_
  refine XC.region ?_
  refine XO.rd rfl rfl rfl (Reads.assign rfl) ?_
  refine XO.nil ?_
  refine XQ.then_normal ?_
  refine XC.seq ?_
  refine XC.seq ?_
  refine XC.region ?_
  refine XO.rd rfl rfl rfl (Reads.assign rfl) ?_
  refine XO.nil ?_
  refine XQ.then_normal ?_
  refine XC.block ?_
  refine XC.vec0 9 ?_
  refine XC.loop (ι := Nat × Vec) (fun q => [(0, .slice ak keys.length ck), (1, .int .i64 (s : Int)), (5, q.2.val), (6, .int .i64 q.1)]) (fun q => I) (fun q => q.2.ent 9 :: ([] ++ Lf)) (fun q => q.1 ≤ keys.length ∧ q.2.Is 1 (strC ((known keys s).take q.1))) (fun q => keys.length - q.1) (0, Vec.nil) ⟨Nat.zero_le _, Vec.nil_is 1⟩ ⟨rfl, rfl, rfl, rfl, trivial⟩ rfl (List.Perm.refl _) (fun q hq => ?_)
  obtain ⟨k, V⟩ := q
  obtain ⟨hk1, hV⟩ := hq
  simp only at hk1 hV ⊢
  have hVl : V.len = k := by have h9 := hV.len; rw [show (strC ((known keys s).take k)).length = k by rw [strC_len, List.length_take, known_len]; omega] at h9; omega
  refine XC.seq ?_
  refine XC.seq ?_
  refine XC.region ?_
  refine XO.rd rfl rfl rfl (Reads.move rfl) ?_
  refine XO.rd rfl rfl rfl (Reads.move rfl) ?_
  refine XO.rd rfl rfl rfl (Reads.len_slice Tryd.underlying29 rfl) ?_
  refine XO.rd rfl rfl rfl (Reads.cmp rfl rfl rfl) ?_
  refine XO.nil ?_
  refine XQ.then_normal ?_
  refine XC.cond rfl (fun h1 => ?_) (fun h1 => ?_)
  · skip
    simp only [cmpInt, decide_eq_true_eq] at h1
    have hk3 : k < keys.length := by omega
    refine XC.skip ?_
    refine XQ.then_normal ?_
    refine XC.seq ?_
    refine XC.block ?_
    refine XC.seq ?_
    refine XC.region ?_
    refine XO.rd rfl rfl rfl (Reads.move rfl) ?_
    refine XO.rd rfl rfl rfl (Reads.move rfl) ?_
    refine XO.rd rfl rfl rfl (Reads.shrn (m := s) rfl rfl (by show k ≤ 64; omega)) ?_
    refine XO.rd rfl rfl rfl (Reads.rem rfl rfl (Int.natCast_nonneg _) (by decide)) ?_
    refine XO.rd rfl rfl rfl (Reads.cmp rfl rfl rfl) ?_
    refine XO.nil ?_
    refine XQ.then_normal ?_
    refine XC.cond rfl (fun h2 => ?_) (fun h2 => ?_)
    · skip
      simp only [cmpInt, beq_iff_eq] at h2
      have hb9 : s / 2 ^ k % 2 = 1 := by exact_mod_cast h2
      refine XC.region ?_
      refine XO.rd rfl rfl rfl (Reads.move rfl) ?_
      refine XO.rd rfl rfl rfl (Reads.move rfl) ?_
      refine XO.rd rfl rfl rfl (Reads.move rfl) ?_
      refine XO.rd rfl rfl rfl (Reads.index_slot Tryd.underlying29 z9 rfl rfl (by omega) (hK.isSome (by decide) (by omega)) rfl) ?_
      refine XO.rd rfl rfl rfl (Reads.load_at k9 rfl (hK.str hk3)) ?_
      refine XO.buildL [.string keys[k]] [.string keys[k]] rfl rfl Tryd.underlying29 el9 rfl (by simp) ⟨rfl, rfl, trivial⟩ rfl rfl (fun bu => ?_)
      refine XO.append (V := V) (news := strC [keys[k]]) 1 rfl rfl Tryd.underlying29 el9 rfl rfl hV rfl (.slice Tryd.underlying29 (readable_row 0 rfl rfl) rfl (strC_one _)) (by omega) (by omega) ?_
      intro V' hV' hVl'
      refine XO.rd rfl rfl rfl (Reads.assign rfl) ?_
      refine XO.nil ?_
      refine XQ.block_normal ?_
      refine XQ.then_normal ?_
      refine XC.region ?_
      refine XO.rd rfl rfl rfl (Reads.move rfl) ?_
      refine XO.rd rfl rfl rfl (Reads.add rfl rfl (by omega)) ?_
      refine XO.rd rfl rfl rfl (Reads.assign rfl) ?_
      refine XO.nil ?_
      refine XQ.dropn 1 ?_
      refine XQ.back (k + 1, V') ⟨by simp only; omega, by simp only; rw [known_take hk3, strC_append]; first | (rw [if_pos hb9]; exact hV') | (rw [if_neg hb9]; exact hV')⟩ (by simp only; omega) ⟨rfl, rfl, rfl, rfl, trivial⟩ rfl (List.Perm.refl _)
    · skip
      simp only [cmpInt, beq_eq_false_iff_ne] at h2
      have hb9 : ¬ s / 2 ^ k % 2 = 1 := by exact_mod_cast h2
      refine XC.region ?_
      refine XO.rd rfl rfl rfl (Reads.move rfl) ?_
      refine XO.buildL [.string mtB] [.string mtB] rfl rfl Tryd.underlying29 el9 rfl (by simp) ⟨rfl, rfl, trivial⟩ rfl rfl (fun bu => ?_)
      refine XO.append (V := V) (news := strC [mtB]) 1 rfl rfl Tryd.underlying29 el9 rfl rfl hV rfl (.slice Tryd.underlying29 (readable_row 0 rfl rfl) rfl (strC_one _)) (by omega) (by omega) ?_
      intro V' hV' hVl'
      refine XO.rd rfl rfl rfl (Reads.assign rfl) ?_
      refine XO.nil ?_
      refine XQ.block_normal ?_
      refine XQ.then_normal ?_
      refine XC.region ?_
      refine XO.rd rfl rfl rfl (Reads.move rfl) ?_
      refine XO.rd rfl rfl rfl (Reads.add rfl rfl (by omega)) ?_
      refine XO.rd rfl rfl rfl (Reads.assign rfl) ?_
      refine XO.nil ?_
      refine XQ.dropn 1 ?_
      refine XQ.back (k + 1, V') ⟨by simp only; omega, by simp only; rw [known_take hk3, strC_append]; first | (rw [if_pos hb9]; exact hV') | (rw [if_neg hb9]; exact hV')⟩ (by simp only; omega) ⟨rfl, rfl, rfl, rfl, trivial⟩ rfl (List.Perm.refl _)
  · skip
    simp only [cmpInt, decide_eq_false_iff_not] at h1
    refine XC.exit ?_
    refine XQ.then_exit ?_
    refine XQ.then_exit ?_
    refine XQ.block_exit ?_
    refine XQ.then_normal ?_
    refine XC.seq ?_
    refine XC.region ?_
    refine XO.rd rfl rfl rfl (Reads.move rfl) ?_
    refine XO.rd rfl rfl rfl (Reads.assign rfl) ?_
    refine XO.nil ?_
    refine XQ.then_normal ?_
    refine XC.ret ?_
    have hV8 : V.Is 1 (strC (known keys s)) := by rw [show k = keys.length by omega, known_all] at hV; exact hV
    refine XQ.give_vec (fun hb => ?_)
    refine XQ.done1 (L := []) rfl rfl (Vec.le_give hb) ?_
    exact ⟨rfl, (Vec.sl (by decide) hV8 (flat_strs _ _) hb).2⟩

end Go.Proofs.YtmlliafhpbfdbaaDoor
namespace Go.Proofs.YtmlliafhpbfdbaaDoor
open Go.Xe Go.Sh Go Go.At Go.RowKit

theorem knows_any (n : Num) (a : Option Addr) (cap : Nat) (I : Im) (hn : n.In) : FC Tryd.prog 22 [.agg (n.cs a cap).toArray] I (fun u I' => Sl I' u (n.knows)) := by
  refine FSo.intro (n := 18) Tryd.func22 rfl rfl rfl (fun K Lf => ?_)
  refine XC.seq ?_
  refine XC.region ?_
  refine XO.box_agg rfl rfl rfl (fun b1 => ?_)
  refine XO.rd rfl rfl rfl (Reads.assign rfl) ?_
  refine XO.nil ?_
  refine XQ.then_normal ?_
  refine XC.seq ?_
  refine XC.region ?_
  refine XO.rd rfl rfl rfl (Reads.assign rfl) ?_
  refine XO.nil ?_
  refine XQ.then_normal ?_
  refine XC.seq ?_
  refine XC.seq ?_
  refine XC.region ?_
  refine XO.rd rfl rfl rfl (Reads.assign rfl) ?_
  refine XO.nil ?_
  refine XQ.then_normal ?_
  refine XC.block ?_
  refine XC.vec0 3 ?_
  refine XC.loop (ι := Nat × Vec) (fun q => [(1, .pointer (some ⟨b1, 0, none⟩)), (3, q.2.val), (4, .int .i64 q.1)]) (fun q => I) (fun q => q.2.ent 3 :: some (b1, .cells (n.cs a cap).toArray 26 (0, 0)) :: ([] ++ Lf)) (fun q => q.1 ≤ 8 ∧ q.2.Is 1 (intZ (n.knows.take q.1))) (fun q => 8 - q.1) (0, Vec.nil) ⟨Nat.zero_le _, Vec.nil_is 1⟩ ⟨rfl, rfl, rfl, trivial⟩ rfl (List.Perm.refl _) (fun q hq => ?_)
  obtain ⟨k, V⟩ := q
  obtain ⟨hk1, hV⟩ := hq
  simp only at hk1 hV ⊢
  have hVl : V.len = k := by have h9 := hV.len; rw [show (intZ (n.knows.take k)).length = k by rw [intZ_len, List.length_take, n.knows_len]; omega] at h9; omega
  refine XC.seq ?_
  refine XC.seq ?_
  refine XC.region ?_
  refine XO.rd rfl rfl rfl (Reads.move rfl) ?_
  refine XO.rd rfl rfl rfl (Reads.cmp rfl rfl rfl) ?_
  refine XO.nil ?_
  refine XQ.then_normal ?_
  refine XC.cond rfl (fun h1 => ?_) (fun h1 => ?_)
  · skip
    simp only [cmpInt, decide_eq_true_eq] at h1
    have hk3 : k < 8 := by omega
    refine XC.skip ?_
    refine XQ.then_normal ?_
    refine XC.seq ?_
    refine XC.block ?_
    refine XC.region ?_
    refine XO.rd rfl rfl rfl (Reads.move rfl) ?_
    refine XO.rd rfl rfl rfl (Reads.move rfl) ?_
    refine XO.rd rfl rfl rfl (fa26_3 rfl) ?_
    refine XO.rd rfl rfl rfl (Reads.index_arr_own (q := 6 + k) Tryd.underlying24 z3 rfl rfl (by omega) (by omega)) ?_
    refine XO.rd rfl rfl rfl (Reads.load_own (v := .int .i64 (n.kn.getD k 0)) k3 rfl (OwnAt.of 1 rfl (n.kn_at a cap hk3))) ?_
    refine XO.callp rfl rfl en46 (pickR_any _ 256 _ (Num.kn_in hn hk3) (by decide)) ⟨rfl, rfl, trivial⟩ ?_
    refine XO.buildL [.int .i64 (pickI (n.kn.getD k 0) 256)] [.int .i64 (pickI (n.kn.getD k 0) 256)] rfl rfl Tryd.underlying23 el3 rfl (by simp) ⟨rfl, rfl, trivial⟩ rfl rfl (fun bu => ?_)
    refine XO.append (V := V) (news := intZ [pickI (n.kn.getD k 0) 256]) 1 rfl rfl Tryd.underlying23 el3 rfl rfl hV rfl (.slice Tryd.underlying23 (readable_row 0 rfl rfl) rfl (intZ_one _)) (by omega) (by omega) ?_
    intro V' hV' hVl'
    refine XO.rd rfl rfl rfl (Reads.assign rfl) ?_
    refine XO.nil ?_
    refine XQ.block_normal ?_
    refine XQ.then_normal ?_
    refine XC.region ?_
    refine XO.rd rfl rfl rfl (Reads.move rfl) ?_
    refine XO.rd rfl rfl rfl (Reads.add rfl rfl (by omega)) ?_
    refine XO.rd rfl rfl rfl (Reads.assign rfl) ?_
    refine XO.nil ?_
    refine XQ.dropn 1 ?_
    refine XQ.back (k + 1, V') ⟨by simp only; omega, by simp only; rw [n.knows_take hk3, intZ_append]; exact hV'⟩ (by simp only; omega) ⟨rfl, rfl, rfl, trivial⟩ rfl (List.Perm.refl _)
  · skip
    simp only [cmpInt, decide_eq_false_iff_not] at h1
    refine XC.exit ?_
    refine XQ.then_exit ?_
    refine XQ.then_exit ?_
    refine XQ.block_exit ?_
    refine XQ.then_normal ?_
    refine XC.seq ?_
    refine XC.region ?_
    refine XO.rd rfl rfl rfl (Reads.move rfl) ?_
    refine XO.rd rfl rfl rfl (Reads.assign rfl) ?_
    refine XO.nil ?_
    refine XQ.then_normal ?_
    refine XC.ret ?_
    have hV8 : V.Is 1 (intZ n.knows) := by rw [show k = 8 by omega, show n.knows.take 8 = n.knows from List.take_of_length_le (Nat.le_refl 8)] at hV; exact hV
    refine XQ.give_vec (fun hb => ?_)
    refine XQ.dropn 1 ?_
    refine XQ.done1 (L := []) rfl rfl (Vec.le_give hb) ?_
    exact ⟨rfl, (Vec.sl (by decide) hV8 (flat_intZ _ _) hb).2⟩

theorem dial_any (a b c d : Int) (I : Im) (ha : In64 a) (hb : In64 b) (hc : In64 c) (hd : In64 d) : FC Tryd.prog 37 [.agg #[.int .i64 a, .int .i64 b, .int .i64 c, .int .i64 d]] I (fun u I' => u = .agg (dialOf a b c d).cs.toArray ∧ I' = I) := by
  refine FSo.intro (n := 16) Tryd.func37 rfl rfl rfl (fun K Lf => ?_)
  refine XC.seq ?_
  refine XC.region ?_
  refine XO.box_agg rfl rfl rfl (fun b1 => ?_)
  refine XO.alloc (cs := #[.int .i64 0, .int .i64 0, .int .i64 0, .int .i64 0]) rfl rfl zo34 rfl (fun b2 => ?_)
  refine XO.nil ?_
  refine XQ.then_normal ?_
  refine XC.seq ?_
  refine XC.draw m_mixed (some 13) (.pure 0 (.pure 1 (.pure 3 (.pure 4 (.pure 6 (.pure 7 (.pure 9 (.pure 10 (.eff 2 (.eff 5 (.eff 8 (.eff 11 (.pure 12 (.eff 13 (.done))))))))))))))) _ (by kernel_rfl) (List.Sublist.refl _) ?_
  refine XR.rd rfl rfl rfl (Reads.index_arr_own (q := 0) Tryd.underlying22 z3 rfl rfl (by decide) (by decide)) ?_
  refine XR.rd rfl rfl rfl (Reads.load_own k3 rfl (by first | exact OwnAt.of 0 rfl rfl | exact OwnAt.of 1 rfl rfl | exact OwnAt.of 2 rfl rfl | exact OwnAt.of 3 rfl rfl | exact OwnAt.of 4 rfl rfl | exact OwnAt.of 5 rfl rfl)) ?_
  refine XR.rd rfl rfl rfl (Reads.index_arr_own (q := 1) Tryd.underlying22 z3 rfl rfl (by decide) (by decide)) ?_
  refine XR.rd rfl rfl rfl (Reads.load_own k3 rfl (by first | exact OwnAt.of 0 rfl rfl | exact OwnAt.of 1 rfl rfl | exact OwnAt.of 2 rfl rfl | exact OwnAt.of 3 rfl rfl | exact OwnAt.of 4 rfl rfl | exact OwnAt.of 5 rfl rfl)) ?_
  refine XR.rd rfl rfl rfl (Reads.index_arr_own (q := 2) Tryd.underlying22 z3 rfl rfl (by decide) (by decide)) ?_
  refine XR.rd rfl rfl rfl (Reads.load_own k3 rfl (by first | exact OwnAt.of 0 rfl rfl | exact OwnAt.of 1 rfl rfl | exact OwnAt.of 2 rfl rfl | exact OwnAt.of 3 rfl rfl | exact OwnAt.of 4 rfl rfl | exact OwnAt.of 5 rfl rfl)) ?_
  refine XR.rd rfl rfl rfl (Reads.index_arr_own (q := 3) Tryd.underlying22 z3 rfl rfl (by decide) (by decide)) ?_
  refine XR.rd rfl rfl rfl (Reads.load_own k3 rfl (by first | exact OwnAt.of 0 rfl rfl | exact OwnAt.of 1 rfl rfl | exact OwnAt.of 2 rfl rfl | exact OwnAt.of 3 rfl rfl | exact OwnAt.of 4 rfl rfl | exact OwnAt.of 5 rfl rfl)) ?_
  refine XR.callp rfl rfl rfl en46 (pickR_any _ 100 _ ha (by decide)) ⟨rfl, rfl, trivial⟩ (List.Sublist.refl _) ?_
  refine XR.callp rfl rfl rfl en46 (pickR_any _ 100 _ hb (by decide)) ⟨rfl, rfl, trivial⟩ (List.Sublist.refl _) ?_
  refine XR.callp rfl rfl rfl en46 (pickR_any _ 1000 _ hc (by decide)) ⟨rfl, rfl, trivial⟩ (List.Sublist.refl _) ?_
  refine XR.callp rfl rfl rfl en46 (pickR_any _ 100 _ hd (by decide)) ⟨rfl, rfl, trivial⟩ (List.Sublist.refl _) ?_
  refine XR.rd rfl rfl rfl (bd34 (vs := [(0, _), (1, _), (2, _), (3, _)]) #[_, _, _, _] ⟨rfl, rfl, rfl, rfl, rfl, rfl, rfl, rfl, trivial⟩ rfl) ?_
  refine XR.store_agg (vs := (dialOf a b c d).cs) 0 rfl rfl z34 rfl rfl (by simp [Value.oneCell']) rfl (by simp) (.inl rfl) ?_
  refine XR.nil ?_
  refine XQ.then_normal ?_
  refine XC.ret ?_
  refine XQ.done1ca [] 2 rfl k34 z34 rfl (WholeAt.of 0 rfl) rfl rfl (Im.le_refl _) ?_
  exact ⟨rfl, rfl, rfl⟩

end Go.Proofs.YtmlliafhpbfdbaaDoor
namespace Go.Proofs.YtmlliafhpbfdbaaDoor
open Go.Xe Go.Sh Go Go.At

theorem rbegin_any (key : ByteArray) (d : Dial) (c l : Int) (I : Im) : FC Tryd.prog 39 [.string key, .agg d.cs.toArray, .int .i64 c, .int .i64 l] I (fun u I' => AOut I' u (beginA key d c l)) := by
  have hI := Im.le_refl I
  refine FSo.intro (n := 18) Tryd.func39 rfl rfl rfl (fun K Lf => ?_)
  refine XC.seq ?_
  refine XC.region ?_
  refine XO.box_agg rfl rfl rfl (fun b5 => ?_)
  refine XO.alloc (cs := #[.int .i64 0, .int .i64 0, .int .i64 0, .int .i64 0, .slice none 0 0]) rfl rfl zo37 rfl (fun b8 => ?_)
  refine XO.rd rfl rfl rfl (Reads.assign rfl) ?_
  refine XO.nil ?_
  refine XQ.then_normal ?_
  refine XC.seq ?_
  refine XC.region ?_
  refine XO.rd rfl rfl rfl (Reads.move rfl) ?_
  refine XO.rd rfl rfl rfl (Reads.load_whole k34 z34 rfl (by first | exact WholeAt.of 0 rfl | exact WholeAt.of 1 rfl | exact WholeAt.of 2 rfl | exact WholeAt.of 3 rfl | exact WholeAt.of 4 rfl | exact WholeAt.of 5 rfl) (by rfl)) ?_
  refine XO.rd rfl rfl rfl (bd37 (vs := [(0, .agg d.cs.toArray)]) ((⟨d, []⟩ : Att).cs none 0).toArray ⟨rfl, rfl, trivial⟩ rfl) ?_
  refine XO.rd rfl rfl rfl (Reads.move rfl) ?_
  refine XO.rd rfl rfl rfl (Reads.move rfl) ?_
  refine XO.call rfl rfl en69 (rwith_any key ⟨d, []⟩ none 0 c l _ Arr.nil (by simp)) ⟨rfl, rfl, rfl, rfl, trivial⟩ ?_
  rintro u J3 hle3 hr
  replace hI := Im.le_trans hI hle3
  obtain ⟨ao, co, rfl, hco, hAo, hno⟩ := hr.any4
  refine XO.rd rfl rfl rfl (Reads.extract rfl rfl) ?_
  refine XO.rd rfl rfl rfl (Reads.extract rfl rfl) ?_
  refine XO.store_agg (vs := ((grow key ⟨d, []⟩ c l).getD none0).cs ao co) 0 rfl z37 rfl rfl (by simp [Value.oneCell']) rfl (by simp) ?_
  refine XO.rd rfl rfl rfl (Reads.assign rfl) ?_
  refine XO.nil ?_
  refine XQ.then_normal ?_
  refine XC.ret ?_
  refine XQ.done2ca [] 2 rfl k37 z37 rfl rfl (WholeAt.of 0 rfl) rfl rfl hI ?_
  exact ⟨rfl, AOut.mk4 (o := grow key ⟨d, []⟩ c l) hco hAo hno⟩

theorem rsays_any (x : Att) (a ak : Option Addr) (cap ck : Nat) (keys : List ByteArray) (I : Im) (hA : Arr I a x.hs) (hn : x.hs.length ≤ 1000) (hsz : ∀ i, i < x.hs.length → (x.h i).s.size ≤ 40) (hK : Arr I ak keys) (hk8 : keys.length = 8) (hks : ∀ k ∈ keys, k.size ≤ 1000) (h1 : 1 ≤ x.hs.length) (hc : 0 ≤ (x.h (x.hs.length - 1)).c ∧ (x.h (x.hs.length - 1)).c ≤ 7) : FC Tryd.prog 67 [.slice ak keys.length ck, .agg (x.cs a cap).toArray] I (fun u I' => u = .int .i64 (says keys x (x.hs.length - 1)) ∧ I' = I) := by
  have hi : x.hs.length - 1 < x.hs.length := by omega
  refine FSo.intro (n := 27) Tryd.func67 rfl rfl rfl (fun K Lf => ?_)
  refine XC.seq ?_
  refine XC.region ?_
  refine XO.box_agg rfl rfl rfl (fun b3 => ?_)
  refine XO.rd rfl rfl rfl (Reads.assign rfl) ?_
  refine XO.nil ?_
  refine XQ.then_normal ?_
  refine XC.seq ?_
  refine XC.region ?_
  refine XO.rd rfl rfl rfl (fa37_1 rfl) ?_
  refine XO.rd rfl rfl rfl (Reads.load_own k35 rfl (by first | exact OwnAt.of 0 rfl rfl | exact OwnAt.of 1 rfl rfl | exact OwnAt.of 2 rfl rfl | exact OwnAt.of 3 rfl rfl)) ?_
  refine XO.rd rfl rfl rfl (Reads.len_slice Tryd.underlying35 rfl) ?_
  refine XO.rd rfl rfl rfl (Reads.sub rfl rfl (by omega)) ?_
  rw [show (x.hs.length : Int) - 1 = ((x.hs.length - 1 : Nat) : Int) by omega]
  refine XO.rd rfl rfl rfl (Reads.assign rfl) ?_
  refine XO.nil ?_
  refine XQ.then_normal ?_
  refine XC.seq ?_
  refine XC.seq ?_
  refine XC.region ?_
  refine XO.rd rfl rfl rfl (Reads.move rfl) ?_
  refine XO.rd rfl rfl rfl (Reads.load_whole k37 z37 rfl (by first | exact WholeAt.of 0 rfl | exact WholeAt.of 1 rfl | exact WholeAt.of 2 rfl | exact WholeAt.of 3 rfl) (by rfl)) ?_
  refine XO.rd rfl rfl rfl (Reads.move rfl) ?_
  refine XO.callp rfl rfl en65 (rshown1_any x a ak cap ck (x.hs.length - 1) keys _ hA hi hn hsz hK hk8 hks hc) ⟨rfl, rfl, rfl, trivial⟩ ?_
  refine XO.nil ?_
  refine XQ.then_normal ?_
  refine XC.cond rfl (fun h1 => ?_) (fun h1 => ?_)
  · skip
    refine XC.seq ?_
    refine XC.region ?_
    refine XO.rd rfl rfl rfl (fa37_1 rfl) ?_
    refine XO.rd rfl rfl rfl (Reads.load_own k35 rfl (by first | exact OwnAt.of 0 rfl rfl | exact OwnAt.of 1 rfl rfl | exact OwnAt.of 2 rfl rfl | exact OwnAt.of 3 rfl rfl)) ?_
    refine XO.rd rfl rfl rfl (Reads.move rfl) ?_
    refine XO.rd rfl rfl rfl (Reads.index_slot (q := (x.hs.length - 1) * 3) Tryd.underlying35 z53 rfl rfl (by omega) (hA.isSome (by decide) (by omega)) rfl) ?_
    refine XO.rd rfl rfl rfl (fs53_1 rfl (hA.addr (by decide) (by omega))) ?_
    refine XO.rd rfl rfl rfl (Reads.load_at (v := .int .i64 (x.h (x.hs.length - 1)).l) k3 rfl (by rw [x.h_get hi]; exact hA.hand hi 1 _ rfl)) ?_
    refine XO.rd rfl rfl rfl (Reads.assign rfl) ?_
    refine XO.nil ?_
    refine XQ.then_normal ?_
    refine XC.ret ?_
    refine XQ.then_ret ?_
    refine XQ.dropn 1 ?_
    refine XQ.done1 rfl rfl (Im.le_refl _) ?_
    exact ⟨rfl, by rw [says, if_pos (by assumption)], rfl⟩
  · skip
    refine XC.skip ?_
    refine XQ.then_normal ?_
    refine XC.seq ?_
    refine XC.region ?_
    refine XO.rd rfl rfl rfl (fa37_1 rfl) ?_
    refine XO.rd rfl rfl rfl (Reads.load_own k35 rfl (by first | exact OwnAt.of 0 rfl rfl | exact OwnAt.of 1 rfl rfl | exact OwnAt.of 2 rfl rfl | exact OwnAt.of 3 rfl rfl)) ?_
    refine XO.rd rfl rfl rfl (Reads.move rfl) ?_
    refine XO.rd rfl rfl rfl (Reads.index_slot (q := (x.hs.length - 1) * 3) Tryd.underlying35 z53 rfl rfl (by omega) (hA.isSome (by decide) (by omega)) rfl) ?_
    refine XO.rd rfl rfl rfl (fs53_1 rfl (hA.addr (by decide) (by omega))) ?_
    refine XO.rd rfl rfl rfl (Reads.load_at (v := .int .i64 (x.h (x.hs.length - 1)).l) k3 rfl (by rw [x.h_get hi]; exact hA.hand hi 1 _ rfl)) ?_
    refine XO.rd rfl rfl rfl (Reads.min rfl rfl) ?_
    refine XO.rd rfl rfl rfl (Reads.assign rfl) ?_
    refine XO.nil ?_
    refine XQ.then_normal ?_
    refine XC.ret ?_
    refine XQ.dropn 1 ?_
    refine XQ.done1 rfl rfl (Im.le_refl _) ?_
    exact ⟨rfl, by rw [says, if_neg (by simp [*])], rfl⟩

theorem rpass_any (key : ByteArray) (x : Att) (a ak : Option Addr) (cap ck : Nat) (keys : List ByteArray) (c : Int) (I : Im) (hA : Arr I a x.hs) (h63 : x.hs.length ≤ 9223372036854775807) (hK : Arr I ak keys) (hkl : keys.length ≤ 1000000) : FC Tryd.prog 41 [.string key, .slice ak keys.length ck, .agg (x.cs a cap).toArray, .int .i64 c] I (fun u I' => AOut I' u (pass key keys x c)) := by
  have hI := Im.le_refl I
  refine FSo.intro (n := 28) Tryd.func41 rfl rfl rfl (fun K Lf => ?_)
  refine XC.seq ?_
  refine XC.region ?_
  refine XO.box_agg rfl rfl rfl (fun b6 => ?_)
  refine XO.alloc (cs := #[.int .i64 0, .int .i64 0, .int .i64 0, .int .i64 0, .slice none 0 0]) rfl rfl zo37 rfl (fun b8 => ?_)
  refine XO.rd rfl rfl rfl (Reads.assign rfl) ?_
  refine XO.nil ?_
  refine XQ.then_normal ?_
  refine XC.seq ?_
  refine XC.seq ?_
  refine XC.region ?_
  refine XO.rd rfl rfl rfl (Reads.load_whole k37 z37 rfl (by first | exact WholeAt.of 0 rfl | exact WholeAt.of 1 rfl | exact WholeAt.of 2 rfl | exact WholeAt.of 3 rfl | exact WholeAt.of 4 rfl | exact WholeAt.of 5 rfl) (by rfl)) ?_
  refine XO.callp rfl rfl en30 (rformed_any x a cap _ hA h63) ⟨rfl, trivial⟩ ?_
  refine XO.rd rfl rfl rfl (Reads.not rfl) ?_
  refine XO.rd rfl rfl rfl (Reads.move rfl) ?_
  refine XO.split (d := 13) rfl (fun h1 => ?_) (fun h1 => ?_)
  · skip
    simp only [Bool.not_eq_true'] at h1
    refine XO.s (wg rfl rfl rfl) rfl ?_
    refine XO.s (wg rfl rfl rfl) rfl ?_
    refine XO.s (wg rfl rfl rfl) rfl ?_
    refine XO.rd rfl rfl rfl (Reads.pick_true rfl rfl) ?_
    refine XO.nil ?_
    refine XQ.then_normal ?_
    refine XC.cond rfl (fun _ => ?_) (fun hx => by cases hx)
    refine XC.seq ?_
    refine XC.region ?_
    refine XO.rd rfl rfl rfl (bd37 (vs := []) (none0.cs none 0).toArray trivial rfl) ?_
    refine XO.store_agg (vs := none0.cs none 0) 0 rfl z37 rfl rfl (by simp [Att.cs, none0, Value.oneCell']) rfl (by simp [Att.cs]) ?_
    refine XO.rd rfl rfl rfl (Reads.assign rfl) ?_
    refine XO.nil ?_
    refine XQ.then_normal ?_
    refine XC.ret ?_
    refine XQ.then_ret ?_
    refine XQ.done2ca [] 2 rfl k37 z37 rfl rfl (WholeAt.of 0 rfl) rfl rfl (Im.le_refl _) ?_
    exact ⟨rfl, _, _, rfl, (fun y hy => by rw [pass_no1 (by assumption)] at hy; cases hy), fun _ => ⟨rfl, rfl⟩⟩
  · skip
    simp only [Bool.not_eq_false'] at h1
    have hf : x.formed = true := h1
    have hle8 := formed_len hf
    have hn9 : x.hs.length ≤ 9 := by omega
    have hsz := formed_sz hf
    have hin := formed_in hf
    have hdi := formed_d hf
    refine XO.rd (wg rfl rfl rfl) rfl rfl (Reads.move rfl) ?_
    refine XO.callp (wg rfl rfl rfl) rfl en64 (rkeys_any ak ck keys false _ hK hkl) ⟨rfl, rfl, trivial⟩ ?_
    refine XO.rd (wg rfl rfl rfl) rfl rfl (Reads.not rfl) ?_
    refine XO.rd rfl rfl rfl (Reads.pick_false rfl rfl) ?_
    refine XO.nil ?_
    refine XQ.then_normal ?_
    refine XC.cond rfl (fun h2 => ?_) (fun h2 => ?_)
    · skip
      simp only [Bool.not_eq_true'] at h2
      refine XC.seq ?_
      refine XC.region ?_
      refine XO.rd rfl rfl rfl (bd37 (vs := []) (none0.cs none 0).toArray trivial rfl) ?_
      refine XO.store_agg (vs := none0.cs none 0) 0 rfl z37 rfl rfl (by simp [Att.cs, none0, Value.oneCell']) rfl (by simp [Att.cs]) ?_
      refine XO.rd rfl rfl rfl (Reads.assign rfl) ?_
      refine XO.nil ?_
      refine XQ.then_normal ?_
      refine XC.ret ?_
      refine XQ.then_ret ?_
      refine XQ.done2ca [] 2 rfl k37 z37 rfl rfl (WholeAt.of 0 rfl) rfl rfl (Im.le_refl _) ?_
      exact ⟨rfl, _, _, rfl, (fun y hy => by rw [pass_no2 (by assumption)] at hy; cases hy), fun _ => ⟨rfl, rfl⟩⟩
    · skip
      simp only [Bool.not_eq_false'] at h2
      have hok : okKeys keys = true := h2
      have hk8 := (okKeys_iff.1 hok).1
      have hks := okKeys_sz hok
      refine XC.skip ?_
      refine XQ.then_normal ?_
      refine XC.seq ?_
      refine XC.draw m_mixed none (.pure 0 (.pure 1 (.pure 2 (.pure 3 (.pure 4 (.eff 5 (.eff 6 (.pure 7 (.pure 8 (.eff 9 (.pure 10 (.done)))))))))))) [some (b6, .cells (x.cs a cap).toArray 37 (0, 0))] (by kernel_rfl) (List.Sublist.cons _ (List.Sublist.cons_cons _ (List.nil_sublist _))) ?_
      refine XR.rd rfl rfl rfl (Reads.move rfl) ?_
      refine XR.rd rfl rfl rfl (Reads.load_whole k37 z37 rfl (by first | exact WholeAt.of 0 rfl | exact WholeAt.of 1 rfl | exact WholeAt.of 2 rfl | exact WholeAt.of 3 rfl | exact WholeAt.of 4 rfl | exact WholeAt.of 5 rfl) (by rfl)) ?_
      refine XR.rd rfl rfl rfl (Reads.move rfl) ?_
      refine XR.rd rfl rfl rfl (Reads.move rfl) ?_
      refine XR.rd rfl rfl rfl (Reads.load_whole k37 z37 rfl (by first | exact WholeAt.of 0 rfl | exact WholeAt.of 1 rfl | exact WholeAt.of 2 rfl | exact WholeAt.of 3 rfl | exact WholeAt.of 4 rfl | exact WholeAt.of 5 rfl) (by rfl)) ?_
      refine XR.callp rfl rfl rfl en67 (rsays_any x a ak cap ck keys _ hA (by omega) hsz hK hk8 hks hle8.1 (formed_c hf (by omega))) ⟨rfl, rfl, trivial⟩ (List.Sublist.cons _ (List.Sublist.cons_cons _ (List.nil_sublist _))) ?_
      refine XR.call rfl rfl rfl en69 (rwith_any key x a cap c (says keys x (x.hs.length - 1)) _ hA (by omega)) ⟨rfl, rfl, rfl, rfl, trivial⟩ (List.Sublist.cons _ (List.Sublist.cons_cons _ (List.nil_sublist _))) ?_
      rintro u J4 hle4 hr
      replace hI := Im.le_trans hI hle4
      obtain ⟨ao, co, rfl, hco, hAo, hno⟩ := hr.any4
      refine XR.rd rfl rfl rfl (Reads.extract rfl rfl) ?_
      refine XR.rd rfl rfl rfl (Reads.extract rfl rfl) ?_
      refine XR.store_agg (vs := ((grow key x c (says keys x (x.hs.length - 1))).getD none0).cs ao co) 0 rfl rfl z37 rfl rfl (by simp [Value.oneCell']) rfl (by simp) (.inr (List.Sublist.cons _ (List.Sublist.cons_cons _ (List.nil_sublist _)))) ?_
      refine XR.rd rfl rfl rfl (Reads.assign rfl) ?_
      refine XR.nil ?_
      refine XQ.then_normal ?_
      refine XC.ret ?_
      refine XQ.done2ca [] 2 rfl k37 z37 rfl rfl (WholeAt.of 0 rfl) rfl rfl hI ?_
      rw [pass_yes hf hok]
      exact ⟨rfl, AOut.mk4 (o := grow key x c (says keys x (x.hs.length - 1))) hco hAo hno⟩

end Go.Proofs.YtmlliafhpbfdbaaDoor
namespace Go.Proofs.YtmlliafhpbfdbaaDoor
open Go.Xe Go.Sh Go Go.At

theorem rshown_any (x : Att) (a ak : Option Addr) (cap ck : Nat) (keys : List ByteArray) (i0 : Int) (I : Im) (hA : Arr I a x.hs) (h63 : x.hs.length ≤ 9223372036854775807) (hK : Arr I ak keys) (hkl : keys.length ≤ 1000000) : FC Tryd.prog 34 [.slice ak keys.length ck, .agg (x.cs a cap).toArray, .int .i64 i0] I (fun u I' => u = .bool (shownI keys x i0) ∧ I' = I) := by
  refine FSo.intro (n := 27) Tryd.func34 rfl rfl rfl (fun K Lf => ?_)
  refine XC.seq ?_
  refine XC.region ?_
  refine XO.box_agg rfl rfl rfl (fun b4 => ?_)
  refine XO.rd rfl rfl rfl (Reads.assign rfl) ?_
  refine XO.nil ?_
  refine XQ.then_normal ?_
  refine XC.seq ?_
  refine XC.region ?_
  refine XO.rd rfl rfl rfl (Reads.load_whole k37 z37 rfl (by first | exact WholeAt.of 0 rfl | exact WholeAt.of 1 rfl | exact WholeAt.of 2 rfl | exact WholeAt.of 3 rfl | exact WholeAt.of 4 rfl | exact WholeAt.of 5 rfl) (by rfl)) ?_
  refine XO.callp rfl rfl en30 (rformed_any x a cap _ hA h63) ⟨rfl, trivial⟩ ?_
  refine XO.rd rfl rfl rfl (Reads.move rfl) ?_
  refine XO.split (d := 9) rfl (fun h1 => ?_) (fun h1 => ?_)
  · skip
    have hf : x.formed = true := h1
    have hle8 := formed_len hf
    have hn9 : x.hs.length ≤ 9 := by omega
    have hsz := formed_sz hf
    have hin := formed_in hf
    have hdi := formed_d hf
    refine XO.rd (wg rfl rfl rfl) rfl rfl (Reads.move rfl) ?_
    refine XO.callp (wg rfl rfl rfl) rfl en64 (rkeys_any ak ck keys false _ hK hkl) ⟨rfl, rfl, trivial⟩ ?_
    refine XO.rd rfl rfl rfl (Reads.pick_true rfl rfl) ?_
    refine XO.rd rfl rfl rfl (Reads.move rfl) ?_
    refine XO.split (d := 13) rfl (fun h2 => ?_) (fun h2 => ?_)
    · skip
      have hok : okKeys keys = true := h2
      have hk8 := (okKeys_iff.1 hok).1
      have hks := okKeys_sz hok
      refine XO.rd (wg rfl rfl rfl) rfl rfl (Reads.move rfl) ?_
      refine XO.rd (wg rfl rfl rfl) rfl rfl (fa37_1 rfl) ?_
      refine XO.rd (wg rfl rfl rfl) rfl rfl (Reads.load_own k35 rfl (by first | exact OwnAt.of 0 rfl rfl | exact OwnAt.of 1 rfl rfl | exact OwnAt.of 2 rfl rfl | exact OwnAt.of 3 rfl rfl | exact OwnAt.of 4 rfl rfl | exact OwnAt.of 5 rfl rfl)) ?_
      refine XO.rd (wg rfl rfl rfl) rfl rfl (Reads.len_slice Tryd.underlying35 rfl) ?_
      refine XO.rd (wg rfl rfl rfl) rfl rfl (Reads.sub rfl rfl (by omega)) ?_
      refine XO.callp (wg rfl rfl rfl) rfl en63 (rin_any _ _ _ _) ⟨rfl, rfl, rfl, trivial⟩ ?_
      refine XO.rd rfl rfl rfl (Reads.pick_true rfl rfl) ?_
      refine XO.rd rfl rfl rfl (Reads.move rfl) ?_
      refine XO.split (d := 21) rfl (fun h3 => ?_) (fun h3 => ?_)
      · skip
        have hin := inB_iff.1 h3
        obtain ⟨j, rfl⟩ := Int.eq_ofNat_of_zero_le hin.1
        have hj3 : j < x.hs.length := by omega
        have hin2 : inB (j : Int) 0 ((x.hs.length : Int) - 1) = true := h3
        refine XO.rd (wg rfl rfl rfl) rfl rfl (Reads.move rfl) ?_
        refine XO.rd (wg rfl rfl rfl) rfl rfl (Reads.load_whole k37 z37 rfl (by first | exact WholeAt.of 0 rfl | exact WholeAt.of 1 rfl | exact WholeAt.of 2 rfl | exact WholeAt.of 3 rfl | exact WholeAt.of 4 rfl | exact WholeAt.of 5 rfl) (by rfl)) ?_
        refine XO.rd (wg rfl rfl rfl) rfl rfl (Reads.move rfl) ?_
        refine XO.callp (wg rfl rfl rfl) rfl en65 (rshown1_any x a ak cap ck j keys _ hA hj3 (by omega) hsz hK hk8 hks (formed_c hf hj3)) ⟨rfl, rfl, rfl, trivial⟩ ?_
        refine XO.rd rfl rfl rfl (Reads.pick_true rfl rfl) ?_
        refine XO.rd rfl rfl rfl (Reads.assign rfl) ?_
        refine XO.nil ?_
        refine XQ.then_normal ?_
        refine XC.ret ?_
        refine XQ.dropn 1 ?_
        refine XQ.done1 rfl rfl (Im.le_refl _) ?_
        exact ⟨rfl, congrArg Value.bool (by rw [shownI, hf, hok, hin2]; rfl), rfl⟩
      · skip
        have hin2 : inB i0 0 ((x.hs.length : Int) - 1) = false := h3
        refine XO.s (wg rfl rfl rfl) rfl ?_
        refine XO.s (wg rfl rfl rfl) rfl ?_
        refine XO.s (wg rfl rfl rfl) rfl ?_
        refine XO.s (wg rfl rfl rfl) rfl ?_
        refine XO.rd rfl rfl rfl (Reads.pick_false rfl rfl) ?_
        refine XO.rd rfl rfl rfl (Reads.assign rfl) ?_
        refine XO.nil ?_
        refine XQ.then_normal ?_
        refine XC.ret ?_
        refine XQ.dropn 1 ?_
        refine XQ.done1 rfl rfl (Im.le_refl _) ?_
        exact ⟨rfl, congrArg Value.bool (by rw [shownI, hin2]; simp), rfl⟩
    · skip
      have hok : okKeys keys = false := h2
      refine XO.s (wg rfl rfl rfl) rfl ?_
      refine XO.s (wg rfl rfl rfl) rfl ?_
      refine XO.s (wg rfl rfl rfl) rfl ?_
      refine XO.s (wg rfl rfl rfl) rfl ?_
      refine XO.s (wg rfl rfl rfl) rfl ?_
      refine XO.s (wg rfl rfl rfl) rfl ?_
      refine XO.rd rfl rfl rfl (Reads.pick_false rfl rfl) ?_
      refine XO.rd rfl rfl rfl (Reads.move rfl) ?_
      refine XO.s (wg rfl rfl rfl) rfl ?_
      refine XO.s (wg rfl rfl rfl) rfl ?_
      refine XO.s (wg rfl rfl rfl) rfl ?_
      refine XO.s (wg rfl rfl rfl) rfl ?_
      refine XO.rd rfl rfl rfl (Reads.pick_false rfl rfl) ?_
      refine XO.rd rfl rfl rfl (Reads.assign rfl) ?_
      refine XO.nil ?_
      refine XQ.then_normal ?_
      refine XC.ret ?_
      refine XQ.dropn 1 ?_
      refine XQ.done1 rfl rfl (Im.le_refl _) ?_
      exact ⟨rfl, congrArg Value.bool (by rw [shownI, hok]; simp), rfl⟩
  · skip
    have hf : x.formed = false := h1
    refine XO.s (wg rfl rfl rfl) rfl ?_
    refine XO.s (wg rfl rfl rfl) rfl ?_
    refine XO.rd rfl rfl rfl (Reads.pick_false rfl rfl) ?_
    refine XO.rd rfl rfl rfl (Reads.move rfl) ?_
    refine XO.s (wg rfl rfl rfl) rfl ?_
    refine XO.s (wg rfl rfl rfl) rfl ?_
    refine XO.s (wg rfl rfl rfl) rfl ?_
    refine XO.s (wg rfl rfl rfl) rfl ?_
    refine XO.s (wg rfl rfl rfl) rfl ?_
    refine XO.s (wg rfl rfl rfl) rfl ?_
    refine XO.rd rfl rfl rfl (Reads.pick_false rfl rfl) ?_
    refine XO.rd rfl rfl rfl (Reads.move rfl) ?_
    refine XO.s (wg rfl rfl rfl) rfl ?_
    refine XO.s (wg rfl rfl rfl) rfl ?_
    refine XO.s (wg rfl rfl rfl) rfl ?_
    refine XO.s (wg rfl rfl rfl) rfl ?_
    refine XO.rd rfl rfl rfl (Reads.pick_false rfl rfl) ?_
    refine XO.rd rfl rfl rfl (Reads.assign rfl) ?_
    refine XO.nil ?_
    refine XQ.then_normal ?_
    refine XC.ret ?_
    refine XQ.dropn 1 ?_
    refine XQ.done1 rfl rfl (Im.le_refl _) ?_
    exact ⟨rfl, congrArg Value.bool (by rw [shownI, hf]; simp), rfl⟩

theorem rcheck_any (x : Att) (a ak : Option Addr) (cap ck : Nat) (keys : List ByteArray) (I : Im) (hA : Arr I a x.hs) (h63 : x.hs.length ≤ 9223372036854775807) (hK : Arr I ak keys) (hkl : keys.length ≤ 1000000) : FC Tryd.prog 35 [.slice ak keys.length ck, .agg (x.cs a cap).toArray] I (fun u I' => u = .tuple #[.int .i64 (check keys x).1, .int .i64 (check keys x).2.1, .int .i64 (check keys x).2.2] ∧ I' = I) := by
  refine FSo.intro (n := 34) Tryd.func35 rfl rfl rfl (fun K Lf => ?_)
  refine XC.seq ?_
  refine XC.region ?_
  refine XO.box_agg rfl rfl rfl (fun b3 => ?_)
  refine XO.rd rfl rfl rfl (Reads.assign rfl) ?_
  refine XO.rd rfl rfl rfl (Reads.assign rfl) ?_
  refine XO.rd rfl rfl rfl (Reads.assign rfl) ?_
  refine XO.nil ?_
  refine XQ.then_normal ?_
  refine XC.seq ?_
  refine XC.seq ?_
  refine XC.region ?_
  refine XO.rd rfl rfl rfl (Reads.load_whole k37 z37 rfl (by first | exact WholeAt.of 0 rfl | exact WholeAt.of 1 rfl | exact WholeAt.of 2 rfl | exact WholeAt.of 3 rfl | exact WholeAt.of 4 rfl | exact WholeAt.of 5 rfl) (by rfl)) ?_
  refine XO.callp rfl rfl en30 (rformed_any x a cap _ hA h63) ⟨rfl, trivial⟩ ?_
  refine XO.rd rfl rfl rfl (Reads.not rfl) ?_
  refine XO.rd rfl rfl rfl (Reads.move rfl) ?_
  refine XO.split (d := 11) rfl (fun h1 => ?_) (fun h1 => ?_)
  · skip
    simp only [Bool.not_eq_true'] at h1
    refine XO.s (wg rfl rfl rfl) rfl ?_
    refine XO.s (wg rfl rfl rfl) rfl ?_
    refine XO.s (wg rfl rfl rfl) rfl ?_
    refine XO.rd rfl rfl rfl (Reads.pick_true rfl rfl) ?_
    refine XO.nil ?_
    refine XQ.then_normal ?_
    refine XC.cond rfl (fun _ => ?_) (fun hx => by cases hx)
    refine XC.seq ?_
    refine XC.region ?_
    refine XO.rd rfl rfl rfl (Reads.assign rfl) ?_
    refine XO.rd rfl rfl rfl (Reads.assign rfl) ?_
    refine XO.rd rfl rfl rfl (Reads.assign rfl) ?_
    refine XO.nil ?_
    refine XQ.then_normal ?_
    refine XC.ret ?_
    refine XQ.then_ret ?_
    refine XQ.dropn 1 ?_
    refine XQ.done3 (L := []) rfl rfl rfl rfl (Im.le_refl _) ?_
    exact ⟨rfl, by simp [check, h1], rfl⟩
  · skip
    simp only [Bool.not_eq_false'] at h1
    have hf : x.formed = true := h1
    have hle8 := formed_len hf
    have hn9 : x.hs.length ≤ 9 := by omega
    have hsz := formed_sz hf
    have hin := formed_in hf
    have hdi := formed_d hf
    refine XO.rd (wg rfl rfl rfl) rfl rfl (Reads.move rfl) ?_
    refine XO.callp (wg rfl rfl rfl) rfl en64 (rkeys_any ak ck keys false _ hK hkl) ⟨rfl, rfl, trivial⟩ ?_
    refine XO.rd (wg rfl rfl rfl) rfl rfl (Reads.not rfl) ?_
    refine XO.rd rfl rfl rfl (Reads.pick_false rfl rfl) ?_
    refine XO.nil ?_
    refine XQ.then_normal ?_
    refine XC.cond rfl (fun h2 => ?_) (fun h2 => ?_)
    · skip
      simp only [Bool.not_eq_true'] at h2
      have hok : okKeys keys = false := h2
      refine XC.seq ?_
      refine XC.region ?_
      refine XO.rd rfl rfl rfl (Reads.assign rfl) ?_
      refine XO.rd rfl rfl rfl (Reads.assign rfl) ?_
      refine XO.rd rfl rfl rfl (Reads.assign rfl) ?_
      refine XO.nil ?_
      refine XQ.then_normal ?_
      refine XC.ret ?_
      refine XQ.then_ret ?_
      refine XQ.dropn 1 ?_
      refine XQ.done3 (L := []) rfl rfl rfl rfl (Im.le_refl _) ?_
      exact ⟨rfl, by simp [check, *], rfl⟩
    · skip
      simp only [Bool.not_eq_false'] at h2
      have hok : okKeys keys = true := h2
      have hk8 := (okKeys_iff.1 hok).1
      have hks := okKeys_sz hok
      refine XC.skip ?_
      refine XQ.then_normal ?_
      refine XC.seq ?_
      refine XC.seq ?_
      refine XC.region ?_
      refine XO.rd rfl rfl rfl (Reads.assign rfl) ?_
      refine XO.nil ?_
      refine XQ.then_normal ?_
      refine XC.block ?_
      refine XC.loop (ι := Nat) (fun q => [(0, .slice ak keys.length ck), (3, .pointer (some ⟨b3, 0, none⟩)), (7, .int .i64 q)]) (fun q => I) (fun q => some (b3, .cells (x.cs a cap).toArray 37 (0, 0)) :: ([] ++ Lf)) (fun q => q ≤ x.hs.length ∧ (∀ i, i < q → shown keys x i = false)) (fun q => x.hs.length - q) 0 ⟨Nat.zero_le _, fun _ h => absurd h (Nat.not_lt_zero _)⟩ ⟨rfl, rfl, rfl, trivial⟩ rfl (List.Perm.refl _) (fun j hj => ?_)
      obtain ⟨hj1, hj2⟩ := hj
      refine XC.seq ?_
      refine XC.seq ?_
      refine XC.region ?_
      refine XO.rd rfl rfl rfl (Reads.move rfl) ?_
      refine XO.rd rfl rfl rfl (fa37_1 rfl) ?_
      refine XO.rd rfl rfl rfl (Reads.load_own k35 rfl (by first | exact OwnAt.of 0 rfl rfl | exact OwnAt.of 1 rfl rfl | exact OwnAt.of 2 rfl rfl | exact OwnAt.of 3 rfl rfl | exact OwnAt.of 4 rfl rfl | exact OwnAt.of 5 rfl rfl)) ?_
      refine XO.rd rfl rfl rfl (Reads.len_slice Tryd.underlying35 rfl) ?_
      refine XO.rd rfl rfl rfl (Reads.cmp rfl rfl rfl) ?_
      refine XO.nil ?_
      refine XQ.then_normal ?_
      refine XC.cond rfl (fun h3 => ?_) (fun h3 => ?_)
      · skip
        simp only [cmpInt, decide_eq_true_eq] at h3
        have hj3 : j < x.hs.length := by omega
        refine XC.skip ?_
        refine XQ.then_normal ?_
        refine XC.seq ?_
        refine XC.block ?_
        refine XC.seq ?_
        refine XC.region ?_
        refine XO.rd rfl rfl rfl (Reads.move rfl) ?_
        refine XO.rd rfl rfl rfl (Reads.load_whole k37 z37 rfl (by first | exact WholeAt.of 0 rfl | exact WholeAt.of 1 rfl | exact WholeAt.of 2 rfl | exact WholeAt.of 3 rfl | exact WholeAt.of 4 rfl | exact WholeAt.of 5 rfl) (by rfl)) ?_
        refine XO.rd rfl rfl rfl (Reads.move rfl) ?_
        refine XO.callp rfl rfl en65 (rshown1_any x a ak cap ck j keys _ hA hj3 (by omega) hsz hK hk8 hks (formed_c hf hj3)) ⟨rfl, rfl, rfl, trivial⟩ ?_
        refine XO.nil ?_
        refine XQ.then_normal ?_
        refine XC.cond rfl (fun h4 => ?_) (fun h4 => ?_)
        · skip
          have hsh : shown keys x j = true := h4
          refine XC.seq ?_
          refine XC.region ?_
          refine XO.rd rfl rfl rfl (fa37_1 rfl) ?_
          refine XO.rd rfl rfl rfl (Reads.load_own k35 rfl (by first | exact OwnAt.of 0 rfl rfl | exact OwnAt.of 1 rfl rfl | exact OwnAt.of 2 rfl rfl | exact OwnAt.of 3 rfl rfl | exact OwnAt.of 4 rfl rfl | exact OwnAt.of 5 rfl rfl)) ?_
          refine XO.rd rfl rfl rfl (Reads.move rfl) ?_
          refine XO.rd rfl rfl rfl (Reads.index_slot (q := (j) * 3) Tryd.underlying35 z53 rfl rfl (by omega) (hA.isSome (by decide) (by omega)) rfl) ?_
          refine XO.rd rfl rfl rfl (fs53_1 rfl (hA.addr (by decide) (by omega))) ?_
          refine XO.rd rfl rfl rfl (Reads.load_at (v := .int .i64 (x.h (j)).l) k3 rfl (by rw [x.h_get hj3]; exact hA.hand hj3 1 _ rfl)) ?_
          refine XO.rd rfl rfl rfl (Reads.move rfl) ?_
          refine XO.rd rfl rfl rfl (Reads.assign rfl) ?_
          refine XO.rd rfl rfl rfl (Reads.assign rfl) ?_
          refine XO.rd rfl rfl rfl (Reads.assign rfl) ?_
          refine XO.nil ?_
          refine XQ.then_normal ?_
          refine XC.ret ?_
          refine XQ.block_ret ?_
          refine XQ.then_ret ?_
          refine XQ.then_ret ?_
          refine XQ.block_ret ?_
          refine XQ.then_ret ?_
          refine XQ.dropn 1 ?_
          refine XQ.done3 (L := []) rfl rfl rfl rfl (Im.le_refl _) ?_
          exact ⟨rfl, by rw [check, hf, hok, firstI_some.2 ⟨hj3, hsh, hj2⟩]; rfl, rfl⟩
        · skip
          have hsh : shown keys x j = false := h4
          refine XC.skip ?_
          refine XQ.block_normal ?_
          refine XQ.then_normal ?_
          refine XC.region ?_
          refine XO.rd rfl rfl rfl (Reads.move rfl) ?_
          refine XO.rd rfl rfl rfl (Reads.add rfl rfl (by omega)) ?_
          refine XO.rd rfl rfl rfl (Reads.assign rfl) ?_
          refine XO.nil ?_
          refine XQ.back (j + 1) ⟨by omega, fun i hi => by rcases Nat.lt_succ_iff_lt_or_eq.1 hi with h9 | rfl; exact hj2 i h9; exact hsh⟩ (by omega) ⟨rfl, rfl, rfl, trivial⟩ rfl (List.Perm.refl _)
      · skip
        simp only [cmpInt, decide_eq_false_iff_not] at h3
        refine XC.exit ?_
        refine XQ.then_exit ?_
        refine XQ.then_exit ?_
        refine XQ.block_exit ?_
        refine XQ.then_normal ?_
        refine XC.seq ?_
        refine XC.region ?_
        refine XO.rd rfl rfl rfl (Reads.assign rfl) ?_
        refine XO.rd rfl rfl rfl (Reads.assign rfl) ?_
        refine XO.rd rfl rfl rfl (Reads.assign rfl) ?_
        refine XO.nil ?_
        refine XQ.then_normal ?_
        refine XC.ret ?_
        refine XQ.dropn 1 ?_
        refine XQ.done3 (L := []) rfl rfl rfl rfl (Im.le_refl _) ?_
        exact ⟨rfl, by rw [check, hf, hok, firstI_none.2 (fun i hi => hj2 i (by omega))]; rfl, rfl⟩

end Go.Proofs.YtmlliafhpbfdbaaDoor
