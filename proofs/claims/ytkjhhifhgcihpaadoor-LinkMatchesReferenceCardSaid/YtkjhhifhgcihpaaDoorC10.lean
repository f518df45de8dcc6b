/- Walks: the reference's digest, and collisions. -/
import Derived.Test.YtkjhhifhgcihpaaDoorC9
namespace Go.Proofs.YtkjhhifhgcihpaaDoor
open Go.Xe Go.Sh Go

theorem rsum_all (s : ByteArray) (I : Im) (hs : s.size ≤ 1000000000) : FC Tryd.prog 44 [.string s] I (fun u I' => u = .string (sha s)) := by
  have hsz : s.size = s.data.toList.length := by simp
  have hpl := pad_len s.data.toList
  have hpm := pad_mod s.data.toList
  have hzc : zc s.data.toList.length < 64 := Nat.mod_lt _ (by decide)
  refine FSo.intro (n := 56) Tryd.func44 rfl rfl rfl (fun K Lf => ?_)
  refine XC.seq ?_
  refine XC.region ?_
  refine XO.rd rfl rfl rfl (Reads.assign rfl) ?_
  refine XO.nil ?_
  refine XQ.then_normal ?_
  refine XC.seq ?_
  refine XC.region ?_
  refine XO.lit (α := Nat) H0 (wC H0) (wC H0) rfl rfl Tryd.underlying84 el83 rfl (by decide) ⟨rfl, rfl, rfl, rfl, rfl, rfl, rfl, rfl, rfl, rfl, rfl, rfl, rfl, rfl, rfl, rfl, trivial⟩ rfl rfl (by decide) rfl (flat_words _ _) (fun bl J1 hle1 hsl => ?_)
  refine XO.rd rfl rfl rfl (Reads.assign rfl) ?_
  refine XO.nil ?_
  refine XQ.then_normal ?_
  refine XC.seq ?_
  refine XC.region ?_
  refine XO.rd rfl rfl rfl (Reads.move rfl) ?_
  refine XO.callo (vs := [_]) (L1 := []) rfl rfl rfl en53 ⟨rfl, trivial⟩ (rext_any s _ hs) (List.Perm.refl _) ?_
  rintro v' J' L' _ ⟨V, rfl, hJ', rfl, hV⟩
  replace hJ' := hJ'.symm
  subst hJ'
  refine XO.rd rfl rfl rfl (Reads.assign rfl) ?_
  refine XO.nil ?_
  refine XQ.then_normal ?_
  refine XC.seq ?_
  refine XC.seq ?_
  refine XC.region ?_
  have hVl : V.len = (pad s.data.toList).length := by have := hV.len; rw [byteC_len] at this; omega
  have hVc := hV.le
  refine XO.vec_done (α := UInt8) (by decide) hV (flat_byte _ _) (fun J2 hle2 hP => ?_)
  refine XO.rd rfl rfl rfl (Reads.assign rfl) ?_
  refine XO.nil ?_
  refine XQ.then_normal ?_
  refine XC.block ?_
  refine XC.loop (ι := Nat × Im × Option Addr × Nat) (fun q => [(3, .slice q.2.2.1 8 q.2.2.2), (4, V.val), (5, .int .i64 ((64 * q.1 : Nat) : Int))]) (fun q => q.2.1) (fun q => [] ++ Lf) (fun q => q.1 ≤ ((pad s.data.toList).length / 64) ∧ J2.le q.2.1 ∧ Arr q.2.1 q.2.2.1 (blocks (pad s.data.toList) q.1)) (fun q => ((pad s.data.toList).length / 64) - q.1) (0, J2, some ⟨bl, 0, none⟩, 8) ⟨Nat.zero_le _, Im.le_refl _, hsl.arr.1.mono hle2⟩ ⟨rfl, rfl, rfl, trivial⟩ rfl (List.Perm.refl _) (fun q hq => ?_)
  obtain ⟨j, J, a, c⟩ := q
  obtain ⟨hj1, hle, hH⟩ := hq
  simp only at hj1 hle hH ⊢
  refine XC.seq ?_
  refine XC.seq ?_
  refine XC.region ?_
  refine XO.rd rfl rfl rfl (Reads.move rfl) ?_
  refine XO.rd rfl rfl rfl (Reads.move rfl) ?_
  refine XO.rd rfl rfl rfl (Reads.len_slice Tryd.underlying70 rfl) ?_
  refine XO.rd rfl rfl rfl (Reads.cmp rfl rfl rfl) ?_
  refine XO.nil ?_
  refine XQ.then_normal ?_
  refine XC.cond rfl (fun h1 => ?_) (fun h1 => ?_)
  · skip
    simp only [cmpInt, decide_eq_true_eq] at h1
    have hjR : j < ((pad s.data.toList).length / 64) := by omega
    refine XC.skip ?_
    refine XQ.then_normal ?_
    refine XC.seq ?_
    refine XC.block ?_
    refine XC.region ?_
    refine XO.rd rfl rfl rfl (Reads.move rfl) ?_
    refine XO.rd rfl rfl rfl (Reads.move rfl) ?_
    refine XO.rd rfl rfl rfl (Reads.move rfl) ?_
    refine XO.rd rfl rfl rfl (Reads.move rfl) ?_
    refine XO.rd rfl rfl rfl (Reads.add rfl rfl (by omega)) ?_
    rw [show ((64 * j : Nat) : Int) + 64 = ((64 * j + 64 : Nat) : Int) by omega]
    refine XO.rd rfl rfl rfl (Reads.slice_gen (64 * j) (64 * j + 64) V.cap Tryd.underlying70 z5 rfl ⟨_, rfl⟩ ⟨_, rfl⟩ rfl (fun h => by cases h) (by omega) (by omega) (by omega)) ?_
    rw [show 64 * j + 64 - 64 * j = 64 by omega]
    refine XO.call rfl rfl en54 (rblock_any a _ c _ (blocks (pad s.data.toList) j) (((pad s.data.toList).drop (64 * j)).take 64) _ hH ((hP.arr.1.mono hle).part (k := 64) (fun h => by omega)) (by rw [List.length_take, List.length_drop]; omega) (blocks_len _ _) (blocks_ws _ _)) ⟨rfl, rfl, trivial⟩ ?_
    rintro u J3 hle3 ⟨a3, c3, rfl, hH3⟩
    refine XO.rd rfl rfl rfl (Reads.assign rfl) ?_
    refine XO.nil ?_
    refine XQ.block_normal ?_
    refine XQ.then_normal ?_
    refine XC.region ?_
    refine XO.rd rfl rfl rfl (Reads.move rfl) ?_
    refine XO.rd rfl rfl rfl (Reads.add rfl rfl (by omega)) ?_
    rw [show ((64 * j : Nat) : Int) + 64 = ((64 * (j + 1) : Nat) : Int) by omega]
    refine XO.rd rfl rfl rfl (Reads.assign rfl) ?_
    refine XO.nil ?_
    refine XQ.back (j + 1, J3, a3, c3) ⟨by simp only; omega, Im.le_trans hle hle3, by rw [blocks_succ]; exact hH3⟩ (by simp only; omega) ⟨rfl, rfl, rfl, trivial⟩ rfl (List.Perm.refl _)
  · skip
    simp only [cmpInt, decide_eq_false_iff_not] at h1
    have hjR : j = ((pad s.data.toList).length / 64) := by omega
    subst hjR
    refine XC.exit ?_
    refine XQ.then_exit ?_
    refine XQ.then_exit ?_
    refine XQ.block_exit ?_
    refine XQ.then_normal ?_
    refine XC.seq ?_
    refine XC.region ?_
    refine XO.rd rfl rfl rfl (Reads.assign rfl) ?_
    refine XO.nil ?_
    refine XQ.then_normal ?_
    refine XC.seq ?_
    refine XC.seq ?_
    refine XC.region ?_
    refine XO.rd rfl rfl rfl (Reads.assign rfl) ?_
    refine XO.nil ?_
    refine XQ.then_normal ?_
    refine XC.block ?_
    refine XC.vec0 5 ?_
    refine XC.loop (ι := Nat × Vec) (fun q => [(3, .slice a 8 c), (6, q.2.val), (7, .int .i64 q.1)]) (fun q => J) (fun q => q.2.ent 5 :: ([] ++ Lf)) (fun q => q.1 ≤ 8 ∧ q.2.Is 1 (byteC (outB (blocks (pad s.data.toList) ((pad s.data.toList).length / 64)) q.1))) (fun q => 8 - q.1) (0, Vec.nil) ⟨Nat.zero_le _, Vec.nil_is 1⟩ ⟨rfl, rfl, rfl, trivial⟩ rfl (List.Perm.refl _) (fun q hq => ?_)
    obtain ⟨i, V4⟩ := q
    obtain ⟨hi1, hV4⟩ := hq
    simp only at hi1 hV4 ⊢
    have hVl4 : V4.len = 4 * i := by have := hV4.len; rw [byteC_len, outB_len] at this; omega
    refine XC.seq ?_
    refine XC.seq ?_
    refine XC.region ?_
    refine XO.rd rfl rfl rfl (Reads.move rfl) ?_
    refine XO.rd rfl rfl rfl (Reads.cmp rfl rfl rfl) ?_
    refine XO.nil ?_
    refine XQ.then_normal ?_
    refine XC.cond rfl (fun h2 => ?_) (fun h2 => ?_)
    · skip
      simp only [cmpInt, decide_eq_true_eq] at h2
      refine XC.skip ?_
      refine XQ.then_normal ?_
      refine XC.seq ?_
      refine XC.block ?_
      refine XC.draw m_mixed none (.pure 0 (.pure 1 (.pure 2 (.pure 3 (.pure 4 (.pure 5 (.pure 6 (.pure 7 (.pure 8 (.pure 9 (.pure 10 (.pure 11 (.pure 12 (.pure 13 (.pure 14 (.pure 15 (.pure 16 (.pure 17 (.pure 18 (.pure 19 (.pure 20 (.pure 21 (.pure 22 (.pure 23 (.eff 24 (.eff 25 (.pure 26 (.done)))))))))))))))))))))))))))) [] (by kernel_rfl) (List.nil_sublist _) ?_
      refine XR.rd rfl rfl rfl (Reads.move rfl) ?_
      refine XR.rd rfl rfl rfl (Reads.move rfl) ?_
      refine XR.rd rfl rfl rfl (Reads.move rfl) ?_
      refine XR.rd rfl rfl rfl (Reads.index_slot (q := i) Tryd.underlying84 z83 rfl rfl (by omega) (hH.isSome (by decide) (by rw [blocks_len]; omega)) (by omega)) ?_
      refine XR.rd rfl rfl rfl (Reads.load_at k83 rfl (hH.g_at (j := i) (by rw [blocks_len]; omega) rfl)) ?_
      refine XR.rd rfl rfl rfl (Reads.shrn (s := 24) rfl rfl (by decide)) ?_
      refine XR.rd rfl rfl rfl (Reads.convu Tryd.underlying83 rfl Tryd.underlying5 rfl rfl) ?_
      show XR _ _ _ _ _ _ _ _ _ ((34, .int .u8 ((g (blocks (pad s.data.toList) ((pad s.data.toList).length / 64)) i / 2 ^ (24 - 8 * 0) % 256 : Nat) : Int)) :: _) _ _ _
      rw [u8_nat (g (blocks (pad s.data.toList) ((pad s.data.toList).length / 64)) i / 2 ^ (24 - 8 * 0))]
      refine XR.rd rfl rfl rfl (Reads.move rfl) ?_
      refine XR.rd rfl rfl rfl (Reads.move rfl) ?_
      refine XR.rd rfl rfl rfl (Reads.index_slot (q := i) Tryd.underlying84 z83 rfl rfl (by omega) (hH.isSome (by decide) (by rw [blocks_len]; omega)) (by omega)) ?_
      refine XR.rd rfl rfl rfl (Reads.load_at k83 rfl (hH.g_at (j := i) (by rw [blocks_len]; omega) rfl)) ?_
      refine XR.rd rfl rfl rfl (Reads.shrn (s := 16) rfl rfl (by decide)) ?_
      refine XR.rd rfl rfl rfl (Reads.convu Tryd.underlying83 rfl Tryd.underlying5 rfl rfl) ?_
      show XR _ _ _ _ _ _ _ _ _ ((40, .int .u8 ((g (blocks (pad s.data.toList) ((pad s.data.toList).length / 64)) i / 2 ^ (24 - 8 * 1) % 256 : Nat) : Int)) :: _) _ _ _
      rw [u8_nat (g (blocks (pad s.data.toList) ((pad s.data.toList).length / 64)) i / 2 ^ (24 - 8 * 1))]
      refine XR.rd rfl rfl rfl (Reads.move rfl) ?_
      refine XR.rd rfl rfl rfl (Reads.move rfl) ?_
      refine XR.rd rfl rfl rfl (Reads.index_slot (q := i) Tryd.underlying84 z83 rfl rfl (by omega) (hH.isSome (by decide) (by rw [blocks_len]; omega)) (by omega)) ?_
      refine XR.rd rfl rfl rfl (Reads.load_at k83 rfl (hH.g_at (j := i) (by rw [blocks_len]; omega) rfl)) ?_
      refine XR.rd rfl rfl rfl (Reads.shrn (s := 8) rfl rfl (by decide)) ?_
      refine XR.rd rfl rfl rfl (Reads.convu Tryd.underlying83 rfl Tryd.underlying5 rfl rfl) ?_
      show XR _ _ _ _ _ _ _ _ _ ((46, .int .u8 ((g (blocks (pad s.data.toList) ((pad s.data.toList).length / 64)) i / 2 ^ (24 - 8 * 2) % 256 : Nat) : Int)) :: _) _ _ _
      rw [u8_nat (g (blocks (pad s.data.toList) ((pad s.data.toList).length / 64)) i / 2 ^ (24 - 8 * 2))]
      refine XR.rd rfl rfl rfl (Reads.move rfl) ?_
      refine XR.rd rfl rfl rfl (Reads.move rfl) ?_
      refine XR.rd rfl rfl rfl (Reads.index_slot (q := i) Tryd.underlying84 z83 rfl rfl (by omega) (hH.isSome (by decide) (by rw [blocks_len]; omega)) (by omega)) ?_
      refine XR.rd rfl rfl rfl (Reads.load_at k83 rfl (hH.g_at (j := i) (by rw [blocks_len]; omega) rfl)) ?_
      refine XR.rd rfl rfl rfl (Reads.convu Tryd.underlying83 rfl Tryd.underlying5 rfl rfl) ?_
      rw [show List.getD (blocks (pad s.data.toList) ((pad s.data.toList).length / 64)) i 0 % 256 = g (blocks (pad s.data.toList) ((pad s.data.toList).length / 64)) i / 2 ^ (24 - 8 * 3) % 256 by simp [g]]
      rw [u8_nat (g (blocks (pad s.data.toList) ((pad s.data.toList).length / 64)) i / 2 ^ (24 - 8 * 3))]
      refine XR.buildL (byteC (out1 (g (blocks (pad s.data.toList) ((pad s.data.toList).length / 64)) i) 4)) (byteC (out1 (g (blocks (pad s.data.toList) ((pad s.data.toList).length / 64)) i) 4)) rfl rfl rfl Tryd.underlying70 el5 rfl (by simp [byteC_len, out1_len]) ⟨rfl, rfl, rfl, rfl, rfl, rfl, rfl, rfl, trivial⟩ rfl rfl (List.nil_sublist _) (fun bu => ?_)
      refine XR.append (V := V4) (news := (byteC (out1 (g (blocks (pad s.data.toList) ((pad s.data.toList).length / 64)) i) 4))) 1 rfl rfl rfl Tryd.underlying70 el5 rfl rfl hV4 rfl (.slice Tryd.underlying70 (readable_row 0 rfl rfl) rfl (byteC_one _)) (by omega) (by omega) ?_
      intro V' hV' hVl'
      refine ⟨.inr (List.nil_sublist _), ?_⟩
      refine XR.rd rfl rfl rfl (Reads.assign rfl) ?_
      refine XR.nil ?_
      refine XQ.block_normal ?_
      refine XQ.then_normal ?_
      refine XC.region ?_
      refine XO.rd rfl rfl rfl (Reads.move rfl) ?_
      refine XO.rd rfl rfl rfl (Reads.add rfl rfl (by omega)) ?_
      refine XO.rd rfl rfl rfl (Reads.assign rfl) ?_
      refine XO.nil ?_
      refine XQ.dropn 1 ?_
      refine XQ.back (i + 1, V') ⟨by simp only; omega, by rw [outB_succ, byteC_append]; exact hV'⟩ (by simp only; omega) ⟨rfl, rfl, rfl, trivial⟩ rfl (List.Perm.refl _)
    · skip
      simp only [cmpInt, decide_eq_false_iff_not] at h2
      have hi8 : i = 8 := by omega
      subst hi8
      refine XC.exit ?_
      refine XQ.then_exit ?_
      refine XQ.then_exit ?_
      refine XQ.block_exit ?_
      refine XQ.then_normal ?_
      refine XC.seq ?_
      refine XC.region ?_
      refine XO.rd rfl rfl rfl (Reads.move rfl) ?_
      refine XO.rd rfl rfl rfl (Reads.to_string (bs := outB (blocks (pad s.data.toList) ((pad s.data.toList).length / 64)) 8) Tryd.underlying70 Tryd.underlying5 Tryd.underlying9 rfl (by rw [outB_len]; omega) (hV4.readable (e := 5) (List.mem_of_getElem? (i := 0) rfl))) ?_
      refine XO.rd rfl rfl rfl (Reads.assign rfl) ?_
      refine XO.nil ?_
      refine XQ.then_normal ?_
      refine XC.ret ?_
      refine XQ.dropn 1 ?_
      refine XQ.done1 (L := []) rfl rfl (Im.le_trans hle1 (Im.le_trans hle2 hle)) ?_
      exact ⟨rfl, rfl⟩

theorem rleaf_all (s : ByteArray) (I : Im) (hs : s.size ≤ 10000000) : FC Tryd.prog 43 [.string s] I (fun u I' => u = .string (leaf s) ∧ I' = I) := by
  have h1 : (⟨#[0]⟩ : ByteArray).size = 1 := rfl
  have h2 : ((⟨#[0]⟩ : ByteArray) ++ s).size = 1 + s.size := ByteArray.size_append
  refine FSo.intro (n := 6) Tryd.func43 rfl rfl rfl (fun K Lf => ?_)
  refine XC.seq ?_
  refine XC.region ?_
  refine XO.rd rfl rfl rfl (Reads.assign rfl) ?_
  refine XO.nil ?_
  refine XQ.then_normal ?_
  refine XC.seq ?_
  refine XC.region ?_
  refine XO.rd rfl rfl rfl (Reads.move rfl) ?_
  refine XO.rd rfl rfl rfl (Reads.sadd rfl rfl (by omega)) ?_
  refine XO.callp rfl rfl en44 (FC.pure (rsum_all _ _ (by omega))) ⟨rfl, trivial⟩ ?_
  refine XO.rd rfl rfl rfl (Reads.assign rfl) ?_
  refine XO.nil ?_
  refine XQ.then_normal ?_
  refine XC.ret ?_
  refine XQ.done1 rfl rfl (Im.le_refl _) ?_
  exact ⟨rfl, rfl, rfl⟩

theorem rnode_all (a b : ByteArray) (I : Im) (ha : a.size ≤ 10000000) (hb : b.size ≤ 10000000) : FC Tryd.prog 42 [.string a, .string b] I (fun u I' => u = .string (node a b) ∧ I' = I) := by
  have h1 : (⟨#[1]⟩ : ByteArray).size = 1 := rfl
  have h2 : ((⟨#[1]⟩ : ByteArray) ++ a).size = 1 + a.size := ByteArray.size_append
  have h3 : ((⟨#[1]⟩ : ByteArray) ++ a ++ b).size = ((⟨#[1]⟩ : ByteArray) ++ a).size + b.size := ByteArray.size_append
  refine FSo.intro (n := 10) Tryd.func42 rfl rfl rfl (fun K Lf => ?_)
  refine XC.seq ?_
  refine XC.region ?_
  refine XO.rd rfl rfl rfl (Reads.assign rfl) ?_
  refine XO.nil ?_
  refine XQ.then_normal ?_
  refine XC.seq ?_
  refine XC.region ?_
  refine XO.rd rfl rfl rfl (Reads.move rfl) ?_
  refine XO.rd rfl rfl rfl (Reads.sadd rfl rfl (by omega)) ?_
  refine XO.rd rfl rfl rfl (Reads.move rfl) ?_
  refine XO.rd rfl rfl rfl (Reads.sadd rfl rfl (by omega)) ?_
  refine XO.callp rfl rfl en44 (FC.pure (rsum_all _ _ (by omega))) ⟨rfl, trivial⟩ ?_
  refine XO.rd rfl rfl rfl (Reads.assign rfl) ?_
  refine XO.nil ?_
  refine XQ.then_normal ?_
  refine XC.ret ?_
  refine XQ.done1 rfl rfl (Im.le_refl _) ?_
  exact ⟨rfl, rfl, rfl⟩

theorem rcoll_any (aa ab : Option Addr) (ca cb : Nat) (a b : List ByteArray) (I : Im) (hA : Arr I aa a) (hB : Arr I ab b) (hla : a.length ≤ 100000) (hlb : b.length ≤ 100000) (hsa : ∀ x ∈ a, x.size ≤ 10000000) (hsb : ∀ x ∈ b, x.size ≤ 10000000) : FC Tryd.prog 38 [.slice aa a.length ca, .slice ab b.length cb] I (fun u I' => u = .bool (collF a b) ∧ I' = I) := by
  refine FSo.intro (n := 58) Tryd.func38 rfl rfl rfl (fun K Lf => ?_)
  refine XC.seq ?_
  refine XC.region ?_
  refine XO.rd rfl rfl rfl (Reads.assign rfl) ?_
  refine XO.nil ?_
  refine XQ.then_normal ?_
  refine XC.seq ?_
  refine XC.region ?_
  refine XO.rd rfl rfl rfl (Reads.assign rfl) ?_
  refine XO.nil ?_
  refine XQ.then_normal ?_
  refine XC.seq ?_
  refine XC.seq ?_
  refine XC.region ?_
  refine XO.rd rfl rfl rfl (Reads.assign rfl) ?_
  refine XO.nil ?_
  refine XQ.then_normal ?_
  refine XC.block ?_
  refine XC.vec0 9 ?_
  refine XC.loop (ι := Nat × Vec) (fun q => [(0, .slice aa a.length ca), (1, .slice ab b.length cb), (5, q.2.val), (6, .int .i64 q.1)]) (fun q => I) (fun q => q.2.ent 9 :: ([] ++ Lf)) (fun q => q.1 ≤ b.length ∧ q.2.Is 1 (strC ((b.take q.1).map sha))) (fun q => b.length - q.1) (0, Vec.nil) ⟨Nat.zero_le _, Vec.nil_is 1⟩ ⟨rfl, rfl, rfl, rfl, trivial⟩ rfl (List.Perm.refl _) (fun q hq => ?_)
  obtain ⟨k, V⟩ := q
  obtain ⟨hk1, hV⟩ := hq
  simp only at hk1 hV ⊢
  have hVl : V.len = k := by have := hV.len; simp [strC] at this; omega
  refine XC.seq ?_
  refine XC.seq ?_
  refine XC.region ?_
  refine XO.rd rfl rfl rfl (Reads.move rfl) ?_
  refine XO.rd rfl rfl rfl (Reads.move rfl) ?_
  refine XO.rd rfl rfl rfl (Reads.len_slice Tryd.underlying44 rfl) ?_
  refine XO.rd rfl rfl rfl (Reads.cmp rfl rfl rfl) ?_
  refine XO.nil ?_
  refine XQ.then_normal ?_
  refine XC.cond rfl (fun h1 => ?_) (fun h1 => ?_)
  · skip
    simp only [cmpInt, decide_eq_true_eq] at h1
    have hk3 : k < b.length := by omega
    refine XC.skip ?_
    refine XQ.then_normal ?_
    refine XC.seq ?_
    refine XC.block ?_
    refine XC.region ?_
    refine XO.rd rfl rfl rfl (Reads.move rfl) ?_
    refine XO.rd rfl rfl rfl (Reads.move rfl) ?_
    refine XO.rd rfl rfl rfl (Reads.move rfl) ?_
    refine XO.rd rfl rfl rfl (Reads.index_slot (q := k) Tryd.underlying44 z9 rfl rfl (by omega) (hB.isSome (by decide) (by omega)) (by omega)) ?_
    refine XO.rd rfl rfl rfl (Reads.load_at k9 rfl (hB.str_at (j := k) (by omega) rfl)) ?_
    refine XO.callp rfl rfl en44 (FC.pure (rsum_all (b.getD k ⟨#[]⟩) _ (by have := hsb _ (getD_mem (d := ⟨#[]⟩) hk3); omega))) ⟨rfl, trivial⟩ ?_
    refine XO.buildL [.string (sha (b.getD k ⟨#[]⟩))] [.string (sha (b.getD k ⟨#[]⟩))] rfl rfl Tryd.underlying44 el9 rfl (by simp) ⟨rfl, rfl, trivial⟩ rfl rfl (fun bu => ?_)
    refine XO.append (V := V) (news := strC [sha (b.getD k ⟨#[]⟩)]) 1 rfl rfl Tryd.underlying44 el9 rfl rfl hV rfl (.slice Tryd.underlying44 (readable_row 0 rfl rfl) rfl (strC_one _)) (by omega) (by omega) ?_
    intro V' hV' _
    refine XO.rd rfl rfl rfl (Reads.assign rfl) ?_
    refine XO.nil ?_
    refine XQ.block_normal ?_
    refine XQ.then_normal ?_
    refine XC.region ?_
    refine XO.rd rfl rfl rfl (Reads.move rfl) ?_
    refine XO.rd rfl rfl rfl (Reads.add rfl rfl (by omega)) ?_
    refine XO.rd rfl rfl rfl (Reads.assign rfl) ?_
    refine XO.nil ?_
    refine XQ.dropn 1 ?_
    refine XQ.back (k + 1, V') ⟨by simp only; omega, by rw [List.take_succ_eq_append_getElem hk3, List.map_append, strC_append, show b[k] = b.getD k ⟨#[]⟩ by simp [hk3]]; exact hV'⟩ (by simp only; omega) ⟨rfl, rfl, rfl, rfl, trivial⟩ rfl (List.Perm.refl _)
  · skip
    simp only [cmpInt, decide_eq_false_iff_not] at h1
    have hV : V.Is 1 (strC (b.map sha)) := by rw [List.take_of_length_le (by omega)] at hV; exact hV
    have hVl : V.len = b.length := by have := hV.len; simp [strC] at this; omega
    refine XC.exit ?_
    refine XQ.then_exit ?_
    refine XQ.then_exit ?_
    refine XQ.block_exit ?_
    refine XQ.then_normal ?_
    refine XC.seq ?_
    refine XC.seq ?_
    refine XC.region ?_
    refine XO.rd rfl rfl rfl (Reads.assign rfl) ?_
    refine XO.nil ?_
    refine XQ.then_normal ?_
    refine XC.block ?_
    refine XC.loop (ι := Nat) (fun q => [(0, .slice aa a.length ca), (1, .slice ab b.length cb), (5, V.val), (7, .int .i64 q)]) (fun q => I) (fun q => V.ent 9 :: ([] ++ Lf)) (fun q => q ≤ a.length ∧ ∀ i', i' < q → ∀ j, j < b.length → coll1 a b i' j = false) (fun q => a.length - q) 0 ⟨Nat.zero_le _, fun _ h => absurd h (Nat.not_lt_zero _)⟩ ⟨rfl, rfl, rfl, rfl, trivial⟩ rfl (List.Perm.refl _) (fun i hi => ?_)
    obtain ⟨hi1, hno⟩ := hi
    refine XC.seq ?_
    refine XC.seq ?_
    refine XC.region ?_
    refine XO.rd rfl rfl rfl (Reads.move rfl) ?_
    refine XO.rd rfl rfl rfl (Reads.move rfl) ?_
    refine XO.rd rfl rfl rfl (Reads.len_slice Tryd.underlying44 rfl) ?_
    refine XO.rd rfl rfl rfl (Reads.cmp rfl rfl rfl) ?_
    refine XO.nil ?_
    refine XQ.then_normal ?_
    refine XC.cond rfl (fun h2 => ?_) (fun h2 => ?_)
    · skip
      simp only [cmpInt, decide_eq_true_eq] at h2
      have hi3 : i < a.length := by omega
      refine XC.skip ?_
      refine XQ.then_normal ?_
      refine XC.seq ?_
      refine XC.block ?_
      refine XC.seq ?_
      refine XC.region ?_
      refine XO.rd rfl rfl rfl (Reads.move rfl) ?_
      refine XO.rd rfl rfl rfl (Reads.move rfl) ?_
      refine XO.rd rfl rfl rfl (Reads.index_slot (q := i) Tryd.underlying44 z9 rfl rfl (by omega) (hA.isSome (by decide) (by omega)) (by omega)) ?_
      refine XO.rd rfl rfl rfl (Reads.load_at k9 rfl (hA.str_at (j := i) (by omega) rfl)) ?_
      refine XO.callp rfl rfl en44 (FC.pure (rsum_all (a.getD i ⟨#[]⟩) _ (by have := hsa _ (getD_mem (d := ⟨#[]⟩) hi3); omega))) ⟨rfl, trivial⟩ ?_
      refine XO.rd rfl rfl rfl (Reads.assign rfl) ?_
      refine XO.nil ?_
      refine XQ.then_normal ?_
      refine XC.seq ?_
      refine XC.region ?_
      refine XO.rd rfl rfl rfl (Reads.assign rfl) ?_
      refine XO.nil ?_
      refine XQ.then_normal ?_
      refine XC.block ?_
      refine XC.loop (ι := Nat) (fun q => [(0, .slice aa a.length ca), (1, .slice ab b.length cb), (5, V.val), (7, .int .i64 i), (8, .string (sha (a.getD i ⟨#[]⟩))), (9, .int .i64 q)]) (fun q => I) (fun q => V.ent 9 :: ([] ++ Lf)) (fun q => q ≤ b.length ∧ ∀ j, j < q → coll1 a b i j = false) (fun q => b.length - q) 0 ⟨Nat.zero_le _, fun _ h => absurd h (Nat.not_lt_zero _)⟩ ⟨rfl, rfl, rfl, rfl, rfl, rfl, trivial⟩ rfl (List.Perm.refl _) (fun j hj => ?_)
      obtain ⟨hj1, hno1⟩ := hj
      refine XC.seq ?_
      refine XC.seq ?_
      refine XC.region ?_
      refine XO.rd rfl rfl rfl (Reads.move rfl) ?_
      refine XO.rd rfl rfl rfl (Reads.move rfl) ?_
      refine XO.rd rfl rfl rfl (Reads.len_slice Tryd.underlying44 rfl) ?_
      refine XO.rd rfl rfl rfl (Reads.cmp rfl rfl rfl) ?_
      refine XO.nil ?_
      refine XQ.then_normal ?_
      refine XC.cond rfl (fun h3 => ?_) (fun h3 => ?_)
      · skip
        simp only [cmpInt, decide_eq_true_eq] at h3
        have hj3 : j < b.length := by omega
        refine XC.skip ?_
        refine XQ.then_normal ?_
        refine XC.seq ?_
        refine XC.block ?_
        refine XC.seq ?_
        refine XC.draw m_mixed none (.pure 0 (.pure 1 (.pure 2 (.pure 3 (.pure 4 (.pure 5 (.pure 6 (.pure 7 (.pure 8 (.pure 9 (.pure 10 (.pure 11 (.pure 12 (.pure 13 (.pure 14 (.pure 15 (.pure 16 (.done)))))))))))))))))) _ (by kernel_rfl) (List.Sublist.refl _) ?_
        refine XR.rd rfl rfl rfl (Reads.move rfl) ?_
        refine XR.rd rfl rfl rfl (Reads.move rfl) ?_
        refine XR.rd rfl rfl rfl (Reads.index_slot (q := i) Tryd.underlying44 z9 rfl rfl (by omega) (hA.isSome (by decide) (by omega)) (by omega)) ?_
        refine XR.rd rfl rfl rfl (Reads.load_at k9 rfl (hA.str_at (j := i) (by omega) rfl)) ?_
        refine XR.rd rfl rfl rfl (Reads.move rfl) ?_
        refine XR.rd rfl rfl rfl (Reads.move rfl) ?_
        refine XR.rd rfl rfl rfl (Reads.index_slot (q := j) Tryd.underlying44 z9 rfl rfl (by omega) (hB.isSome (by decide) (by omega)) (by omega)) ?_
        refine XR.rd rfl rfl rfl (Reads.load_at k9 rfl (hB.str_at (j := j) (by omega) rfl)) ?_
        refine XR.rd rfl rfl rfl (Reads.sne rfl rfl) ?_
        refine XR.rd rfl rfl rfl (Reads.move rfl) ?_
        refine XR.split (d := 50) rfl (fun h4 => ?_) (fun h4 => ?_)
        · skip
          simp only [Bool.not_eq_true', decide_eq_false_iff_not] at h4
          refine XR.rd rfl (wg rfl rfl rfl) rfl (Reads.move rfl) ?_
          refine XR.rd rfl (wg rfl rfl rfl) rfl (Reads.move rfl) ?_
          refine XR.rd rfl (wg rfl rfl rfl) rfl (Reads.move rfl) ?_
          refine XR.rd rfl (wg rfl rfl rfl) rfl (Reads.index_slot (q := j) Tryd.underlying44 z9 rfl rfl (by omega) (vec_isSomes (k := j) hV (strC_get (i := j) (by simp; omega))) (by omega)) ?_
          refine XR.rd rfl (wg rfl rfl rfl) rfl (Reads.load_vecs (v := .string ((b.map sha).getD j ⟨#[]⟩)) k9 rfl hV (e := 9) (List.mem_of_getElem? (i := 0) rfl) (strC_get (by simp; omega))) ?_
          rw [show (b.map sha).getD j ⟨#[]⟩ = sha (b.getD j ⟨#[]⟩) by rw [List.getD_eq_getElem?_getD, List.getElem?_map, List.getD_eq_getElem?_getD, List.getElem?_eq_getElem (by omega : j < b.length)]; rfl]
          refine XR.rd rfl (wg rfl rfl rfl) rfl (Reads.seq rfl rfl) ?_
          refine XR.rd rfl rfl rfl (Reads.pick_true rfl rfl) ?_
          refine XR.nil ?_
          refine XQ.then_normal ?_
          refine XC.cond rfl (fun h5 => ?_) (fun h5 => ?_)
          · skip
            simp only [decide_eq_true_eq] at h5
            have hyes : coll1 a b i j = true := by
              simp only [coll1, Bool.and_eq_true, Bool.not_eq_true', decide_eq_false_iff_not, decide_eq_true_eq]; exact ⟨by assumption, by assumption⟩
            refine XC.seq ?_
            refine XC.region ?_
            refine XO.rd rfl rfl rfl (Reads.assign rfl) ?_
            refine XO.nil ?_
            refine XQ.then_normal ?_
            refine XC.ret ?_
            refine XQ.block_ret ?_
            refine XQ.then_ret ?_
            refine XQ.then_ret ?_
            refine XQ.block_ret ?_
            refine XQ.block_ret ?_
            refine XQ.then_ret ?_
            refine XQ.then_ret ?_
            refine XQ.block_ret ?_
            refine XQ.then_ret ?_
            refine XQ.dropn 1 ?_
            refine XQ.done1 (L := []) rfl rfl (Im.le_refl _) ?_
            exact ⟨rfl, by rw [collF_yes hi3 hj3 hyes], rfl⟩
          · skip
            first | simp only [decide_eq_false_iff_not] at h5 | skip
            have hn1 : coll1 a b i j = false := by
              simp only [coll1, Bool.and_eq_false_iff, Bool.not_eq_false', decide_eq_true_eq, decide_eq_false_iff_not]; first | exact .inl (by assumption) | exact .inr (by assumption)
            refine XC.skip ?_
            refine XQ.block_normal ?_
            refine XQ.then_normal ?_
            refine XC.region ?_
            refine XO.rd rfl rfl rfl (Reads.move rfl) ?_
            refine XO.rd rfl rfl rfl (Reads.add rfl rfl (by omega)) ?_
            refine XO.rd rfl rfl rfl (Reads.assign rfl) ?_
            refine XO.nil ?_
            refine XQ.back (j + 1) ⟨by omega, fun j' hj' => by rcases Nat.lt_succ_iff_lt_or_eq.1 hj' with h | rfl; exact hno1 j' h; exact hn1⟩ (by omega) ⟨rfl, rfl, rfl, rfl, rfl, rfl, trivial⟩ rfl (List.Perm.refl _)
        · skip
          simp only [Bool.not_eq_false', decide_eq_true_eq] at h4
          have hn1 : coll1 a b i j = false := by
            simp only [coll1, Bool.and_eq_false_iff, Bool.not_eq_false', decide_eq_true_eq, decide_eq_false_iff_not]; exact .inl (by assumption)
          refine XR.s rfl (wg rfl rfl rfl) rfl ?_
          refine XR.s rfl (wg rfl rfl rfl) rfl ?_
          refine XR.s rfl (wg rfl rfl rfl) rfl ?_
          refine XR.s rfl (wg rfl rfl rfl) rfl ?_
          refine XR.s rfl (wg rfl rfl rfl) rfl ?_
          refine XR.s rfl (wg rfl rfl rfl) rfl ?_
          refine XR.rd rfl rfl rfl (Reads.pick_false rfl rfl) ?_
          refine XR.nil ?_
          refine XQ.then_normal ?_
          refine XC.cond rfl (fun hx => by cases hx) (fun _ => ?_)
          refine XC.skip ?_
          refine XQ.block_normal ?_
          refine XQ.then_normal ?_
          refine XC.region ?_
          refine XO.rd rfl rfl rfl (Reads.move rfl) ?_
          refine XO.rd rfl rfl rfl (Reads.add rfl rfl (by omega)) ?_
          refine XO.rd rfl rfl rfl (Reads.assign rfl) ?_
          refine XO.nil ?_
          refine XQ.back (j + 1) ⟨by omega, fun j' hj' => by rcases Nat.lt_succ_iff_lt_or_eq.1 hj' with h | rfl; exact hno1 j' h; exact hn1⟩ (by omega) ⟨rfl, rfl, rfl, rfl, rfl, rfl, trivial⟩ rfl (List.Perm.refl _)
      · skip
        simp only [cmpInt, decide_eq_false_iff_not] at h3
        have hno2 : ∀ i', i' < i + 1 → ∀ j, j < b.length → coll1 a b i' j = false := fun i' hi' j hj => by rcases Nat.lt_succ_iff_lt_or_eq.1 hi' with h | rfl; exact hno i' h j hj; exact hno1 j (by omega)
        refine XC.exit ?_
        refine XQ.then_exit ?_
        refine XQ.then_exit ?_
        refine XQ.block_exit ?_
        refine XQ.block_normal ?_
        refine XQ.then_normal ?_
        refine XC.region ?_
        refine XO.rd rfl rfl rfl (Reads.move rfl) ?_
        refine XO.rd rfl rfl rfl (Reads.add rfl rfl (by omega)) ?_
        refine XO.rd rfl rfl rfl (Reads.assign rfl) ?_
        refine XO.nil ?_
        refine XQ.back (i + 1) ⟨by omega, hno2⟩ (by omega) ⟨rfl, rfl, rfl, rfl, trivial⟩ rfl (List.Perm.refl _)
    · skip
      simp only [cmpInt, decide_eq_false_iff_not] at h2
      refine XC.exit ?_
      refine XQ.then_exit ?_
      refine XQ.then_exit ?_
      refine XQ.block_exit ?_
      refine XQ.then_normal ?_
      refine XC.seq ?_
      refine XC.region ?_
      refine XO.rd rfl rfl rfl (Reads.assign rfl) ?_
      refine XO.nil ?_
      refine XQ.then_normal ?_
      refine XC.ret ?_
      refine XQ.dropn 1 ?_
      refine XQ.done1 (L := []) rfl rfl (Im.le_refl _) ?_
      exact ⟨rfl, by rw [collF_no (fun i' hi' j hj => hno i' (by omega) j hj)], rfl⟩

end Go.Proofs.YtkjhhifhgcihpaaDoor
