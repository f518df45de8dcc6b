/- Walks: the reference's encodings, and the small parts of its digest. -/
import Derived.Test.YtkjhhifhgcihpaaDoorC1
import Derived.Test.YtkjhhifhgcihpaaDoorXh
namespace Go.Proofs.YtkjhhifhgcihpaaDoor
open Go.Xe Go.Sh Go

theorem rzigzag_any (n : Int) (I : Im) (hn : -4611686018427387903 ≤ n ∧ n ≤ 4611686018427387903) : FC Tryd.prog 68 [.int .i64 n] I (fun u I' => u = .int .u64 ((zz n : Nat) : Int) ∧ I' = I) := by
  refine FSo.intro (n := 13) Tryd.func68 rfl rfl rfl (fun K Lf => ?_)
  refine XC.seq ?_
  refine XC.region ?_
  refine XO.rd rfl rfl rfl (Reads.assign rfl) ?_
  refine XO.nil ?_
  refine XQ.then_normal ?_
  refine XC.seq ?_
  refine XC.seq ?_
  refine XC.region ?_
  refine XO.rd rfl rfl rfl (Reads.move rfl) ?_
  refine XO.rd rfl rfl rfl (Reads.cmp rfl rfl rfl) ?_
  refine XO.nil ?_
  refine XQ.then_normal ?_
  refine XC.cond rfl (fun h1 => ?_) (fun h1 => ?_)
  · skip
    simp only [cmpInt, decide_eq_true_eq] at h1
    refine XC.seq ?_
    refine XC.region ?_
    refine XO.rd rfl rfl rfl (Reads.move rfl) ?_
    refine XO.rd rfl rfl rfl (Reads.neg rfl (by omega)) ?_
    refine XO.rd rfl rfl rfl (Reads.conv Tryd.underlying3 rfl Tryd.underlying97 rfl) ?_
    rw [show IntKind.u64.wrap (-n) = ((-n).toNat : Int) by rw [IntKind.wrap_u64]; omega]
    refine XO.rd rfl rfl rfl (Reads.umul (n := 2) rfl rfl rfl) ?_
    refine XO.rd rfl rfl rfl (Reads.usub (n := 1) rfl rfl rfl (by omega) (Nat.mod_lt _ (by decide))) ?_
    refine XO.rd rfl rfl rfl (Reads.assign rfl) ?_
    refine XO.nil ?_
    refine XQ.then_normal ?_
    refine XC.ret ?_
    refine XQ.then_ret ?_
    refine XQ.done1 rfl rfl (Im.le_refl _) ?_
    refine ⟨rfl, ?_, rfl⟩
    rw [show zz n = (-n).toNat * 2 % 18446744073709551616 - 1 by unfold zz; rw [if_pos (by assumption)]; omega]
  · skip
    simp only [cmpInt, decide_eq_false_iff_not] at h1
    refine XC.skip ?_
    refine XQ.then_normal ?_
    refine XC.seq ?_
    refine XC.region ?_
    refine XO.rd rfl rfl rfl (Reads.move rfl) ?_
    refine XO.rd rfl rfl rfl (Reads.conv Tryd.underlying3 rfl Tryd.underlying97 rfl) ?_
    rw [show IntKind.u64.wrap n = (n.toNat : Int) by rw [IntKind.wrap_u64]; omega]
    refine XO.rd rfl rfl rfl (Reads.umul (n := 2) rfl rfl rfl) ?_
    refine XO.rd rfl rfl rfl (Reads.assign rfl) ?_
    refine XO.nil ?_
    refine XQ.then_normal ?_
    refine XC.ret ?_
    refine XQ.done1 rfl rfl (Im.le_refl _) ?_
    refine ⟨rfl, ?_, rfl⟩
    rw [show zz n = n.toNat * 2 % 18446744073709551616 by unfold zz; rw [if_neg (by assumption)]; omega]

theorem rputInt_any (n : Int) (I : Im) : FC Tryd.prog 62 [.int .i64 n] I (fun u I' => u = .tuple #[.string (putX n), .int .i64 (if okI n then 0 else 10)] ∧ I' = I) := by
  refine FSo.intro (n := 31) Tryd.func62 rfl rfl rfl (fun K Lf => ?_)
  refine XC.seq ?_
  refine XC.region ?_
  refine XO.rd rfl rfl rfl (Reads.assign rfl) ?_
  refine XO.rd rfl rfl rfl (Reads.assign rfl) ?_
  refine XO.nil ?_
  refine XQ.then_normal ?_
  refine XC.seq ?_
  refine XC.seq ?_
  refine XC.region ?_
  refine XO.rd rfl rfl rfl (Reads.move rfl) ?_
  refine XO.rd rfl rfl rfl (Reads.cmp rfl rfl rfl) ?_
  refine XO.rd rfl rfl rfl (Reads.move rfl) ?_
  refine XO.split (d := 8) rfl (fun h1 => ?_) (fun h1 => ?_)
  · skip
    simp only [cmpInt, decide_eq_true_eq] at h1
    have hok : okI n = false := by rw [Bool.eq_false_iff]; intro hh; rw [okI_iff] at hh; omega
    refine XO.s (wg rfl rfl rfl) rfl ?_
    refine XO.s (wg rfl rfl rfl) rfl ?_
    refine XO.rd rfl rfl rfl (Reads.pick_true rfl rfl) ?_
    refine XO.nil ?_
    refine XQ.then_normal ?_
    refine XC.cond rfl (fun _ => ?_) (fun hx => by cases hx)
    refine XC.seq ?_
    refine XC.region ?_
    refine XO.rd rfl rfl rfl (Reads.assign rfl) ?_
    refine XO.rd rfl rfl rfl (Reads.assign rfl) ?_
    refine XO.nil ?_
    refine XQ.then_normal ?_
    refine XC.ret ?_
    refine XQ.then_ret ?_
    refine XQ.done2 rfl rfl rfl (Im.le_refl _) ?_
    exact ⟨rfl, by simp only [putX, hok]; rfl, rfl⟩
  · skip
    simp only [cmpInt, decide_eq_false_iff_not] at h1
    refine XO.rd (wg rfl rfl rfl) rfl rfl (Reads.move rfl) ?_
    refine XO.rd (wg rfl rfl rfl) rfl rfl (Reads.cmp rfl rfl rfl) ?_
    refine XO.rd rfl rfl rfl (Reads.pick_false rfl rfl) ?_
    refine XO.nil ?_
    refine XQ.then_normal ?_
    refine XC.cond rfl (fun h2 => ?_) (fun h2 => ?_)
    · skip
      simp only [cmpInt, decide_eq_true_eq] at h2
      have hok : okI n = false := by rw [Bool.eq_false_iff]; intro hh; rw [okI_iff] at hh; omega
      refine XC.seq ?_
      refine XC.region ?_
      refine XO.rd rfl rfl rfl (Reads.assign rfl) ?_
      refine XO.rd rfl rfl rfl (Reads.assign rfl) ?_
      refine XO.nil ?_
      refine XQ.then_normal ?_
      refine XC.ret ?_
      refine XQ.then_ret ?_
      refine XQ.done2 rfl rfl rfl (Im.le_refl _) ?_
      exact ⟨rfl, by simp only [putX, hok]; rfl, rfl⟩
    · skip
      simp only [cmpInt, decide_eq_false_iff_not] at h2
      have hok : okI n = true := by rw [okI_iff]; omega
      have hzl := zz_lt hok
      refine XC.skip ?_
      refine XQ.then_normal ?_
      refine XC.seq ?_
      refine XC.region ?_
      refine XO.rd rfl rfl rfl (Reads.move rfl) ?_
      refine XO.callp rfl rfl en68 (rzigzag_any n _ (by omega)) ⟨rfl, trivial⟩ ?_
      refine XO.rd rfl rfl rfl (Reads.assign rfl) ?_
      rw [show ((zz n : Nat) : Int) = ((zz n / 128 ^ 0 : Nat) : Int) by simp]
      refine XO.nil ?_
      refine XQ.then_normal ?_
      refine XC.seq ?_
      refine XC.region ?_
      refine XO.rd rfl rfl rfl (Reads.assign rfl) ?_
      refine XO.nil ?_
      refine XQ.then_normal ?_
      refine XC.seq ?_
      refine XC.block ?_
      refine XC.vec0 5 ?_
      refine XC.loop (ι := Nat × Vec) (fun q => [(4, .int .u64 ((zz n / 128 ^ q.1 : Nat) : Int)), (5, q.2.val)]) (fun q => I) (fun q => q.2.ent 5 :: ([] ++ Lf)) (fun q => (∀ j, j < q.1 → 128 ≤ zz n / 128 ^ j) ∧ q.2.Is 1 (byteC ((List.range (q.1)).map (gby (zz n))))) (fun q => zz n / 128 ^ q.1) (0, Vec.nil) ⟨fun _ h => absurd h (Nat.not_lt_zero _), Vec.nil_is 1⟩ ⟨rfl, rfl, trivial⟩ rfl (List.Perm.refl _) (fun q hq => ?_)
      obtain ⟨i, V⟩ := q
      obtain ⟨hlow, hV⟩ := hq
      simp only at hlow hV ⊢
      have hzi : zz n / 128 ^ i < 18446744073709551616 := Nat.lt_of_le_of_lt (Nat.div_le_self _ _) (by omega)
      have hi10 := few_groups (show zz n < 18446744073709551616 by omega) hlow
      have hVl : V.len = i := by have := hV.len; rw [byteC_len] at this; simp at this; omega
      refine XC.seq ?_
      refine XC.seq ?_
      refine XC.region ?_
      refine XO.rd rfl rfl rfl (Reads.move rfl) ?_
      refine XO.rd rfl rfl rfl (Reads.cmp rfl rfl rfl) ?_
      refine XO.nil ?_
      refine XQ.then_normal ?_
      refine XC.cond rfl (fun h3 => ?_) (fun h3 => ?_)
      · skip
        simp only [cmpInt, decide_eq_true_eq] at h3
        have hge : 128 ≤ zz n / 128 ^ i := by omega
        refine XC.skip ?_
        refine XQ.then_normal ?_
        refine XC.block ?_
        refine XC.seq ?_
        refine XC.region ?_
        refine XO.rd rfl rfl rfl (Reads.move rfl) ?_
        refine XO.rd rfl rfl rfl (Reads.move rfl) ?_
        refine XO.rd rfl rfl rfl (Reads.urem (n := 128) rfl rfl rfl (by decide) hzi) ?_
        refine XO.rd rfl rfl rfl (Reads.uadd (n := 128) rfl rfl rfl) ?_
        rw [Nat.mod_eq_of_lt (show zz n / 128 ^ i % 128 + 128 < 18446744073709551616 by omega)]
        refine XO.rd rfl rfl rfl (Reads.convu Tryd.underlying97 rfl Tryd.underlying5 rfl rfl) ?_
        rw [gby_more hge]
        refine XO.buildL [.int .u8 (((gby (zz n) i).toNat : Nat) : Int)] [.int .u8 (((gby (zz n) i).toNat : Nat) : Int)] rfl rfl Tryd.underlying70 el5 rfl (by simp) ⟨rfl, rfl, trivial⟩ rfl rfl (fun bu => ?_)
        refine XO.append (V := V) (news := byteC [(gby (zz n) i)]) 1 rfl rfl Tryd.underlying70 el5 rfl rfl hV rfl (.slice Tryd.underlying70 (readable_row 0 rfl rfl) rfl (byteC_one _)) (by omega) (by omega) ?_
        intro V' hV' hVl'
        refine XO.rd rfl rfl rfl (Reads.assign rfl) ?_
        refine XO.nil ?_
        refine XQ.then_normal ?_
        refine XC.region ?_
        refine XO.rd rfl rfl rfl (Reads.move rfl) ?_
        refine XO.rd rfl rfl rfl (Reads.uquo (n := 128) rfl rfl rfl (by decide) hzi) ?_
        rw [← div_pow_succ]
        refine XO.rd rfl rfl rfl (Reads.assign rfl) ?_
        refine XO.nil ?_
        refine XQ.block_normal ?_
        refine XQ.dropn 1 ?_
        refine XQ.back (i + 1, V') ⟨fun j hj => by rcases Nat.lt_succ_iff_lt_or_eq.1 hj with h | rfl; exact hlow j h; exact hge, by rw [List.range_succ, List.map_append, byteC_append]; exact hV'⟩ (by simp only [div_pow_succ]; omega) ⟨rfl, rfl, trivial⟩ rfl (List.Perm.refl _)
      · skip
        simp only [cmpInt, decide_eq_false_iff_not] at h3
        have hlt : zz n / 128 ^ i < 128 := by omega
        refine XC.exit ?_
        refine XQ.then_exit ?_
        refine XQ.then_exit ?_
        refine XQ.block_exit ?_
        refine XQ.then_normal ?_
        refine XC.seq ?_
        refine XC.region ?_
        refine XO.rd rfl rfl rfl (Reads.move rfl) ?_
        refine XO.rd rfl rfl rfl (Reads.move rfl) ?_
        refine XO.rd rfl rfl rfl (Reads.convu Tryd.underlying97 rfl Tryd.underlying5 rfl rfl) ?_
        rw [gby_last hlt]
        refine XO.buildL [.int .u8 (((gby (zz n) i).toNat : Nat) : Int)] [.int .u8 (((gby (zz n) i).toNat : Nat) : Int)] rfl rfl Tryd.underlying70 el5 rfl (by simp) ⟨rfl, rfl, trivial⟩ rfl rfl (fun bu => ?_)
        refine XO.append (V := V) (news := byteC [(gby (zz n) i)]) 1 rfl rfl Tryd.underlying70 el5 rfl rfl hV rfl (.slice Tryd.underlying70 (readable_row 0 rfl rfl) rfl (byteC_one _)) (by omega) (by omega) ?_
        intro V' hV' hVl'
        have hV2 : V'.Is 1 (byteC ((List.range (i + 1)).map (gby (zz n)))) := by rw [List.range_succ, List.map_append, byteC_append]; exact hV'
        have hvb := vb_eq i 10 (zz n) hi10 hlow hlt
        refine XO.rd rfl rfl rfl (Reads.to_string (bs := ((List.range (i + 1)).map (gby (zz n)))) Tryd.underlying70 Tryd.underlying5 Tryd.underlying9 rfl (by have := hV2.len; rw [byteC_len] at this; omega) (hV2.readable (e := 5) (List.mem_of_getElem? (i := 1) rfl))) ?_
        refine XO.rd rfl rfl rfl (Reads.assign rfl) ?_
        refine XO.rd rfl rfl rfl (Reads.assign rfl) ?_
        refine XO.nil ?_
        refine XQ.then_normal ?_
        refine XC.ret ?_
        refine XQ.dropn 2 ?_
        refine XQ.done2 (L := []) rfl rfl rfl (Im.le_refl _) ?_
        exact ⟨rfl, by simp only [putX, hok, putI, hvb]; rfl, rfl⟩

theorem rputString_any (s : ByteArray) (I : Im) (hs : s.size ≤ 1000000000) : FC Tryd.prog 63 [.string s] I (fun u I' => u = .tuple #[.string (putS s), .int .i64 (if s.size ≤ 65536 then 0 else 10)] ∧ I' = I) := by
  refine FSo.intro (n := 18) Tryd.func63 rfl rfl rfl (fun K Lf => ?_)
  refine XC.seq ?_
  refine XC.region ?_
  refine XO.rd rfl rfl rfl (Reads.assign rfl) ?_
  refine XO.rd rfl rfl rfl (Reads.assign rfl) ?_
  refine XO.nil ?_
  refine XQ.then_normal ?_
  refine XC.seq ?_
  refine XC.seq ?_
  refine XC.region ?_
  refine XO.rd rfl rfl rfl (Reads.move rfl) ?_
  refine XO.rd rfl rfl rfl (Reads.len_string Tryd.underlying9 rfl) ?_
  refine XO.rd rfl rfl rfl (Reads.cmp rfl rfl rfl) ?_
  refine XO.nil ?_
  refine XQ.then_normal ?_
  refine XC.cond rfl (fun h1 => ?_) (fun h1 => ?_)
  · skip
    simp only [cmpInt, decide_eq_true_eq] at h1
    have hgt : ¬ s.size ≤ 65536 := by omega
    refine XC.seq ?_
    refine XC.region ?_
    refine XO.rd rfl rfl rfl (Reads.assign rfl) ?_
    refine XO.rd rfl rfl rfl (Reads.assign rfl) ?_
    refine XO.nil ?_
    refine XQ.then_normal ?_
    refine XC.ret ?_
    refine XQ.then_ret ?_
    refine XQ.done2 rfl rfl rfl (Im.le_refl _) ?_
    exact ⟨rfl, by simp only [putS, if_neg hgt], rfl⟩
  · skip
    simp only [cmpInt, decide_eq_false_iff_not] at h1
    have hle : s.size ≤ 65536 := by omega
    refine XC.skip ?_
    refine XQ.then_normal ?_
    refine XC.seq ?_
    refine XC.region ?_
    refine XO.rd rfl rfl rfl (Reads.move rfl) ?_
    refine XO.rd rfl rfl rfl (Reads.len_string Tryd.underlying9 rfl) ?_
    refine XO.callp rfl rfl en62 (rputInt_any _ _) ⟨rfl, trivial⟩ ?_
    refine XO.rd rfl rfl rfl (Reads.move rfl) ?_
    refine XO.rd rfl rfl rfl (Reads.extract rfl rfl) ?_
    refine XO.rd rfl rfl rfl (Reads.extract rfl rfl) ?_
    refine XO.rd rfl rfl rfl (Reads.assign rfl) ?_
    refine XO.rd rfl rfl rfl (Reads.assign rfl) ?_
    refine XO.nil ?_
    refine XQ.then_normal ?_
    refine XC.seq ?_
    refine XC.region ?_
    refine XO.rd rfl rfl rfl (Reads.move rfl) ?_
    refine XO.rd rfl rfl rfl (Reads.move rfl) ?_
    have hpx := putX_size (s.size : Int)
    refine XO.rd rfl rfl rfl (Reads.sadd rfl rfl (by omega)) ?_
    refine XO.rd rfl rfl rfl (Reads.assign rfl) ?_
    refine XO.rd rfl rfl rfl (Reads.assign rfl) ?_
    refine XO.nil ?_
    refine XQ.then_normal ?_
    refine XC.ret ?_
    refine XQ.done2 rfl rfl rfl (Im.le_refl _) ?_
    exact ⟨rfl, by simp only [putS, if_pos hle], rfl⟩

theorem rrot_any (x n : Nat) (I : Im) (hx : x < 4294967296) (hn : n ≤ 32) : FC Tryd.prog 64 [.int .u32 ((x : Nat) : Int), .int .i64 ((n : Nat) : Int)] I (fun u I' => u = .int .u32 ((rotr x n : Nat) : Int) ∧ I' = I) := by
  refine FSo.intro (n := 13) Tryd.func64 rfl rfl rfl (fun K Lf => ?_)
  refine XC.seq ?_
  refine XC.region ?_
  refine XO.rd rfl rfl rfl (Reads.assign rfl) ?_
  refine XO.nil ?_
  refine XQ.then_normal ?_
  refine XC.seq ?_
  refine XC.draw m_mixed none (.pure 0 (.pure 1 (.pure 2 (.pure 3 (.pure 4 (.pure 5 (.pure 6 (.pure 7 (.pure 8 (.done)))))))))) _ (by kernel_rfl) (List.Sublist.refl _) ?_
  refine XR.rd rfl rfl rfl (Reads.move rfl) ?_
  refine XR.rd rfl rfl rfl (Reads.move rfl) ?_
  refine XR.rd rfl rfl rfl (Reads.shrn rfl rfl (by show n ≤ 32; omega)) ?_
  refine XR.rd rfl rfl rfl (Reads.move rfl) ?_
  refine XR.rd rfl rfl rfl (Reads.move rfl) ?_
  refine XR.rd rfl rfl rfl (Reads.sub rfl rfl (by omega)) ?_
  rw [show (32 : Int) - (n : Int) = ((32 - n : Nat) : Int) by omega]
  refine XR.rd rfl rfl rfl (Reads.ushl rfl rfl rfl (by show 32 - n ≤ 32; omega)) ?_
  refine XR.rd rfl rfl rfl (Reads.uor rfl rfl rfl (by repeat' first | assumption | with_reducible exact Go.Sh.mod_lt' _ | with_reducible apply Go.Sh.mix_lt | with_reducible apply Go.Sh.rotr_lt | with_reducible apply Go.Sh.xor_lt | with_reducible apply Go.Sh.and_lt | with_reducible apply Go.Sh.or_lt | with_reducible apply Go.Sh.div_lt' | with_reducible exact Nat.lt_of_lt_of_le (UInt8.toNat_lt _) (by decide) | with_reducible exact Nat.lt_of_lt_of_le (Go.Sh.bg_lt _ _) (by decide) | decide | omega) (by repeat' first | assumption | with_reducible exact Go.Sh.mod_lt' _ | with_reducible apply Go.Sh.mix_lt | with_reducible apply Go.Sh.rotr_lt | with_reducible apply Go.Sh.xor_lt | with_reducible apply Go.Sh.and_lt | with_reducible apply Go.Sh.or_lt | with_reducible apply Go.Sh.div_lt' | with_reducible exact Nat.lt_of_lt_of_le (UInt8.toNat_lt _) (by decide) | with_reducible exact Nat.lt_of_lt_of_le (Go.Sh.bg_lt _ _) (by decide) | decide | omega)) ?_
  refine XR.rd rfl rfl rfl (Reads.assign rfl) ?_
  refine XR.nil ?_
  refine XQ.then_normal ?_
  refine XC.ret ?_
  refine XQ.done1 rfl rfl (Im.le_refl _) ?_
  exact ⟨rfl, by rw [rotr, Nat.or_comm], rfl⟩

theorem rcon_any (I : Im) : FSo Tryd.prog 65 [] I [] (fun u I' L' => ∃ b, u = .slice (some ⟨b, 0, none⟩) 64 64 ∧ I' = I ∧ L' = [some (b, .cells (wC KR).toArray 83 (0, 0))]) := by
  refine FSo.intro (n := 2) Tryd.func65 rfl rfl rfl (fun K Lf => ?_)
  refine XC.seq ?_
  refine XC.region ?_
  refine XO.rd rfl rfl rfl (Reads.assign rfl) ?_
  refine XO.nil ?_
  refine XQ.then_normal ?_
  refine XC.seq ?_
  refine XC.region ?_
  refine XO.buildL (wC KR) (wC KR) rfl rfl Tryd.underlying84 el83 rfl (by decide) ⟨rfl, rfl, rfl, rfl, rfl, rfl, rfl, rfl, rfl, rfl, rfl, rfl, rfl, rfl, rfl, rfl, rfl, rfl, rfl, rfl, rfl, rfl, rfl, rfl, rfl, rfl, rfl, rfl, rfl, rfl, rfl, rfl, rfl, rfl, rfl, rfl, rfl, rfl, rfl, rfl, rfl, rfl, rfl, rfl, rfl, rfl, rfl, rfl, rfl, rfl, rfl, rfl, rfl, rfl, rfl, rfl, rfl, rfl, rfl, rfl, rfl, rfl, rfl, rfl, rfl, rfl, rfl, rfl, rfl, rfl, rfl, rfl, rfl, rfl, rfl, rfl, rfl, rfl, rfl, rfl, rfl, rfl, rfl, rfl, rfl, rfl, rfl, rfl, rfl, rfl, rfl, rfl, rfl, rfl, rfl, rfl, rfl, rfl, rfl, rfl, rfl, rfl, rfl, rfl, rfl, rfl, rfl, rfl, rfl, rfl, rfl, rfl, rfl, rfl, rfl, rfl, rfl, rfl, rfl, rfl, rfl, rfl, rfl, rfl, rfl, rfl, rfl, rfl, trivial⟩ rfl rfl (fun b => ?_)
  refine XO.rd rfl rfl rfl (Reads.assign rfl) ?_
  refine XO.nil ?_
  refine XQ.then_normal ?_
  refine XC.ret ?_
  refine XQ.done1 (L := [some (b, .cells (wC KR).toArray 83 (0, 0))]) rfl rfl (Im.le_refl _) ?_
  exact ⟨b, rfl, rfl, rfl⟩

theorem rext_any (s : ByteArray) (I : Im) (hs : s.size ≤ 1000000000) : FSo Tryd.prog 53 [.string s] I [] (fun u I' L' => ∃ V : Vec, u = V.val ∧ I' = I ∧ L' = [V.ent 5] ∧ V.Is 1 (byteC (pad s.data.toList))) := by
  have hsz : s.size = s.data.toList.length := by simp
  have hzc : zc s.data.toList.length < 64 := Nat.mod_lt _ (by decide)
  refine FSo.intro (n := 43) Tryd.func53 rfl rfl rfl (fun K Lf => ?_)
  refine XC.seq ?_
  refine XC.region ?_
  refine XO.rd rfl rfl rfl (Reads.assign rfl) ?_
  refine XO.nil ?_
  refine XQ.then_normal ?_
  refine XC.seq ?_
  refine XC.region ?_
  refine XO.rd rfl rfl rfl (Reads.assign rfl) ?_
  refine XO.nil ?_
  refine XQ.then_normal ?_
  refine XC.seq ?_
  refine XC.seq ?_
  refine XC.region ?_
  refine XO.rd rfl rfl rfl (Reads.assign rfl) ?_
  refine XO.nil ?_
  refine XQ.then_normal ?_
  refine XC.block ?_
  refine XC.vec0 5 ?_
  refine XC.loop (ι := Nat × Vec) (fun q => [(0, .string s), (3, q.2.val), (4, .int .i64 q.1)]) (fun q => I) (fun q => q.2.ent 5 :: ([] ++ Lf)) (fun q => q.1 ≤ s.data.toList.length ∧ q.2.Is 1 (byteC ((s.data.toList.take (q.1))))) (fun q => s.data.toList.length - q.1) (0, Vec.nil) ⟨Nat.zero_le _, Vec.nil_is 1⟩ ⟨rfl, rfl, rfl, trivial⟩ rfl (List.Perm.refl _) (fun q hq => ?_)
  obtain ⟨i, V⟩ := q
  obtain ⟨hi1, hV⟩ := hq
  simp only at hi1 hV ⊢
  have hVl : V.len = i := by have := hV.len; rw [byteC_len] at this; simp only [List.length_append, List.length_replicate, List.length_singleton, lenB_len, List.length_take] at this; omega
  refine XC.seq ?_
  refine XC.seq ?_
  refine XC.region ?_
  refine XO.rd rfl rfl rfl (Reads.move rfl) ?_
  refine XO.rd rfl rfl rfl (Reads.move rfl) ?_
  refine XO.rd rfl rfl rfl (Reads.len_string Tryd.underlying9 rfl) ?_
  rw [hsz]
  refine XO.rd rfl rfl rfl (Reads.cmp rfl rfl rfl) ?_
  refine XO.nil ?_
  refine XQ.then_normal ?_
  refine XC.cond rfl (fun h1 => ?_) (fun h1 => ?_)
  · skip
    simp only [cmpInt, decide_eq_true_eq] at h1
    have hi3 : i < s.data.toList.length := by omega
    refine XC.skip ?_
    refine XQ.then_normal ?_
    refine XC.seq ?_
    refine XC.block ?_
    refine XC.region ?_
    refine XO.rd rfl rfl rfl (Reads.move rfl) ?_
    refine XO.rd rfl rfl rfl (Reads.move rfl) ?_
    refine XO.rd rfl rfl rfl (Reads.move rfl) ?_
    refine XO.rd rfl rfl rfl (Reads.sindex Tryd.underlying9 rfl rfl (by omega)) ?_
    refine XO.buildL [.int .u8 (((s.data.toList.getD i 0).toNat : Nat) : Int)] [.int .u8 (((s.data.toList.getD i 0).toNat : Nat) : Int)] rfl rfl Tryd.underlying70 el5 rfl (by simp) ⟨rfl, rfl, trivial⟩ rfl rfl (fun bu => ?_)
    refine XO.append (V := V) (news := byteC [(s.data.toList.getD i 0)]) 1 rfl rfl Tryd.underlying70 el5 rfl rfl hV rfl (.slice Tryd.underlying70 (readable_row 0 rfl rfl) rfl (byteC_one _)) (by omega) (by omega) ?_
    intro V' hV' hVl'
    refine XO.rd rfl rfl rfl (Reads.assign rfl) ?_
    refine XO.nil ?_
    refine XQ.block_normal ?_
    refine XQ.then_normal ?_
    refine XC.region ?_
    refine XO.rd rfl rfl rfl (Reads.move rfl) ?_
    refine XO.rd rfl rfl rfl (Reads.add rfl rfl (by omega)) ?_
    refine XO.rd rfl rfl rfl (Reads.assign rfl) ?_
    refine XO.nil ?_
    refine XQ.dropn 1 ?_
    refine XQ.back (i + 1, V') ⟨by simp only; omega, by rw [List.take_succ_eq_append_getElem hi3, byteC_append, show s.data.toList[i] = (s.data.toList.getD i 0) by rw [List.getD_eq_getElem?_getD, List.getElem?_eq_getElem hi3]; rfl]; exact hV'⟩ (by simp only; omega) ⟨rfl, rfl, rfl, trivial⟩ rfl (List.Perm.refl _)
  · skip
    simp only [cmpInt, decide_eq_false_iff_not] at h1
    rw [List.take_of_length_le (by omega)] at hV
    refine XC.exit ?_
    refine XQ.then_exit ?_
    refine XQ.then_exit ?_
    refine XQ.block_exit ?_
    refine XQ.then_normal ?_
    refine XC.seq ?_
    refine XC.region ?_
    refine XO.rd rfl rfl rfl (Reads.move rfl) ?_
    refine XO.buildL [.int .u8 128] [.int .u8 128] rfl rfl Tryd.underlying70 el5 rfl (by simp) ⟨rfl, rfl, trivial⟩ rfl rfl (fun bu => ?_)
    refine XO.append (V := V) (news := byteC [128]) 1 rfl rfl Tryd.underlying70 el5 rfl rfl hV rfl (.slice Tryd.underlying70 (readable_row 0 rfl rfl) rfl (byteC_one _)) (by omega) (by omega) ?_
    intro V' hV' hVl'
    refine XO.rd rfl rfl rfl (Reads.assign rfl) ?_
    refine XO.nil ?_
    refine XQ.then_normal ?_
    refine XC.seq ?_
    refine XC.block ?_
    refine XC.dropn 1 ?_
    refine XC.loop (ι := Nat × Vec) (fun q => [(0, .string s), (3, q.2.val)]) (fun q => I) (fun q => q.2.ent 5 :: ([] ++ Lf)) (fun q => q.1 ≤ zc s.data.toList.length ∧ q.2.Is 1 (byteC (s.data.toList ++ [128] ++ List.replicate q.1 0))) (fun q => zc s.data.toList.length - q.1) (0, V') ⟨Nat.zero_le _, by simp only [List.replicate_zero, List.append_nil]; rw [byteC_append]; exact hV'⟩ ⟨rfl, rfl, trivial⟩ rfl (List.Perm.refl _) (fun q hq => ?_)
    clear hV' hVl' V'
    clear hV hVl V
    obtain ⟨j, V⟩ := q
    obtain ⟨hj1, hV⟩ := hq
    simp only at hj1 hV ⊢
    have hVl : V.len = s.data.toList.length + 1 + j := by have := hV.len; rw [byteC_len] at this; simp only [List.length_append, List.length_replicate, List.length_singleton, lenB_len, List.length_take] at this; omega
    refine XC.seq ?_
    refine XC.seq ?_
    refine XC.region ?_
    refine XO.rd rfl rfl rfl (Reads.move rfl) ?_
    refine XO.rd rfl rfl rfl (Reads.len_slice Tryd.underlying70 rfl) ?_
    rw [hVl]
    refine XO.rd rfl rfl rfl (Reads.rem rfl rfl (by omega) (by omega)) ?_
    refine XO.rd rfl rfl rfl (Reads.cmp rfl rfl rfl) ?_
    refine XO.nil ?_
    refine XQ.then_normal ?_
    refine XC.cond rfl (fun h2 => ?_) (fun h2 => ?_)
    · skip
      simp only [cmpInt, bne_iff_ne, ne_eq] at h2
      have hj : j < zc s.data.toList.length := by unfold zc; unfold zc at hj1; omega
      refine XC.skip ?_
      refine XQ.then_normal ?_
      refine XC.block ?_
      refine XC.region ?_
      refine XO.rd rfl rfl rfl (Reads.move rfl) ?_
      refine XO.buildL [.int .u8 0] [.int .u8 0] rfl rfl Tryd.underlying70 el5 rfl (by simp) ⟨rfl, rfl, trivial⟩ rfl rfl (fun bu => ?_)
      refine XO.append (V := V) (news := byteC [0]) 1 rfl rfl Tryd.underlying70 el5 rfl rfl hV rfl (.slice Tryd.underlying70 (readable_row 0 rfl rfl) rfl (byteC_one _)) (by omega) (by omega) ?_
      intro V' hV' hVl'
      refine XO.rd rfl rfl rfl (Reads.assign rfl) ?_
      refine XO.nil ?_
      refine XQ.block_normal ?_
      refine XQ.dropn 1 ?_
      refine XQ.back (j + 1, V') ⟨by simp only; omega, by rw [List.replicate_succ', ← List.append_assoc, byteC_append]; exact hV'⟩ (by simp only; omega) ⟨rfl, rfl, trivial⟩ rfl (List.Perm.refl _)
    · skip
      simp only [cmpInt, bne_eq_false_iff_eq] at h2
      have hj : j = zc s.data.toList.length := by unfold zc; unfold zc at hj1; omega
      subst hj
      refine XC.exit ?_
      refine XQ.then_exit ?_
      refine XQ.then_exit ?_
      refine XQ.block_exit ?_
      refine XQ.then_normal ?_
      refine XC.seq ?_
      refine XC.seq ?_
      refine XC.region ?_
      refine XO.rd rfl rfl rfl (Reads.assign rfl) ?_
      refine XO.nil ?_
      refine XQ.then_normal ?_
      refine XC.block ?_
      refine XC.loop (ι := Nat × Vec) (fun q => [(0, .string s), (3, q.2.val), (5, .int .i64 (7 - ((q.1 : Nat) : Int)))]) (fun q => I) (fun q => q.2.ent 5 :: ([] ++ Lf)) (fun q => q.1 ≤ 8 ∧ q.2.Is 1 (byteC (s.data.toList ++ [128] ++ List.replicate (zc s.data.toList.length) 0 ++ lenB s.data.toList.length q.1))) (fun q => 8 - q.1) (0, V) ⟨Nat.zero_le _, by simpa [lenB] using hV⟩ ⟨rfl, rfl, rfl, trivial⟩ rfl (List.Perm.refl _) (fun q hq => ?_)
      clear hVl hV V
      obtain ⟨q, V⟩ := q
      obtain ⟨hq1, hV⟩ := hq
      simp only at hq1 hV ⊢
      have hVl : V.len = s.data.toList.length + 1 + zc s.data.toList.length + q := by have := hV.len; rw [byteC_len] at this; simp only [List.length_append, List.length_replicate, List.length_singleton, lenB_len, List.length_take] at this; omega
      refine XC.seq ?_
      refine XC.seq ?_
      refine XC.region ?_
      refine XO.rd rfl rfl rfl (Reads.move rfl) ?_
      refine XO.rd rfl rfl rfl (Reads.cmp rfl rfl rfl) ?_
      refine XO.nil ?_
      refine XQ.then_normal ?_
      refine XC.cond rfl (fun h3 => ?_) (fun h3 => ?_)
      · skip
        simp only [cmpInt, decide_eq_true_eq] at h3
        have hq7 : q ≤ 7 := by omega
        refine XC.skip ?_
        refine XQ.then_normal ?_
        refine XC.seq ?_
        refine XC.block ?_
        refine XC.region ?_
        refine XO.rd rfl rfl rfl (Reads.move rfl) ?_
        refine XO.rd rfl rfl rfl (Reads.move rfl) ?_
        refine XO.rd rfl rfl rfl (Reads.len_string Tryd.underlying9 rfl) ?_
        rw [hsz]
        refine XO.rd rfl rfl rfl (Reads.mul rfl rfl (by omega)) ?_
        rw [show (8 : Int) * (s.data.toList.length : Int) = ((8 * s.data.toList.length : Nat) : Int) by omega]
        refine XO.rd rfl rfl rfl (Reads.move rfl) ?_
        refine XO.rd rfl rfl rfl (Reads.mul rfl rfl (by omega)) ?_
        rw [show (8 : Int) * (7 - (q : Int)) = ((8 * (7 - q) : Nat) : Int) by omega]
        refine XO.rd rfl rfl rfl (Reads.shrn rfl rfl (by show 8 * (7 - q) ≤ 64; omega)) ?_
        refine XO.rd rfl rfl rfl (Reads.convu Tryd.underlying3 rfl Tryd.underlying5 rfl rfl) ?_
        rw [u8_nat (8 * s.data.toList.length / 2 ^ (8 * (7 - q)))]
        refine XO.buildL [.int .u8 (((UInt8.ofNat (8 * s.data.toList.length / 2 ^ (8 * (7 - q)) % 256)).toNat : Nat) : Int)] [.int .u8 (((UInt8.ofNat (8 * s.data.toList.length / 2 ^ (8 * (7 - q)) % 256)).toNat : Nat) : Int)] rfl rfl Tryd.underlying70 el5 rfl (by simp) ⟨rfl, rfl, trivial⟩ rfl rfl (fun bu => ?_)
        refine XO.append (V := V) (news := byteC [(UInt8.ofNat (8 * s.data.toList.length / 2 ^ (8 * (7 - q)) % 256))]) 1 rfl rfl Tryd.underlying70 el5 rfl rfl hV rfl (.slice Tryd.underlying70 (readable_row 0 rfl rfl) rfl (byteC_one _)) (by omega) (by omega) ?_
        intro V' hV' hVl'
        refine XO.rd rfl rfl rfl (Reads.assign rfl) ?_
        refine XO.nil ?_
        refine XQ.block_normal ?_
        refine XQ.then_normal ?_
        refine XC.region ?_
        refine XO.rd rfl rfl rfl (Reads.move rfl) ?_
        refine XO.rd rfl rfl rfl (Reads.sub rfl rfl (by omega)) ?_
        rw [show (7 : Int) - (q : Int) - 1 = 7 - ((q + 1 : Nat) : Int) by omega]
        refine XO.rd rfl rfl rfl (Reads.assign rfl) ?_
        refine XO.nil ?_
        refine XQ.dropn 1 ?_
        refine XQ.back (q + 1, V') ⟨by simp only; omega, by rw [lenB_succ, ← List.append_assoc, byteC_append]; exact hV'⟩ (by simp only; omega) ⟨rfl, rfl, rfl, trivial⟩ rfl (List.Perm.refl _)
      · skip
        simp only [cmpInt, decide_eq_false_iff_not] at h3
        have hq8 : q = 8 := by omega
        subst hq8
        refine XC.exit ?_
        refine XQ.then_exit ?_
        refine XQ.then_exit ?_
        refine XQ.block_exit ?_
        refine XQ.then_normal ?_
        refine XC.seq ?_
        refine XC.region ?_
        refine XO.rd rfl rfl rfl (Reads.move rfl) ?_
        refine XO.rd rfl rfl rfl (Reads.assign rfl) ?_
        refine XO.nil ?_
        refine XQ.then_normal ?_
        refine XC.ret ?_
        refine XQ.done1 (L := [V.ent 5]) rfl rfl (Im.le_refl _) ?_
        exact ⟨V, rfl, rfl, rfl, hV⟩

end Go.Proofs.YtkjhhifhgcihpaaDoor
