/- Walks: the reference's encodings, and the small parts of its digest. Walks: one block of the reference's digest. Walks: the reference's digest, and collisions. -/
import Derived.Test.YtmlliafhpbfdbaaDoorMA
import Derived.Test.YtmlliafhpbfdbaaDoorXh
namespace Go.Proofs.YtmlliafhpbfdbaaDoor
open Go.Xe Go.Sh Go

theorem rzigzag_any (n : Int) (I : Im) (hn : -4611686018427387903 ≤ n ∧ n ≤ 4611686018427387903) : FC Tryd.prog 85 [.int .i64 n] I (fun u I' => u = .int .u64 ((zz n : Nat) : Int) ∧ I' = I) := by
  refine FSo.intro (n := 13) Tryd.func85 rfl rfl rfl (fun K Lf => ?_)
  refine XC.seq ?_
  refine XC.region ?_
  refine XO.rd rfl rfl rfl (Reads.assign rfl) ?_
  refine XO.nil ?_
  refine XQ.then_normal ?_
  refine XC.seq ?_
  refine XC.seq ?_
  refine XC.region ?_
  refine XO.rd rfl rfl rfl (Reads.move rfl) ?_
  refine XO.rd rfl rfl rfl (Reads.cmp rfl rfl rfl) ?_
  refine XO.nil ?_
  refine XQ.then_normal ?_
  refine XC.cond rfl (fun h1 => ?_) (fun h1 => ?_)
  · skip
    simp only [cmpInt, decide_eq_true_eq] at h1
    refine XC.seq ?_
    refine XC.region ?_
    refine XO.rd rfl rfl rfl (Reads.move rfl) ?_
    refine XO.rd rfl rfl rfl (Reads.neg rfl (by omega)) ?_
    refine XO.rd rfl rfl rfl (Reads.conv Tryd.underlying3 rfl Tryd.underlying126 rfl) ?_
    rw [show IntKind.u64.wrap (-n) = ((-n).toNat : Int) by rw [IntKind.wrap_u64]; omega]
    refine XO.rd rfl rfl rfl (Reads.umul (n := 2) rfl rfl rfl) ?_
    refine XO.rd rfl rfl rfl (Reads.usub (n := 1) rfl rfl rfl (by omega) (Nat.mod_lt _ (by decide))) ?_
    refine XO.rd rfl rfl rfl (Reads.assign rfl) ?_
    refine XO.nil ?_
    refine XQ.then_normal ?_
    refine XC.ret ?_
    refine XQ.then_ret ?_
    refine XQ.done1 rfl rfl (Im.le_refl _) ?_
    refine ⟨rfl, ?_, rfl⟩
    rw [show zz n = (-n).toNat * 2 % 18446744073709551616 - 1 by unfold zz; rw [if_pos (by assumption)]; omega]
  · skip
    simp only [cmpInt, decide_eq_false_iff_not] at h1
    refine XC.skip ?_
    refine XQ.then_normal ?_
    refine XC.seq ?_
    refine XC.region ?_
    refine XO.rd rfl rfl rfl (Reads.move rfl) ?_
    refine XO.rd rfl rfl rfl (Reads.conv Tryd.underlying3 rfl Tryd.underlying126 rfl) ?_
    rw [show IntKind.u64.wrap n = (n.toNat : Int) by rw [IntKind.wrap_u64]; omega]
    refine XO.rd rfl rfl rfl (Reads.umul (n := 2) rfl rfl rfl) ?_
    refine XO.rd rfl rfl rfl (Reads.assign rfl) ?_
    refine XO.nil ?_
    refine XQ.then_normal ?_
    refine XC.ret ?_
    refine XQ.done1 rfl rfl (Im.le_refl _) ?_
    refine ⟨rfl, ?_, rfl⟩
    rw [show zz n = n.toNat * 2 % 18446744073709551616 by unfold zz; rw [if_neg (by assumption)]; omega]

theorem rputInt_any (n : Int) (I : Im) : FC Tryd.prog 72 [.int .i64 n] I (fun u I' => u = .tuple #[.string (putX n), .int .i64 (if okI n then 0 else 10)] ∧ I' = I) := by
  refine FSo.intro (n := 31) Tryd.func72 rfl rfl rfl (fun K Lf => ?_)
  refine XC.seq ?_
  refine XC.region ?_
  refine XO.rd rfl rfl rfl (Reads.assign rfl) ?_
  refine XO.rd rfl rfl rfl (Reads.assign rfl) ?_
  refine XO.nil ?_
  refine XQ.then_normal ?_
  refine XC.seq ?_
  refine XC.seq ?_
  refine XC.region ?_
  refine XO.rd rfl rfl rfl (Reads.move rfl) ?_
  refine XO.rd rfl rfl rfl (Reads.cmp rfl rfl rfl) ?_
  refine XO.rd rfl rfl rfl (Reads.move rfl) ?_
  refine XO.split (d := 8) rfl (fun h1 => ?_) (fun h1 => ?_)
  · skip
    simp only [cmpInt, decide_eq_true_eq] at h1
    have hok : okI n = false := by rw [Bool.eq_false_iff]; intro hh; rw [okI_iff] at hh; omega
    refine XO.s (wg rfl rfl rfl) rfl ?_
    refine XO.s (wg rfl rfl rfl) rfl ?_
    refine XO.rd rfl rfl rfl (Reads.pick_true rfl rfl) ?_
    refine XO.nil ?_
    refine XQ.then_normal ?_
    refine XC.cond rfl (fun _ => ?_) (fun hx => by cases hx)
    refine XC.seq ?_
    refine XC.region ?_
    refine XO.rd rfl rfl rfl (Reads.assign rfl) ?_
    refine XO.rd rfl rfl rfl (Reads.assign rfl) ?_
    refine XO.nil ?_
    refine XQ.then_normal ?_
    refine XC.ret ?_
    refine XQ.then_ret ?_
    refine XQ.done2 rfl rfl rfl (Im.le_refl _) ?_
    exact ⟨rfl, by simp only [putX, hok]; rfl, rfl⟩
  · skip
    simp only [cmpInt, decide_eq_false_iff_not] at h1
    refine XO.rd (wg rfl rfl rfl) rfl rfl (Reads.move rfl) ?_
    refine XO.rd (wg rfl rfl rfl) rfl rfl (Reads.cmp rfl rfl rfl) ?_
    refine XO.rd rfl rfl rfl (Reads.pick_false rfl rfl) ?_
    refine XO.nil ?_
    refine XQ.then_normal ?_
    refine XC.cond rfl (fun h2 => ?_) (fun h2 => ?_)
    · skip
      simp only [cmpInt, decide_eq_true_eq] at h2
      have hok : okI n = false := by rw [Bool.eq_false_iff]; intro hh; rw [okI_iff] at hh; omega
      refine XC.seq ?_
      refine XC.region ?_
      refine XO.rd rfl rfl rfl (Reads.assign rfl) ?_
      refine XO.rd rfl rfl rfl (Reads.assign rfl) ?_
      refine XO.nil ?_
      refine XQ.then_normal ?_
      refine XC.ret ?_
      refine XQ.then_ret ?_
      refine XQ.done2 rfl rfl rfl (Im.le_refl _) ?_
      exact ⟨rfl, by simp only [putX, hok]; rfl, rfl⟩
    · skip
      simp only [cmpInt, decide_eq_false_iff_not] at h2
      have hok : okI n = true := by rw [okI_iff]; omega
      have hzl := zz_lt hok
      refine XC.skip ?_
      refine XQ.then_normal ?_
      refine XC.seq ?_
      refine XC.region ?_
      refine XO.rd rfl rfl rfl (Reads.move rfl) ?_
      refine XO.callp rfl rfl en85 (rzigzag_any n _ (by omega)) ⟨rfl, trivial⟩ ?_
      refine XO.rd rfl rfl rfl (Reads.assign rfl) ?_
      rw [show ((zz n : Nat) : Int) = ((zz n / 128 ^ 0 : Nat) : Int) by simp]
      refine XO.nil ?_
      refine XQ.then_normal ?_
      refine XC.seq ?_
      refine XC.region ?_
      refine XO.rd rfl rfl rfl (Reads.assign rfl) ?_
      refine XO.nil ?_
      refine XQ.then_normal ?_
      refine XC.seq ?_
      refine XC.block ?_
      refine XC.vec0 5 ?_
      refine XC.loop (ι := Nat × Vec) (fun q => [(4, .int .u64 ((zz n / 128 ^ q.1 : Nat) : Int)), (5, q.2.val)]) (fun q => I) (fun q => q.2.ent 5 :: ([] ++ Lf)) (fun q => (∀ j, j < q.1 → 128 ≤ zz n / 128 ^ j) ∧ q.2.Is 1 (byteC ((List.range (q.1)).map (gby (zz n))))) (fun q => zz n / 128 ^ q.1) (0, Vec.nil) ⟨fun _ h => absurd h (Nat.not_lt_zero _), Vec.nil_is 1⟩ ⟨rfl, rfl, trivial⟩ rfl (List.Perm.refl _) (fun q hq => ?_)
      obtain ⟨i, V⟩ := q
      obtain ⟨hlow, hV⟩ := hq
      simp only at hlow hV ⊢
      have hzi : zz n / 128 ^ i < 18446744073709551616 := Nat.lt_of_le_of_lt (Nat.div_le_self _ _) (by omega)
      have hi10 := few_groups (show zz n < 18446744073709551616 by omega) hlow
      have hVl : V.len = i := by have := hV.len; rw [byteC_len] at this; simp at this; omega
      refine XC.seq ?_
      refine XC.seq ?_
      refine XC.region ?_
      refine XO.rd rfl rfl rfl (Reads.move rfl) ?_
      refine XO.rd rfl rfl rfl (Reads.cmp rfl rfl rfl) ?_
      refine XO.nil ?_
      refine XQ.then_normal ?_
      refine XC.cond rfl (fun h3 => ?_) (fun h3 => ?_)
      · skip
        simp only [cmpInt, decide_eq_true_eq] at h3
        have hge : 128 ≤ zz n / 128 ^ i := by omega
        refine XC.skip ?_
        refine XQ.then_normal ?_
        refine XC.block ?_
        refine XC.seq ?_
        refine XC.region ?_
        refine XO.rd rfl rfl rfl (Reads.move rfl) ?_
        refine XO.rd rfl rfl rfl (Reads.move rfl) ?_
        refine XO.rd rfl rfl rfl (Reads.urem (n := 128) rfl rfl rfl (by decide) hzi) ?_
        refine XO.rd rfl rfl rfl (Reads.uadd (n := 128) rfl rfl rfl) ?_
        rw [Nat.mod_eq_of_lt (show zz n / 128 ^ i % 128 + 128 < 18446744073709551616 by omega)]
        refine XO.rd rfl rfl rfl (Reads.convu Tryd.underlying126 rfl Tryd.underlying5 rfl rfl) ?_
        rw [gby_more hge]
        refine XO.buildL [.int .u8 (((gby (zz n) i).toNat : Nat) : Int)] [.int .u8 (((gby (zz n) i).toNat : Nat) : Int)] rfl rfl Tryd.underlying98 el5 rfl (by simp) ⟨rfl, rfl, trivial⟩ rfl rfl (fun bu => ?_)
        refine XO.append (V := V) (news := byteC [(gby (zz n) i)]) 1 rfl rfl Tryd.underlying98 el5 rfl rfl hV rfl (.slice Tryd.underlying98 (readable_row 0 rfl rfl) rfl (byteC_one _)) (by omega) (by omega) ?_
        intro V' hV' hVl'
        refine XO.rd rfl rfl rfl (Reads.assign rfl) ?_
        refine XO.nil ?_
        refine XQ.then_normal ?_
        refine XC.region ?_
        refine XO.rd rfl rfl rfl (Reads.move rfl) ?_
        refine XO.rd rfl rfl rfl (Reads.uquo (n := 128) rfl rfl rfl (by decide) hzi) ?_
        rw [← div_pow_succ]
        refine XO.rd rfl rfl rfl (Reads.assign rfl) ?_
        refine XO.nil ?_
        refine XQ.block_normal ?_
        refine XQ.dropn 1 ?_
        refine XQ.back (i + 1, V') ⟨fun j hj => by rcases Nat.lt_succ_iff_lt_or_eq.1 hj with h | rfl; exact hlow j h; exact hge, by rw [List.range_succ, List.map_append, byteC_append]; exact hV'⟩ (by simp only [div_pow_succ]; omega) ⟨rfl, rfl, trivial⟩ rfl (List.Perm.refl _)
      · skip
        simp only [cmpInt, decide_eq_false_iff_not] at h3
        have hlt : zz n / 128 ^ i < 128 := by omega
        refine XC.exit ?_
        refine XQ.then_exit ?_
        refine XQ.then_exit ?_
        refine XQ.block_exit ?_
        refine XQ.then_normal ?_
        refine XC.seq ?_
        refine XC.region ?_
        refine XO.rd rfl rfl rfl (Reads.move rfl) ?_
        refine XO.rd rfl rfl rfl (Reads.move rfl) ?_
        refine XO.rd rfl rfl rfl (Reads.convu Tryd.underlying126 rfl Tryd.underlying5 rfl rfl) ?_
        rw [gby_last hlt]
        refine XO.buildL [.int .u8 (((gby (zz n) i).toNat : Nat) : Int)] [.int .u8 (((gby (zz n) i).toNat : Nat) : Int)] rfl rfl Tryd.underlying98 el5 rfl (by simp) ⟨rfl, rfl, trivial⟩ rfl rfl (fun bu => ?_)
        refine XO.append (V := V) (news := byteC [(gby (zz n) i)]) 1 rfl rfl Tryd.underlying98 el5 rfl rfl hV rfl (.slice Tryd.underlying98 (readable_row 0 rfl rfl) rfl (byteC_one _)) (by omega) (by omega) ?_
        intro V' hV' hVl'
        have hV2 : V'.Is 1 (byteC ((List.range (i + 1)).map (gby (zz n)))) := by rw [List.range_succ, List.map_append, byteC_append]; exact hV'
        have hvb := vb_eq i 10 (zz n) hi10 hlow hlt
        refine XO.rd rfl rfl rfl (Reads.to_string (bs := ((List.range (i + 1)).map (gby (zz n)))) Tryd.underlying98 Tryd.underlying5 Tryd.underlying9 rfl (by have := hV2.len; rw [byteC_len] at this; omega) (hV2.readable (e := 5) (List.mem_of_getElem? (i := 1) rfl))) ?_
        refine XO.rd rfl rfl rfl (Reads.assign rfl) ?_
        refine XO.rd rfl rfl rfl (Reads.assign rfl) ?_
        refine XO.nil ?_
        refine XQ.then_normal ?_
        refine XC.ret ?_
        refine XQ.dropn 2 ?_
        refine XQ.done2 (L := []) rfl rfl rfl (Im.le_refl _) ?_
        exact ⟨rfl, by simp only [putX, hok, putI, hvb]; rfl, rfl⟩

theorem rrot_any (x n : Nat) (I : Im) (hx : x < 4294967296) (hn : n ≤ 32) : FC Tryd.prog 89 [.int .u32 ((x : Nat) : Int), .int .i64 ((n : Nat) : Int)] I (fun u I' => u = .int .u32 ((rotr x n : Nat) : Int) ∧ I' = I) := by
  refine FSo.intro (n := 13) Tryd.func89 rfl rfl rfl (fun K Lf => ?_)
  refine XC.seq ?_
  refine XC.region ?_
  refine XO.rd rfl rfl rfl (Reads.assign rfl) ?_
  refine XO.nil ?_
  refine XQ.then_normal ?_
  refine XC.seq ?_
  refine XC.draw m_mixed none (.pure 0 (.pure 1 (.pure 2 (.pure 3 (.pure 4 (.pure 5 (.pure 6 (.pure 7 (.pure 8 (.done)))))))))) _ (by kernel_rfl) (List.Sublist.refl _) ?_
  refine XR.rd rfl rfl rfl (Reads.move rfl) ?_
  refine XR.rd rfl rfl rfl (Reads.move rfl) ?_
  refine XR.rd rfl rfl rfl (Reads.shrn rfl rfl (by show n ≤ 32; omega)) ?_
  refine XR.rd rfl rfl rfl (Reads.move rfl) ?_
  refine XR.rd rfl rfl rfl (Reads.move rfl) ?_
  refine XR.rd rfl rfl rfl (Reads.sub rfl rfl (by omega)) ?_
  rw [show (32 : Int) - (n : Int) = ((32 - n : Nat) : Int) by omega]
  refine XR.rd rfl rfl rfl (Reads.ushl rfl rfl rfl (by show 32 - n ≤ 32; omega)) ?_
  refine XR.rd rfl rfl rfl (Reads.uor rfl rfl rfl (by repeat' first | assumption | with_reducible exact Go.Sh.mod_lt' _ | with_reducible apply Go.Sh.mix_lt | with_reducible apply Go.Sh.rotr_lt | with_reducible apply Go.Sh.xor_lt | with_reducible apply Go.Sh.and_lt | with_reducible apply Go.Sh.or_lt | with_reducible apply Go.Sh.div_lt' | with_reducible exact Nat.lt_of_lt_of_le (UInt8.toNat_lt _) (by decide) | with_reducible exact Nat.lt_of_lt_of_le (Go.Sh.bg_lt _ _) (by decide) | decide | omega) (by repeat' first | assumption | with_reducible exact Go.Sh.mod_lt' _ | with_reducible apply Go.Sh.mix_lt | with_reducible apply Go.Sh.rotr_lt | with_reducible apply Go.Sh.xor_lt | with_reducible apply Go.Sh.and_lt | with_reducible apply Go.Sh.or_lt | with_reducible apply Go.Sh.div_lt' | with_reducible exact Nat.lt_of_lt_of_le (UInt8.toNat_lt _) (by decide) | with_reducible exact Nat.lt_of_lt_of_le (Go.Sh.bg_lt _ _) (by decide) | decide | omega)) ?_
  refine XR.rd rfl rfl rfl (Reads.assign rfl) ?_
  refine XR.nil ?_
  refine XQ.then_normal ?_
  refine XC.ret ?_
  refine XQ.done1 rfl rfl (Im.le_refl _) ?_
  exact ⟨rfl, by rw [rotr, Nat.or_comm], rfl⟩

theorem rcon_any (I : Im) : FSo Tryd.prog 90 [] I [] (fun u I' L' => ∃ b, u = .slice (some ⟨b, 0, none⟩) 64 64 ∧ I' = I ∧ L' = [some (b, .cells (wC KR).toArray 120 (0, 0))]) := by
  refine FSo.intro (n := 2) Tryd.func90 rfl rfl rfl (fun K Lf => ?_)
  refine XC.seq ?_
  refine XC.region ?_
  refine XO.rd rfl rfl rfl (Reads.assign rfl) ?_
  refine XO.nil ?_
  refine XQ.then_normal ?_
  refine XC.seq ?_
  refine XC.region ?_
  refine XO.buildL (wC KR) (wC KR) rfl rfl Tryd.underlying121 el120 rfl (by decide) ⟨rfl, rfl, rfl, rfl, rfl, rfl, rfl, rfl, rfl, rfl, rfl, rfl, rfl, rfl, rfl, rfl, rfl, rfl, rfl, rfl, rfl, rfl, rfl, rfl, rfl, rfl, rfl, rfl, rfl, rfl, rfl, rfl, rfl, rfl, rfl, rfl, rfl, rfl, rfl, rfl, rfl, rfl, rfl, rfl, rfl, rfl, rfl, rfl, rfl, rfl, rfl, rfl, rfl, rfl, rfl, rfl, rfl, rfl, rfl, rfl, rfl, rfl, rfl, rfl, rfl, rfl, rfl, rfl, rfl, rfl, rfl, rfl, rfl, rfl, rfl, rfl, rfl, rfl, rfl, rfl, rfl, rfl, rfl, rfl, rfl, rfl, rfl, rfl, rfl, rfl, rfl, rfl, rfl, rfl, rfl, rfl, rfl, rfl, rfl, rfl, rfl, rfl, rfl, rfl, rfl, rfl, rfl, rfl, rfl, rfl, rfl, rfl, rfl, rfl, rfl, rfl, rfl, rfl, rfl, rfl, rfl, rfl, rfl, rfl, rfl, rfl, rfl, rfl, trivial⟩ rfl rfl (fun b => ?_)
  refine XO.rd rfl rfl rfl (Reads.assign rfl) ?_
  refine XO.nil ?_
  refine XQ.then_normal ?_
  refine XC.ret ?_
  refine XQ.done1 (L := [some (b, .cells (wC KR).toArray 120 (0, 0))]) rfl rfl (Im.le_refl _) ?_
  exact ⟨b, rfl, rfl, rfl⟩

theorem rext_any (s : ByteArray) (I : Im) (hs : s.size ≤ 1000000000) : FSo Tryd.prog 82 [.string s] I [] (fun u I' L' => ∃ V : Vec, u = V.val ∧ I' = I ∧ L' = [V.ent 5] ∧ V.Is 1 (byteC (pad s.data.toList))) := by
  have hsz : s.size = s.data.toList.length := by simp
  have hzc : zc s.data.toList.length < 64 := Nat.mod_lt _ (by decide)
  refine FSo.intro (n := 43) Tryd.func82 rfl rfl rfl (fun K Lf => ?_)
  refine XC.seq ?_
  refine XC.region ?_
  refine XO.rd rfl rfl rfl (Reads.assign rfl) ?_
  refine XO.nil ?_
  refine XQ.then_normal ?_
  refine XC.seq ?_
  refine XC.region ?_
  refine XO.rd rfl rfl rfl (Reads.assign rfl) ?_
  refine XO.nil ?_
  refine XQ.then_normal ?_
  refine XC.seq ?_
  refine XC.seq ?_
  refine XC.region ?_
  refine XO.rd rfl rfl rfl (Reads.assign rfl) ?_
  refine XO.nil ?_
  refine XQ.then_normal ?_
  refine XC.block ?_
  refine XC.vec0 5 ?_
  refine XC.loop (ι := Nat × Vec) (fun q => [(0, .string s), (3, q.2.val), (4, .int .i64 q.1)]) (fun q => I) (fun q => q.2.ent 5 :: ([] ++ Lf)) (fun q => q.1 ≤ s.data.toList.length ∧ q.2.Is 1 (byteC ((s.data.toList.take (q.1))))) (fun q => s.data.toList.length - q.1) (0, Vec.nil) ⟨Nat.zero_le _, Vec.nil_is 1⟩ ⟨rfl, rfl, rfl, trivial⟩ rfl (List.Perm.refl _) (fun q hq => ?_)
  obtain ⟨i, V⟩ := q
  obtain ⟨hi1, hV⟩ := hq
  simp only at hi1 hV ⊢
  have hVl : V.len = i := by have := hV.len; rw [byteC_len] at this; simp only [List.length_take] at this; omega
  refine XC.seq ?_
  refine XC.seq ?_
  refine XC.region ?_
  refine XO.rd rfl rfl rfl (Reads.move rfl) ?_
  refine XO.rd rfl rfl rfl (Reads.move rfl) ?_
  refine XO.rd rfl rfl rfl (Reads.len_string Tryd.underlying9 rfl) ?_
  rw [hsz]
  refine XO.rd rfl rfl rfl (Reads.cmp rfl rfl rfl) ?_
  refine XO.nil ?_
  refine XQ.then_normal ?_
  refine XC.cond rfl (fun h1 => ?_) (fun h1 => ?_)
  · skip
    simp only [cmpInt, decide_eq_true_eq] at h1
    have hi3 : i < s.data.toList.length := by omega
    refine XC.skip ?_
    refine XQ.then_normal ?_
    refine XC.seq ?_
    refine XC.block ?_
    refine XC.region ?_
    refine XO.rd rfl rfl rfl (Reads.move rfl) ?_
    refine XO.rd rfl rfl rfl (Reads.move rfl) ?_
    refine XO.rd rfl rfl rfl (Reads.move rfl) ?_
    refine XO.rd rfl rfl rfl (Reads.sindex Tryd.underlying9 rfl rfl (by omega)) ?_
    refine XO.buildL [.int .u8 (((s.data.toList.getD i 0).toNat : Nat) : Int)] [.int .u8 (((s.data.toList.getD i 0).toNat : Nat) : Int)] rfl rfl Tryd.underlying98 el5 rfl (by simp) ⟨rfl, rfl, trivial⟩ rfl rfl (fun bu => ?_)
    refine XO.append (V := V) (news := byteC [(s.data.toList.getD i 0)]) 1 rfl rfl Tryd.underlying98 el5 rfl rfl hV rfl (.slice Tryd.underlying98 (readable_row 0 rfl rfl) rfl (byteC_one _)) (by omega) (by omega) ?_
    intro V' hV' hVl'
    refine XO.rd rfl rfl rfl (Reads.assign rfl) ?_
    refine XO.nil ?_
    refine XQ.block_normal ?_
    refine XQ.then_normal ?_
    refine XC.region ?_
    refine XO.rd rfl rfl rfl (Reads.move rfl) ?_
    refine XO.rd rfl rfl rfl (Reads.add rfl rfl (by omega)) ?_
    refine XO.rd rfl rfl rfl (Reads.assign rfl) ?_
    refine XO.nil ?_
    refine XQ.dropn 1 ?_
    refine XQ.back (i + 1, V') ⟨by simp only; omega, by rw [List.take_succ_eq_append_getElem hi3, byteC_append, show s.data.toList[i] = (s.data.toList.getD i 0) by rw [List.getD_eq_getElem?_getD, List.getElem?_eq_getElem hi3]; rfl]; exact hV'⟩ (by simp only; omega) ⟨rfl, rfl, rfl, trivial⟩ rfl (List.Perm.refl _)
  · skip
    simp only [cmpInt, decide_eq_false_iff_not] at h1
    rw [List.take_of_length_le (by omega)] at hV
    refine XC.exit ?_
    refine XQ.then_exit ?_
    refine XQ.then_exit ?_
    refine XQ.block_exit ?_
    refine XQ.then_normal ?_
    refine XC.seq ?_
    refine XC.region ?_
    refine XO.rd rfl rfl rfl (Reads.move rfl) ?_
    refine XO.buildL [.int .u8 128] [.int .u8 128] rfl rfl Tryd.underlying98 el5 rfl (by simp) ⟨rfl, rfl, trivial⟩ rfl rfl (fun bu => ?_)
    refine XO.append (V := V) (news := byteC [128]) 1 rfl rfl Tryd.underlying98 el5 rfl rfl hV rfl (.slice Tryd.underlying98 (readable_row 0 rfl rfl) rfl (byteC_one _)) (by omega) (by omega) ?_
    intro V' hV' hVl'
    refine XO.rd rfl rfl rfl (Reads.assign rfl) ?_
    refine XO.nil ?_
    refine XQ.then_normal ?_
    refine XC.seq ?_
    refine XC.block ?_
    refine XC.dropn 1 ?_
    refine XC.loop (ι := Nat × Vec) (fun q => [(0, .string s), (3, q.2.val)]) (fun q => I) (fun q => q.2.ent 5 :: ([] ++ Lf)) (fun q => q.1 ≤ zc s.data.toList.length ∧ q.2.Is 1 (byteC (s.data.toList ++ [128] ++ List.replicate q.1 0))) (fun q => zc s.data.toList.length - q.1) (0, V') ⟨Nat.zero_le _, by simp only [List.replicate_zero, List.append_nil]; rw [byteC_append]; exact hV'⟩ ⟨rfl, rfl, trivial⟩ rfl (List.Perm.refl _) (fun q hq => ?_)
    clear hV' hVl' V'
    clear hV hVl V
    obtain ⟨j, V⟩ := q
    obtain ⟨hj1, hV⟩ := hq
    simp only at hj1 hV ⊢
    have hVl : V.len = s.data.toList.length + 1 + j := by have := hV.len; rw [byteC_len] at this; simp only [List.length_append, List.length_replicate, List.length_singleton] at this; omega
    refine XC.seq ?_
    refine XC.seq ?_
    refine XC.region ?_
    refine XO.rd rfl rfl rfl (Reads.move rfl) ?_
    refine XO.rd rfl rfl rfl (Reads.len_slice Tryd.underlying98 rfl) ?_
    rw [hVl]
    refine XO.rd rfl rfl rfl (Reads.rem rfl rfl (by omega) (by omega)) ?_
    refine XO.rd rfl rfl rfl (Reads.cmp rfl rfl rfl) ?_
    refine XO.nil ?_
    refine XQ.then_normal ?_
    refine XC.cond rfl (fun h2 => ?_) (fun h2 => ?_)
    · skip
      simp only [cmpInt, bne_iff_ne, ne_eq] at h2
      have hj : j < zc s.data.toList.length := by unfold zc; unfold zc at hj1; omega
      refine XC.skip ?_
      refine XQ.then_normal ?_
      refine XC.block ?_
      refine XC.region ?_
      refine XO.rd rfl rfl rfl (Reads.move rfl) ?_
      refine XO.buildL [.int .u8 0] [.int .u8 0] rfl rfl Tryd.underlying98 el5 rfl (by simp) ⟨rfl, rfl, trivial⟩ rfl rfl (fun bu => ?_)
      refine XO.append (V := V) (news := byteC [0]) 1 rfl rfl Tryd.underlying98 el5 rfl rfl hV rfl (.slice Tryd.underlying98 (readable_row 0 rfl rfl) rfl (byteC_one _)) (by omega) (by omega) ?_
      intro V' hV' hVl'
      refine XO.rd rfl rfl rfl (Reads.assign rfl) ?_
      refine XO.nil ?_
      refine XQ.block_normal ?_
      refine XQ.dropn 1 ?_
      refine XQ.back (j + 1, V') ⟨by simp only; omega, by rw [List.replicate_succ', ← List.append_assoc, byteC_append]; exact hV'⟩ (by simp only; omega) ⟨rfl, rfl, trivial⟩ rfl (List.Perm.refl _)
    · skip
      simp only [cmpInt, bne_eq_false_iff_eq] at h2
      have hj : j = zc s.data.toList.length := by unfold zc; unfold zc at hj1; omega
      subst hj
      refine XC.exit ?_
      refine XQ.then_exit ?_
      refine XQ.then_exit ?_
      refine XQ.block_exit ?_
      refine XQ.then_normal ?_
      refine XC.seq ?_
      refine XC.seq ?_
      refine XC.region ?_
      refine XO.rd rfl rfl rfl (Reads.assign rfl) ?_
      refine XO.nil ?_
      refine XQ.then_normal ?_
      refine XC.block ?_
      refine XC.loop (ι := Nat × Vec) (fun q => [(0, .string s), (3, q.2.val), (5, .int .i64 (7 - ((q.1 : Nat) : Int)))]) (fun q => I) (fun q => q.2.ent 5 :: ([] ++ Lf)) (fun q => q.1 ≤ 8 ∧ q.2.Is 1 (byteC (s.data.toList ++ [128] ++ List.replicate (zc s.data.toList.length) 0 ++ lenB s.data.toList.length q.1))) (fun q => 8 - q.1) (0, V) ⟨Nat.zero_le _, by simpa [lenB] using hV⟩ ⟨rfl, rfl, rfl, trivial⟩ rfl (List.Perm.refl _) (fun q hq => ?_)
      clear hVl hV V
      obtain ⟨q, V⟩ := q
      obtain ⟨hq1, hV⟩ := hq
      simp only at hq1 hV ⊢
      have hVl : V.len = s.data.toList.length + 1 + zc s.data.toList.length + q := by have := hV.len; rw [byteC_len] at this; simp only [List.length_append, List.length_replicate, List.length_singleton, lenB_len] at this; omega
      refine XC.seq ?_
      refine XC.seq ?_
      refine XC.region ?_
      refine XO.rd rfl rfl rfl (Reads.move rfl) ?_
      refine XO.rd rfl rfl rfl (Reads.cmp rfl rfl rfl) ?_
      refine XO.nil ?_
      refine XQ.then_normal ?_
      refine XC.cond rfl (fun h3 => ?_) (fun h3 => ?_)
      · skip
        simp only [cmpInt, decide_eq_true_eq] at h3
        have hq7 : q ≤ 7 := by omega
        refine XC.skip ?_
        refine XQ.then_normal ?_
        refine XC.seq ?_
        refine XC.block ?_
        refine XC.region ?_
        refine XO.rd rfl rfl rfl (Reads.move rfl) ?_
        refine XO.rd rfl rfl rfl (Reads.move rfl) ?_
        refine XO.rd rfl rfl rfl (Reads.len_string Tryd.underlying9 rfl) ?_
        rw [hsz]
        refine XO.rd rfl rfl rfl (Reads.mul rfl rfl (by omega)) ?_
        rw [show (8 : Int) * (s.data.toList.length : Int) = ((8 * s.data.toList.length : Nat) : Int) by omega]
        refine XO.rd rfl rfl rfl (Reads.move rfl) ?_
        refine XO.rd rfl rfl rfl (Reads.mul rfl rfl (by omega)) ?_
        rw [show (8 : Int) * (7 - (q : Int)) = ((8 * (7 - q) : Nat) : Int) by omega]
        refine XO.rd rfl rfl rfl (Reads.shrn rfl rfl (by show 8 * (7 - q) ≤ 64; omega)) ?_
        refine XO.rd rfl rfl rfl (Reads.convu Tryd.underlying3 rfl Tryd.underlying5 rfl rfl) ?_
        rw [u8_nat (8 * s.data.toList.length / 2 ^ (8 * (7 - q)))]
        refine XO.buildL [.int .u8 (((UInt8.ofNat (8 * s.data.toList.length / 2 ^ (8 * (7 - q)) % 256)).toNat : Nat) : Int)] [.int .u8 (((UInt8.ofNat (8 * s.data.toList.length / 2 ^ (8 * (7 - q)) % 256)).toNat : Nat) : Int)] rfl rfl Tryd.underlying98 el5 rfl (by simp) ⟨rfl, rfl, trivial⟩ rfl rfl (fun bu => ?_)
        refine XO.append (V := V) (news := byteC [(UInt8.ofNat (8 * s.data.toList.length / 2 ^ (8 * (7 - q)) % 256))]) 1 rfl rfl Tryd.underlying98 el5 rfl rfl hV rfl (.slice Tryd.underlying98 (readable_row 0 rfl rfl) rfl (byteC_one _)) (by omega) (by omega) ?_
        intro V' hV' hVl'
        refine XO.rd rfl rfl rfl (Reads.assign rfl) ?_
        refine XO.nil ?_
        refine XQ.block_normal ?_
        refine XQ.then_normal ?_
        refine XC.region ?_
        refine XO.rd rfl rfl rfl (Reads.move rfl) ?_
        refine XO.rd rfl rfl rfl (Reads.sub rfl rfl (by omega)) ?_
        rw [show (7 : Int) - (q : Int) - 1 = 7 - ((q + 1 : Nat) : Int) by omega]
        refine XO.rd rfl rfl rfl (Reads.assign rfl) ?_
        refine XO.nil ?_
        refine XQ.dropn 1 ?_
        refine XQ.back (q + 1, V') ⟨by simp only; omega, by rw [lenB_succ, ← List.append_assoc, byteC_append]; exact hV'⟩ (by simp only; omega) ⟨rfl, rfl, rfl, trivial⟩ rfl (List.Perm.refl _)
      · skip
        simp only [cmpInt, decide_eq_false_iff_not] at h3
        have hq8 : q = 8 := by omega
        subst hq8
        refine XC.exit ?_
        refine XQ.then_exit ?_
        refine XQ.then_exit ?_
        refine XQ.block_exit ?_
        refine XQ.then_normal ?_
        refine XC.seq ?_
        refine XC.region ?_
        refine XO.rd rfl rfl rfl (Reads.move rfl) ?_
        refine XO.rd rfl rfl rfl (Reads.assign rfl) ?_
        refine XO.nil ?_
        refine XQ.then_normal ?_
        refine XC.ret ?_
        refine XQ.done1 (L := [V.ent 5]) rfl rfl (Im.le_refl _) ?_
        exact ⟨V, rfl, rfl, rfl, hV⟩

end Go.Proofs.YtmlliafhpbfdbaaDoor
namespace Go.Proofs.YtmlliafhpbfdbaaDoor
open Go.Xe Go.Sh Go

theorem rblock_any (ah p : Option Addr) (ch cap : Nat) (h : List Nat) (bs : List UInt8) (I : Im) (hH : Arr I ah h) (hA : Arr I p bs) (hb : bs.length = 64) (hh : h.length = 8) (hhw : Ws h) : FC Tryd.prog 83 [.slice ah 8 ch, .slice p 64 cap] I (fun u I' => ∃ a c, u = .slice a 8 c ∧ Arr I' a (comp h (bg bs))) := by
  have hkr := KR_ws
  have hsw : Ws (sch (bg bs)) := schA_ws (fun i => bg_lt _ _) 48
  have hsl := sch_len (bg bs)
  refine FSo.intro (n := 238) Tryd.func83 rfl rfl rfl (fun K Lf => ?_)
  refine XC.seq ?_
  refine XC.region ?_
  refine XO.rd rfl rfl rfl (Reads.assign rfl) ?_
  refine XO.nil ?_
  refine XQ.then_normal ?_
  refine XC.seq ?_
  refine XC.region ?_
  refine XO.rd rfl rfl rfl (Reads.assign rfl) ?_
  refine XO.nil ?_
  refine XQ.then_normal ?_
  refine XC.seq ?_
  refine XC.seq ?_
  refine XC.region ?_
  refine XO.rd rfl rfl rfl (Reads.assign rfl) ?_
  refine XO.nil ?_
  refine XQ.then_normal ?_
  refine XC.block ?_
  refine XC.vec0 120 ?_
  refine XC.loop (ι := Nat × Vec) (fun q => [(0, .slice ah 8 ch), (1, .slice p 64 cap), (5, q.2.val), (6, .int .i64 q.1)]) (fun q => I) (fun q => q.2.ent 120 :: ([] ++ Lf)) (fun q => q.1 ≤ 16 ∧ q.2.Is 1 (wC (sch0 (bg bs) q.1))) (fun q => 16 - q.1) (0, Vec.nil) ⟨Nat.zero_le _, Vec.nil_is 1⟩ ⟨rfl, rfl, rfl, rfl, trivial⟩ rfl (List.Perm.refl _) (fun q hq => ?_)
  obtain ⟨k, V⟩ := q
  obtain ⟨hk1, hV⟩ := hq
  simp only at hk1 hV ⊢
  have Vl : V.len = k := by have := hV.len; rw [wC_len] at this; simp only [sch0_len] at this; omega
  refine XC.seq ?_
  refine XC.seq ?_
  refine XC.region ?_
  refine XO.rd rfl rfl rfl (Reads.move rfl) ?_
  refine XO.rd rfl rfl rfl (Reads.cmp rfl rfl rfl) ?_
  refine XO.nil ?_
  refine XQ.then_normal ?_
  refine XC.cond rfl (fun h1 => ?_) (fun h1 => ?_)
  · skip
    simp only [cmpInt, decide_eq_true_eq] at h1
    refine XC.skip ?_
    refine XQ.then_normal ?_
    refine XC.seq ?_
    refine XC.block ?_
    refine XC.draw m_mixed none (.pure 0 (.pure 1 (.pure 2 (.pure 3 (.pure 4 (.pure 5 (.pure 6 (.pure 7 (.pure 8 (.pure 9 (.pure 10 (.pure 11 (.pure 12 (.pure 13 (.pure 14 (.pure 15 (.pure 16 (.pure 17 (.pure 18 (.pure 19 (.pure 20 (.pure 21 (.pure 22 (.pure 23 (.pure 24 (.pure 25 (.pure 26 (.pure 27 (.pure 28 (.pure 29 (.pure 30 (.pure 31 (.pure 32 (.pure 33 (.eff 34 (.eff 35 (.pure 36 (.done)))))))))))))))))))))))))))))))))))))) [] (by kernel_rfl) (List.nil_sublist _) ?_
    refine XR.rd rfl rfl rfl (Reads.move rfl) ?_
    refine XR.rd rfl rfl rfl (Reads.move rfl) ?_
    refine XR.rd rfl rfl rfl (Reads.move rfl) ?_
    refine XR.rd rfl rfl rfl (Reads.mul rfl rfl (by omega)) ?_
    refine XR.rd rfl rfl rfl (Reads.index_slot (q := 4 * k) Tryd.underlying98 z5 rfl rfl (by omega) (hA.isSome (by decide) (by omega)) (by omega)) ?_
    refine XR.rd rfl rfl rfl (Reads.load_at k5 rfl (hA.bg_at (j := 4 * k) (by omega) rfl)) ?_
    refine XR.rd rfl rfl rfl (Reads.convl Tryd.underlying5 rfl Tryd.underlying120 rfl rfl (by repeat' first | assumption | with_reducible exact hw _ | with_reducible exact hvw _ | with_reducible exact hkr _ | with_reducible exact hsw _ | with_reducible exact hhw _ | with_reducible exact Go.Sh.mod_lt' _ | with_reducible apply Go.Sh.mix_lt | with_reducible apply Go.Sh.rotr_lt | with_reducible apply Go.Sh.xor_lt | with_reducible apply Go.Sh.and_lt | with_reducible apply Go.Sh.or_lt | with_reducible apply Go.Sh.div_lt' | with_reducible exact Nat.lt_of_lt_of_le (UInt8.toNat_lt _) (by decide) | with_reducible exact Nat.lt_of_lt_of_le (Go.Sh.bg_lt _ _) (by decide) | decide | omega)) ?_
    refine XR.rd rfl rfl rfl (Reads.ushl (s := 24) rfl rfl rfl (by decide)) ?_
    refine XR.rd rfl rfl rfl (Reads.move rfl) ?_
    refine XR.rd rfl rfl rfl (Reads.move rfl) ?_
    refine XR.rd rfl rfl rfl (Reads.mul rfl rfl (by omega)) ?_
    refine XR.rd rfl rfl rfl (Reads.add rfl rfl (by omega)) ?_
    refine XR.rd rfl rfl rfl (Reads.index_slot (q := 4 * k + 1) Tryd.underlying98 z5 rfl rfl (by omega) (hA.isSome (by decide) (by omega)) (by omega)) ?_
    refine XR.rd rfl rfl rfl (Reads.load_at k5 rfl (hA.bg_at (j := 4 * k + 1) (by omega) rfl)) ?_
    refine XR.rd rfl rfl rfl (Reads.convl Tryd.underlying5 rfl Tryd.underlying120 rfl rfl (by repeat' first | assumption | with_reducible exact hw _ | with_reducible exact hvw _ | with_reducible exact hkr _ | with_reducible exact hsw _ | with_reducible exact hhw _ | with_reducible exact Go.Sh.mod_lt' _ | with_reducible apply Go.Sh.mix_lt | with_reducible apply Go.Sh.rotr_lt | with_reducible apply Go.Sh.xor_lt | with_reducible apply Go.Sh.and_lt | with_reducible apply Go.Sh.or_lt | with_reducible apply Go.Sh.div_lt' | with_reducible exact Nat.lt_of_lt_of_le (UInt8.toNat_lt _) (by decide) | with_reducible exact Nat.lt_of_lt_of_le (Go.Sh.bg_lt _ _) (by decide) | decide | omega)) ?_
    refine XR.rd rfl rfl rfl (Reads.ushl (s := 16) rfl rfl rfl (by decide)) ?_
    refine XR.rd rfl rfl rfl (Reads.uor rfl rfl rfl (by repeat' first | assumption | with_reducible exact hw _ | with_reducible exact hvw _ | with_reducible exact hkr _ | with_reducible exact hsw _ | with_reducible exact hhw _ | with_reducible exact Go.Sh.mod_lt' _ | with_reducible apply Go.Sh.mix_lt | with_reducible apply Go.Sh.rotr_lt | with_reducible apply Go.Sh.xor_lt | with_reducible apply Go.Sh.and_lt | with_reducible apply Go.Sh.or_lt | with_reducible apply Go.Sh.div_lt' | with_reducible exact Nat.lt_of_lt_of_le (UInt8.toNat_lt _) (by decide) | with_reducible exact Nat.lt_of_lt_of_le (Go.Sh.bg_lt _ _) (by decide) | decide | omega) (by repeat' first | assumption | with_reducible exact hw _ | with_reducible exact hvw _ | with_reducible exact hkr _ | with_reducible exact hsw _ | with_reducible exact hhw _ | with_reducible exact Go.Sh.mod_lt' _ | with_reducible apply Go.Sh.mix_lt | with_reducible apply Go.Sh.rotr_lt | with_reducible apply Go.Sh.xor_lt | with_reducible apply Go.Sh.and_lt | with_reducible apply Go.Sh.or_lt | with_reducible apply Go.Sh.div_lt' | with_reducible exact Nat.lt_of_lt_of_le (UInt8.toNat_lt _) (by decide) | with_reducible exact Nat.lt_of_lt_of_le (Go.Sh.bg_lt _ _) (by decide) | decide | omega)) ?_
    refine XR.rd rfl rfl rfl (Reads.move rfl) ?_
    refine XR.rd rfl rfl rfl (Reads.move rfl) ?_
    refine XR.rd rfl rfl rfl (Reads.mul rfl rfl (by omega)) ?_
    refine XR.rd rfl rfl rfl (Reads.add rfl rfl (by omega)) ?_
    refine XR.rd rfl rfl rfl (Reads.index_slot (q := 4 * k + 2) Tryd.underlying98 z5 rfl rfl (by omega) (hA.isSome (by decide) (by omega)) (by omega)) ?_
    refine XR.rd rfl rfl rfl (Reads.load_at k5 rfl (hA.bg_at (j := 4 * k + 2) (by omega) rfl)) ?_
    refine XR.rd rfl rfl rfl (Reads.convl Tryd.underlying5 rfl Tryd.underlying120 rfl rfl (by repeat' first | assumption | with_reducible exact hw _ | with_reducible exact hvw _ | with_reducible exact hkr _ | with_reducible exact hsw _ | with_reducible exact hhw _ | with_reducible exact Go.Sh.mod_lt' _ | with_reducible apply Go.Sh.mix_lt | with_reducible apply Go.Sh.rotr_lt | with_reducible apply Go.Sh.xor_lt | with_reducible apply Go.Sh.and_lt | with_reducible apply Go.Sh.or_lt | with_reducible apply Go.Sh.div_lt' | with_reducible exact Nat.lt_of_lt_of_le (UInt8.toNat_lt _) (by decide) | with_reducible exact Nat.lt_of_lt_of_le (Go.Sh.bg_lt _ _) (by decide) | decide | omega)) ?_
    refine XR.rd rfl rfl rfl (Reads.ushl (s := 8) rfl rfl rfl (by decide)) ?_
    refine XR.rd rfl rfl rfl (Reads.uor rfl rfl rfl (by repeat' first | assumption | with_reducible exact hw _ | with_reducible exact hvw _ | with_reducible exact hkr _ | with_reducible exact hsw _ | with_reducible exact hhw _ | with_reducible exact Go.Sh.mod_lt' _ | with_reducible apply Go.Sh.mix_lt | with_reducible apply Go.Sh.rotr_lt | with_reducible apply Go.Sh.xor_lt | with_reducible apply Go.Sh.and_lt | with_reducible apply Go.Sh.or_lt | with_reducible apply Go.Sh.div_lt' | with_reducible exact Nat.lt_of_lt_of_le (UInt8.toNat_lt _) (by decide) | with_reducible exact Nat.lt_of_lt_of_le (Go.Sh.bg_lt _ _) (by decide) | decide | omega) (by repeat' first | assumption | with_reducible exact hw _ | with_reducible exact hvw _ | with_reducible exact hkr _ | with_reducible exact hsw _ | with_reducible exact hhw _ | with_reducible exact Go.Sh.mod_lt' _ | with_reducible apply Go.Sh.mix_lt | with_reducible apply Go.Sh.rotr_lt | with_reducible apply Go.Sh.xor_lt | with_reducible apply Go.Sh.and_lt | with_reducible apply Go.Sh.or_lt | with_reducible apply Go.Sh.div_lt' | with_reducible exact Nat.lt_of_lt_of_le (UInt8.toNat_lt _) (by decide) | with_reducible exact Nat.lt_of_lt_of_le (Go.Sh.bg_lt _ _) (by decide) | decide | omega)) ?_
    refine XR.rd rfl rfl rfl (Reads.move rfl) ?_
    refine XR.rd rfl rfl rfl (Reads.move rfl) ?_
    refine XR.rd rfl rfl rfl (Reads.mul rfl rfl (by omega)) ?_
    refine XR.rd rfl rfl rfl (Reads.add rfl rfl (by omega)) ?_
    refine XR.rd rfl rfl rfl (Reads.index_slot (q := 4 * k + 3) Tryd.underlying98 z5 rfl rfl (by omega) (hA.isSome (by decide) (by omega)) (by omega)) ?_
    refine XR.rd rfl rfl rfl (Reads.load_at k5 rfl (hA.bg_at (j := 4 * k + 3) (by omega) rfl)) ?_
    refine XR.rd rfl rfl rfl (Reads.convl Tryd.underlying5 rfl Tryd.underlying120 rfl rfl (by repeat' first | assumption | with_reducible exact hw _ | with_reducible exact hvw _ | with_reducible exact hkr _ | with_reducible exact hsw _ | with_reducible exact hhw _ | with_reducible exact Go.Sh.mod_lt' _ | with_reducible apply Go.Sh.mix_lt | with_reducible apply Go.Sh.rotr_lt | with_reducible apply Go.Sh.xor_lt | with_reducible apply Go.Sh.and_lt | with_reducible apply Go.Sh.or_lt | with_reducible apply Go.Sh.div_lt' | with_reducible exact Nat.lt_of_lt_of_le (UInt8.toNat_lt _) (by decide) | with_reducible exact Nat.lt_of_lt_of_le (Go.Sh.bg_lt _ _) (by decide) | decide | omega)) ?_
    refine XR.rd rfl rfl rfl (Reads.uor rfl rfl rfl (by repeat' first | assumption | with_reducible exact hw _ | with_reducible exact hvw _ | with_reducible exact hkr _ | with_reducible exact hsw _ | with_reducible exact hhw _ | with_reducible exact Go.Sh.mod_lt' _ | with_reducible apply Go.Sh.mix_lt | with_reducible apply Go.Sh.rotr_lt | with_reducible apply Go.Sh.xor_lt | with_reducible apply Go.Sh.and_lt | with_reducible apply Go.Sh.or_lt | with_reducible apply Go.Sh.div_lt' | with_reducible exact Nat.lt_of_lt_of_le (UInt8.toNat_lt _) (by decide) | with_reducible exact Nat.lt_of_lt_of_le (Go.Sh.bg_lt _ _) (by decide) | decide | omega) (by repeat' first | assumption | with_reducible exact hw _ | with_reducible exact hvw _ | with_reducible exact hkr _ | with_reducible exact hsw _ | with_reducible exact hhw _ | with_reducible exact Go.Sh.mod_lt' _ | with_reducible apply Go.Sh.mix_lt | with_reducible apply Go.Sh.rotr_lt | with_reducible apply Go.Sh.xor_lt | with_reducible apply Go.Sh.and_lt | with_reducible apply Go.Sh.or_lt | with_reducible apply Go.Sh.div_lt' | with_reducible exact Nat.lt_of_lt_of_le (UInt8.toNat_lt _) (by decide) | with_reducible exact Nat.lt_of_lt_of_le (Go.Sh.bg_lt _ _) (by decide) | decide | omega)) ?_
    refine XR.buildL [.int .u32 ((wd (bg bs) k : Nat) : Int)] [.int .u32 ((wd (bg bs) k : Nat) : Int)] rfl rfl rfl Tryd.underlying121 el120 rfl (by simp) ⟨rfl, rfl, trivial⟩ rfl rfl (List.nil_sublist _) (fun bu => ?_)
    refine XR.append (V := V) (news := wC [wd (bg bs) k]) 1 rfl rfl rfl Tryd.underlying121 el120 rfl rfl hV rfl (.slice Tryd.underlying121 (readable_row 0 rfl rfl) rfl (wC_one _)) (by omega) (by omega) ?_
    intro V' hV' hVl'
    refine ⟨.inr (List.Sublist.cons _ (List.nil_sublist _)), ?_⟩
    refine XR.rd rfl rfl rfl (Reads.assign rfl) ?_
    refine XR.nil ?_
    refine XQ.block_normal ?_
    refine XQ.then_normal ?_
    refine XC.region ?_
    refine XO.rd rfl rfl rfl (Reads.move rfl) ?_
    refine XO.rd rfl rfl rfl (Reads.add rfl rfl (by omega)) ?_
    refine XO.rd rfl rfl rfl (Reads.assign rfl) ?_
    refine XO.nil ?_
    refine XQ.dropn 1 ?_
    refine XQ.back (k + 1, V') ⟨by simp only; omega, by rw [sch0_succ, wC_append]; exact hV'⟩ (by simp only; omega) ⟨rfl, rfl, rfl, rfl, trivial⟩ rfl (List.Perm.refl _)
  · skip
    simp only [cmpInt, decide_eq_false_iff_not] at h1
    have hk16 : k = 16 := by omega
    subst hk16
    refine XC.exit ?_
    refine XQ.then_exit ?_
    refine XQ.then_exit ?_
    refine XQ.block_exit ?_
    refine XQ.then_normal ?_
    refine XC.seq ?_
    refine XC.seq ?_
    refine XC.region ?_
    refine XO.rd rfl rfl rfl (Reads.assign rfl) ?_
    refine XO.nil ?_
    refine XQ.then_normal ?_
    refine XC.block ?_
    refine XC.loop (ι := Nat × Vec) (fun q => [(0, .slice ah 8 ch), (5, q.2.val), (7, .int .i64 ((16 + q.1 : Nat) : Int))]) (fun q => I) (fun q => q.2.ent 120 :: ([] ++ Lf)) (fun q => q.1 ≤ 48 ∧ q.2.Is 1 (wC (schA (bg bs) q.1))) (fun q => 48 - q.1) (0, V) ⟨Nat.zero_le _, hV⟩ ⟨rfl, rfl, rfl, trivial⟩ rfl (List.Perm.refl _) (fun q hq => ?_)
    clear Vl hV V
    obtain ⟨k, V⟩ := q
    obtain ⟨hk1, hV⟩ := hq
    simp only at hk1 hV ⊢
    have hw := schA_ws (b := bg bs) (fun i => bg_lt _ _) k
    have Vl : V.len = 16 + k := by have := hV.len; rw [wC_len] at this; simp only [schA_len] at this; omega
    refine XC.seq ?_
    refine XC.seq ?_
    refine XC.region ?_
    refine XO.rd rfl rfl rfl (Reads.move rfl) ?_
    refine XO.rd rfl rfl rfl (Reads.cmp rfl rfl rfl) ?_
    refine XO.nil ?_
    refine XQ.then_normal ?_
    refine XC.cond rfl (fun h2 => ?_) (fun h2 => ?_)
    · skip
      simp only [cmpInt, decide_eq_true_eq] at h2
      refine XC.skip ?_
      refine XQ.then_normal ?_
      refine XC.seq ?_
      refine XC.block ?_
      refine XC.seq ?_
      refine XC.draw m_mixed none (.pure 0 (.pure 1 (.pure 2 (.pure 3 (.pure 4 (.pure 6 (.pure 7 (.pure 8 (.pure 9 (.pure 10 (.pure 13 (.pure 14 (.pure 15 (.pure 16 (.pure 17 (.pure 18 (.eff 5 (.eff 11 (.pure 12 (.pure 19 (.pure 20 (.done)))))))))))))))))))))) _ (by kernel_rfl) (List.Sublist.refl _) ?_
      refine XR.rd rfl rfl rfl (Reads.move rfl) ?_
      refine XR.rd rfl rfl rfl (Reads.move rfl) ?_
      refine XR.rd rfl rfl rfl (Reads.sub rfl rfl (by omega)) ?_
      refine XR.rd rfl rfl rfl (Reads.index_slot (q := 16 + k - 15) Tryd.underlying121 z120 rfl rfl (by omega) (vec_isSomes (k := 16 + k - 15) hV (wC_get (by rw [schA_len]; omega))) (by omega)) ?_
      refine XR.rd rfl rfl rfl (Reads.load_vecs (v := .int .u32 ((g (schA (bg bs) k) (16 + k - 15) : Nat) : Int)) k120 rfl hV (e := 120) (List.mem_of_getElem? (i := 0) rfl) (wC_get (by rw [schA_len]; omega))) ?_
      refine XR.rd rfl rfl rfl (Reads.move rfl) ?_
      refine XR.rd rfl rfl rfl (Reads.move rfl) ?_
      refine XR.rd rfl rfl rfl (Reads.sub rfl rfl (by omega)) ?_
      refine XR.rd rfl rfl rfl (Reads.index_slot (q := 16 + k - 15) Tryd.underlying121 z120 rfl rfl (by omega) (vec_isSomes (k := 16 + k - 15) hV (wC_get (by rw [schA_len]; omega))) (by omega)) ?_
      refine XR.rd rfl rfl rfl (Reads.load_vecs (v := .int .u32 ((g (schA (bg bs) k) (16 + k - 15) : Nat) : Int)) k120 rfl hV (e := 120) (List.mem_of_getElem? (i := 0) rfl) (wC_get (by rw [schA_len]; omega))) ?_
      refine XR.rd rfl rfl rfl (Reads.move rfl) ?_
      refine XR.rd rfl rfl rfl (Reads.move rfl) ?_
      refine XR.rd rfl rfl rfl (Reads.sub rfl rfl (by omega)) ?_
      refine XR.rd rfl rfl rfl (Reads.index_slot (q := 16 + k - 15) Tryd.underlying121 z120 rfl rfl (by omega) (vec_isSomes (k := 16 + k - 15) hV (wC_get (by rw [schA_len]; omega))) (by omega)) ?_
      refine XR.rd rfl rfl rfl (Reads.load_vecs (v := .int .u32 ((g (schA (bg bs) k) (16 + k - 15) : Nat) : Int)) k120 rfl hV (e := 120) (List.mem_of_getElem? (i := 0) rfl) (wC_get (by rw [schA_len]; omega))) ?_
      refine XR.rd rfl rfl rfl (Reads.shrn (s := 3) rfl rfl (by decide)) ?_
      refine XR.callp rfl rfl rfl en89 (rrot_any _ 7 _ (hw _) (by decide)) ⟨rfl, rfl, trivial⟩ (List.Sublist.refl _) ?_
      refine XR.callp rfl rfl rfl en89 (rrot_any _ 18 _ (hw _) (by decide)) ⟨rfl, rfl, trivial⟩ (List.Sublist.refl _) ?_
      refine XR.rd rfl rfl rfl (Reads.uxor rfl rfl rfl (rotr_lt (hw _)) (rotr_lt (hw _))) ?_
      rw [mix2]
      refine XR.rd rfl rfl rfl (Reads.uxor rfl rfl rfl (by repeat' first | assumption | with_reducible exact hw _ | with_reducible exact hvw _ | with_reducible exact hkr _ | with_reducible exact hsw _ | with_reducible exact hhw _ | with_reducible exact Go.Sh.mod_lt' _ | with_reducible apply Go.Sh.mix_lt | with_reducible apply Go.Sh.rotr_lt | with_reducible apply Go.Sh.xor_lt | with_reducible apply Go.Sh.and_lt | with_reducible apply Go.Sh.or_lt | with_reducible apply Go.Sh.div_lt' | with_reducible exact Nat.lt_of_lt_of_le (UInt8.toNat_lt _) (by decide) | with_reducible exact Nat.lt_of_lt_of_le (Go.Sh.bg_lt _ _) (by decide) | decide | omega) (by repeat' first | assumption | with_reducible exact hw _ | with_reducible exact hvw _ | with_reducible exact hkr _ | with_reducible exact hsw _ | with_reducible exact hhw _ | with_reducible exact Go.Sh.mod_lt' _ | with_reducible apply Go.Sh.mix_lt | with_reducible apply Go.Sh.rotr_lt | with_reducible apply Go.Sh.xor_lt | with_reducible apply Go.Sh.and_lt | with_reducible apply Go.Sh.or_lt | with_reducible apply Go.Sh.div_lt' | with_reducible exact Nat.lt_of_lt_of_le (UInt8.toNat_lt _) (by decide) | with_reducible exact Nat.lt_of_lt_of_le (Go.Sh.bg_lt _ _) (by decide) | decide | omega)) ?_
      refine XR.rd rfl rfl rfl (Reads.assign rfl) ?_
      refine XR.nil ?_
      refine XQ.then_normal ?_
      refine XC.seq ?_
      refine XC.draw m_mixed none (.pure 0 (.pure 1 (.pure 2 (.pure 3 (.pure 4 (.pure 6 (.pure 7 (.pure 8 (.pure 9 (.pure 10 (.pure 13 (.pure 14 (.pure 15 (.pure 16 (.pure 17 (.pure 18 (.eff 5 (.eff 11 (.pure 12 (.pure 19 (.pure 20 (.done)))))))))))))))))))))) _ (by kernel_rfl) (List.Sublist.refl _) ?_
      refine XR.rd rfl rfl rfl (Reads.move rfl) ?_
      refine XR.rd rfl rfl rfl (Reads.move rfl) ?_
      refine XR.rd rfl rfl rfl (Reads.sub rfl rfl (by omega)) ?_
      refine XR.rd rfl rfl rfl (Reads.index_slot (q := 16 + k - 2) Tryd.underlying121 z120 rfl rfl (by omega) (vec_isSomes (k := 16 + k - 2) hV (wC_get (by rw [schA_len]; omega))) (by omega)) ?_
      refine XR.rd rfl rfl rfl (Reads.load_vecs (v := .int .u32 ((g (schA (bg bs) k) (16 + k - 2) : Nat) : Int)) k120 rfl hV (e := 120) (List.mem_of_getElem? (i := 0) rfl) (wC_get (by rw [schA_len]; omega))) ?_
      refine XR.rd rfl rfl rfl (Reads.move rfl) ?_
      refine XR.rd rfl rfl rfl (Reads.move rfl) ?_
      refine XR.rd rfl rfl rfl (Reads.sub rfl rfl (by omega)) ?_
      refine XR.rd rfl rfl rfl (Reads.index_slot (q := 16 + k - 2) Tryd.underlying121 z120 rfl rfl (by omega) (vec_isSomes (k := 16 + k - 2) hV (wC_get (by rw [schA_len]; omega))) (by omega)) ?_
      refine XR.rd rfl rfl rfl (Reads.load_vecs (v := .int .u32 ((g (schA (bg bs) k) (16 + k - 2) : Nat) : Int)) k120 rfl hV (e := 120) (List.mem_of_getElem? (i := 0) rfl) (wC_get (by rw [schA_len]; omega))) ?_
      refine XR.rd rfl rfl rfl (Reads.move rfl) ?_
      refine XR.rd rfl rfl rfl (Reads.move rfl) ?_
      refine XR.rd rfl rfl rfl (Reads.sub rfl rfl (by omega)) ?_
      refine XR.rd rfl rfl rfl (Reads.index_slot (q := 16 + k - 2) Tryd.underlying121 z120 rfl rfl (by omega) (vec_isSomes (k := 16 + k - 2) hV (wC_get (by rw [schA_len]; omega))) (by omega)) ?_
      refine XR.rd rfl rfl rfl (Reads.load_vecs (v := .int .u32 ((g (schA (bg bs) k) (16 + k - 2) : Nat) : Int)) k120 rfl hV (e := 120) (List.mem_of_getElem? (i := 0) rfl) (wC_get (by rw [schA_len]; omega))) ?_
      refine XR.rd rfl rfl rfl (Reads.shrn (s := 10) rfl rfl (by decide)) ?_
      refine XR.callp rfl rfl rfl en89 (rrot_any _ 17 _ (hw _) (by decide)) ⟨rfl, rfl, trivial⟩ (List.Sublist.refl _) ?_
      refine XR.callp rfl rfl rfl en89 (rrot_any _ 19 _ (hw _) (by decide)) ⟨rfl, rfl, trivial⟩ (List.Sublist.refl _) ?_
      refine XR.rd rfl rfl rfl (Reads.uxor rfl rfl rfl (rotr_lt (hw _)) (rotr_lt (hw _))) ?_
      rw [mix2]
      refine XR.rd rfl rfl rfl (Reads.uxor rfl rfl rfl (by repeat' first | assumption | with_reducible exact hw _ | with_reducible exact hvw _ | with_reducible exact hkr _ | with_reducible exact hsw _ | with_reducible exact hhw _ | with_reducible exact Go.Sh.mod_lt' _ | with_reducible apply Go.Sh.mix_lt | with_reducible apply Go.Sh.rotr_lt | with_reducible apply Go.Sh.xor_lt | with_reducible apply Go.Sh.and_lt | with_reducible apply Go.Sh.or_lt | with_reducible apply Go.Sh.div_lt' | with_reducible exact Nat.lt_of_lt_of_le (UInt8.toNat_lt _) (by decide) | with_reducible exact Nat.lt_of_lt_of_le (Go.Sh.bg_lt _ _) (by decide) | decide | omega) (by repeat' first | assumption | with_reducible exact hw _ | with_reducible exact hvw _ | with_reducible exact hkr _ | with_reducible exact hsw _ | with_reducible exact hhw _ | with_reducible exact Go.Sh.mod_lt' _ | with_reducible apply Go.Sh.mix_lt | with_reducible apply Go.Sh.rotr_lt | with_reducible apply Go.Sh.xor_lt | with_reducible apply Go.Sh.and_lt | with_reducible apply Go.Sh.or_lt | with_reducible apply Go.Sh.div_lt' | with_reducible exact Nat.lt_of_lt_of_le (UInt8.toNat_lt _) (by decide) | with_reducible exact Nat.lt_of_lt_of_le (Go.Sh.bg_lt _ _) (by decide) | decide | omega)) ?_
      refine XR.rd rfl rfl rfl (Reads.assign rfl) ?_
      refine XR.nil ?_
      refine XQ.then_normal ?_
      refine XC.weaken (E' := [(0, _), (5, _), (7, _), (8, _), (9, _)]) ⟨rfl, rfl, rfl, rfl, rfl, trivial⟩ ?_
      refine XC.draw m_mixed none (.pure 0 (.pure 1 (.pure 2 (.pure 3 (.pure 4 (.pure 6 (.pure 8 (.pure 9 (.pure 10 (.pure 11 (.pure 14 (.alt 5 (.pure 7 (.eff 12 (.pure 13 (.pure 15 (.eff 16 (.eff 17 (.pure 18 (.done)))))))) (.eff 12 (.eff 5 (.pure 7 (.pure 13 (.pure 15 (.eff 16 (.eff 17 (.pure 18 (.done))))))))))))))))))))) [] (by kernel_rfl) (List.nil_sublist _) ?_
      refine XR.rd rfl rfl rfl (Reads.move rfl) ?_
      refine XR.rd rfl rfl rfl (Reads.move rfl) ?_
      refine XR.rd rfl rfl rfl (Reads.move rfl) ?_
      refine XR.rd rfl rfl rfl (Reads.sub rfl rfl (by omega)) ?_
      refine XR.rd rfl rfl rfl (Reads.index_slot (q := 16 + k - 16) Tryd.underlying121 z120 rfl rfl (by omega) (vec_isSomes (k := 16 + k - 16) hV (wC_get (by rw [schA_len]; omega))) (by omega)) ?_
      refine XR.rd rfl rfl rfl (Reads.move rfl) ?_
      refine XR.rd rfl rfl rfl (Reads.move rfl) ?_
      refine XR.rd rfl rfl rfl (Reads.move rfl) ?_
      refine XR.rd rfl rfl rfl (Reads.sub rfl rfl (by omega)) ?_
      refine XR.rd rfl rfl rfl (Reads.index_slot (q := 16 + k - 7) Tryd.underlying121 z120 rfl rfl (by omega) (vec_isSomes (k := 16 + k - 7) hV (wC_get (by rw [schA_len]; omega))) (by omega)) ?_
      refine XR.rd rfl rfl rfl (Reads.move rfl) ?_
      refine XR.alt ?_ ?_
      · skip
        refine XR.rde rfl rfl rfl rfl (Reads.load_vecs (v := .int .u32 ((g (schA (bg bs) k) (16 + k - 16) : Nat) : Int)) k120 rfl hV (e := 120) (List.mem_of_getElem? (i := 0) rfl) (wC_get (by rw [schA_len]; omega))) (List.nil_sublist _) ?_
        refine XR.rd rfl rfl rfl (Reads.uadd rfl rfl rfl) ?_
        refine XR.rde rfl rfl rfl rfl (Reads.load_vecs (v := .int .u32 ((g (schA (bg bs) k) (16 + k - 7) : Nat) : Int)) k120 rfl hV (e := 120) (List.mem_of_getElem? (i := 0) rfl) (wC_get (by rw [schA_len]; omega))) (List.nil_sublist _) ?_
        refine XR.rd rfl rfl rfl (Reads.uadd rfl rfl rfl) ?_
        refine XR.rd rfl rfl rfl (Reads.uadd rfl rfl rfl) ?_
        refine XR.buildL [.int .u32 ((nxt (schA (bg bs) k) (16 + k) : Nat) : Int)] [.int .u32 ((nxt (schA (bg bs) k) (16 + k) : Nat) : Int)] rfl rfl rfl Tryd.underlying121 el120 rfl (by simp) ⟨rfl, rfl, trivial⟩ rfl rfl (List.nil_sublist _) (fun bu => ?_)
        refine XR.append (V := V) (news := wC [nxt (schA (bg bs) k) (16 + k)]) 1 rfl rfl rfl Tryd.underlying121 el120 rfl rfl hV rfl (.slice Tryd.underlying121 (readable_row 0 rfl rfl) rfl (wC_one _)) (by omega) (by omega) ?_
        intro V' hV' hVl'
        refine ⟨.inr (List.Sublist.cons _ (List.nil_sublist _)), ?_⟩
        refine XR.rd rfl rfl rfl (Reads.assign rfl) ?_
        refine XR.nil ?_
        refine XQ.block_normal ?_
        refine XQ.then_normal ?_
        refine XC.region ?_
        refine XO.rd rfl rfl rfl (Reads.move rfl) ?_
        refine XO.rd rfl rfl rfl (Reads.add rfl rfl (by omega)) ?_
        refine XO.rd rfl rfl rfl (Reads.assign rfl) ?_
        refine XO.nil ?_
        refine XQ.dropn 1 ?_
        rw [show ((16 + k : Nat) : Int) + 1 = ((16 + (k + 1) : Nat) : Int) by omega]
        refine XQ.back (k + 1, V') ⟨by simp only; omega, by rw [schA, wC_append]; exact hV'⟩ (by simp only; omega) ⟨rfl, rfl, rfl, trivial⟩ rfl (List.Perm.refl _)
      · skip
        refine XR.rde rfl rfl rfl rfl (Reads.load_vecs (v := .int .u32 ((g (schA (bg bs) k) (16 + k - 7) : Nat) : Int)) k120 rfl hV (e := 120) (List.mem_of_getElem? (i := 0) rfl) (wC_get (by rw [schA_len]; omega))) (List.nil_sublist _) ?_
        refine XR.rde rfl rfl rfl rfl (Reads.load_vecs (v := .int .u32 ((g (schA (bg bs) k) (16 + k - 16) : Nat) : Int)) k120 rfl hV (e := 120) (List.mem_of_getElem? (i := 0) rfl) (wC_get (by rw [schA_len]; omega))) (List.nil_sublist _) ?_
        refine XR.rd rfl rfl rfl (Reads.uadd rfl rfl rfl) ?_
        refine XR.rd rfl rfl rfl (Reads.uadd rfl rfl rfl) ?_
        refine XR.rd rfl rfl rfl (Reads.uadd rfl rfl rfl) ?_
        refine XR.buildL [.int .u32 ((nxt (schA (bg bs) k) (16 + k) : Nat) : Int)] [.int .u32 ((nxt (schA (bg bs) k) (16 + k) : Nat) : Int)] rfl rfl rfl Tryd.underlying121 el120 rfl (by simp) ⟨rfl, rfl, trivial⟩ rfl rfl (List.nil_sublist _) (fun bu => ?_)
        refine XR.append (V := V) (news := wC [nxt (schA (bg bs) k) (16 + k)]) 1 rfl rfl rfl Tryd.underlying121 el120 rfl rfl hV rfl (.slice Tryd.underlying121 (readable_row 0 rfl rfl) rfl (wC_one _)) (by omega) (by omega) ?_
        intro V' hV' hVl'
        refine ⟨.inr (List.Sublist.cons _ (List.nil_sublist _)), ?_⟩
        refine XR.rd rfl rfl rfl (Reads.assign rfl) ?_
        refine XR.nil ?_
        refine XQ.block_normal ?_
        refine XQ.then_normal ?_
        refine XC.region ?_
        refine XO.rd rfl rfl rfl (Reads.move rfl) ?_
        refine XO.rd rfl rfl rfl (Reads.add rfl rfl (by omega)) ?_
        refine XO.rd rfl rfl rfl (Reads.assign rfl) ?_
        refine XO.nil ?_
        refine XQ.dropn 1 ?_
        rw [show ((16 + k : Nat) : Int) + 1 = ((16 + (k + 1) : Nat) : Int) by omega]
        refine XQ.back (k + 1, V') ⟨by simp only; omega, by rw [schA, wC_append]; exact hV'⟩ (by simp only; omega) ⟨rfl, rfl, rfl, trivial⟩ rfl (List.Perm.refl _)
    · skip
      simp only [cmpInt, decide_eq_false_iff_not] at h2
      have hk48 : k = 48 := by omega
      subst hk48
      have hV : V.Is 1 (wC (sch (bg bs))) := hV
      refine XC.exit ?_
      refine XQ.then_exit ?_
      refine XQ.then_exit ?_
      refine XQ.block_exit ?_
      refine XQ.then_normal ?_
      refine XC.seq ?_
      refine XC.region ?_
      refine XO.callo (vs := []) (L1 := []) rfl rfl rfl en90 trivial (rcon_any _) (List.Perm.refl _) ?_
      rintro v' J' L' _ ⟨bk, rfl, hJ', rfl⟩
      replace hJ' := hJ'.symm
      subst hJ'
      refine XO.rd rfl rfl rfl (Reads.assign rfl) ?_
      refine XO.nil ?_
      refine XQ.then_normal ?_
      refine XC.seq ?_
      refine XC.region ?_
      refine XO.rd rfl rfl rfl (Reads.assign rfl) ?_
      refine XO.nil ?_
      refine XQ.then_normal ?_
      refine XC.seq ?_
      refine XC.region ?_
      refine XO.rd rfl rfl rfl (Reads.move rfl) ?_
      refine XO.rd rfl rfl rfl (Reads.move rfl) ?_
      refine XO.vec0 120 ?_
      have hnw := hH.words (P := Tryd.prog) (L := Vec.nil.ent 120 :: some (bk, .cells (wC KR).toArray 120 (0, 0)) :: V.ent 120 :: ([] ++ Lf)) (c := ch) Tryd.underlying121
      rw [hh] at hnw
      refine XO.append (V := Vec.nil) 0 rfl rfl Tryd.underlying121 el120 rfl rfl (Vec.nil_is 1) rfl hnw (by decide) (by decide) ?_
      intro Vv hv hvl
      refine XO.rd rfl rfl rfl (Reads.assign rfl) ?_
      refine XO.nil ?_
      refine XQ.then_normal ?_
      refine XC.seq ?_
      refine XC.seq ?_
      refine XC.region ?_
      refine XO.rd rfl rfl rfl (Reads.assign rfl) ?_
      refine XO.nil ?_
      refine XQ.then_normal ?_
      refine XC.block ?_
      refine XC.loop (ι := Nat × Vec) (fun q => [(0, .slice ah 8 ch), (5, V.val), (10, .slice (some ⟨bk, 0, none⟩) 64 64), (11, q.2.val), (12, .int .i64 q.1)]) (fun q => I) (fun q => q.2.ent 120 :: some (bk, .cells (wC KR).toArray 120 (0, 0)) :: V.ent 120 :: ([] ++ Lf)) (fun q => q.1 ≤ 64 ∧ q.2.Is 1 (wC (rnds (bg bs) h q.1))) (fun q => 64 - q.1) (0, Vv) ⟨Nat.zero_le _, hv⟩ ⟨rfl, rfl, rfl, rfl, rfl, trivial⟩ rfl (List.Perm.refl _) (fun q hq => ?_)
      clear hvl hv Vv
      obtain ⟨i, Vv⟩ := q
      obtain ⟨hi1, hv⟩ := hq
      simp only at hi1 hv ⊢
      have hv8 := rnds_len (b := bg bs) hh i
      have hvw := rnds_ws (b := bg bs) hhw i
      generalize hvv : rnds (bg bs) h i = v at hv hv8 hvw
      have Vvl : Vv.len = 8 := by have := hv.len; rw [wC_len] at this; omega
      refine XC.seq ?_
      refine XC.seq ?_
      refine XC.region ?_
      refine XO.rd rfl rfl rfl (Reads.move rfl) ?_
      refine XO.rd rfl rfl rfl (Reads.cmp rfl rfl rfl) ?_
      refine XO.nil ?_
      refine XQ.then_normal ?_
      refine XC.cond rfl (fun h3 => ?_) (fun h3 => ?_)
      · skip
        simp only [cmpInt, decide_eq_true_eq] at h3
        refine XC.skip ?_
        refine XQ.then_normal ?_
        refine XC.seq ?_
        refine XC.block ?_
        refine XC.seq ?_
        refine XC.region ?_
        refine XO.rd rfl rfl rfl (Reads.move rfl) ?_
        refine XO.rd rfl rfl rfl (Reads.index_slot (q := 0) Tryd.underlying121 z120 rfl rfl (by omega) (vec_isSomes (k := 0) hv (wC_get (by omega))) (by decide)) ?_
        refine XO.rd rfl rfl rfl (Reads.load_vecs (v := .int .u32 ((g v 0 : Nat) : Int)) k120 rfl hv (e := 120) (List.mem_of_getElem? (i := 0) rfl) (wC_get (by omega))) ?_
        refine XO.rd rfl rfl rfl (Reads.assign rfl) ?_
        refine XO.nil ?_
        refine XQ.then_normal ?_
        refine XC.seq ?_
        refine XC.region ?_
        refine XO.rd rfl rfl rfl (Reads.move rfl) ?_
        refine XO.rd rfl rfl rfl (Reads.index_slot (q := 4) Tryd.underlying121 z120 rfl rfl (by omega) (vec_isSomes (k := 4) hv (wC_get (by omega))) (by decide)) ?_
        refine XO.rd rfl rfl rfl (Reads.load_vecs (v := .int .u32 ((g v 4 : Nat) : Int)) k120 rfl hv (e := 120) (List.mem_of_getElem? (i := 0) rfl) (wC_get (by omega))) ?_
        refine XO.rd rfl rfl rfl (Reads.assign rfl) ?_
        refine XO.nil ?_
        refine XQ.then_normal ?_
        refine XC.seq ?_
        refine XC.draw m_mixed none (.pure 0 (.pure 1 (.pure 2 (.pure 3 (.pure 5 (.pure 8 (.pure 12 (.pure 13 (.pure 14 (.pure 15 (.pure 16 (.pure 17 (.pure 18 (.pure 19 (.pure 20 (.pure 21 (.pure 22 (.pure 23 (.pure 25 (.pure 26 (.pure 27 (.pure 28 (.pure 30 (.pure 31 (.pure 32 (.pure 33 (.eff 4 (.eff 6 (.pure 7 (.eff 9 (.pure 10 (.pure 11 (.pure 24 (.pure 29 (.pure 34 (.pure 35 (.done))))))))))))))))))))))))))))))))))))) _ (by kernel_rfl) (List.Sublist.refl _) ?_
        refine XR.rd rfl rfl rfl (Reads.move rfl) ?_
        refine XR.rd rfl rfl rfl (Reads.index_slot (q := 7) Tryd.underlying121 z120 rfl rfl (by omega) (vec_isSomes (k := 7) hv (wC_get (by omega))) (by decide)) ?_
        refine XR.rd rfl rfl rfl (Reads.load_vecs (v := .int .u32 ((g v 7 : Nat) : Int)) k120 rfl hv (e := 120) (List.mem_of_getElem? (i := 0) rfl) (wC_get (by omega))) ?_
        refine XR.rd rfl rfl rfl (Reads.move rfl) ?_
        refine XR.rd rfl rfl rfl (Reads.move rfl) ?_
        refine XR.rd rfl rfl rfl (Reads.move rfl) ?_
        refine XR.rd rfl rfl rfl (Reads.move rfl) ?_
        refine XR.rd rfl rfl rfl (Reads.move rfl) ?_
        refine XR.rd rfl rfl rfl (Reads.index_slot (q := 5) Tryd.underlying121 z120 rfl rfl (by omega) (vec_isSomes (k := 5) hv (wC_get (by omega))) (by decide)) ?_
        refine XR.rd rfl rfl rfl (Reads.load_vecs (v := .int .u32 ((g v 5 : Nat) : Int)) k120 rfl hv (e := 120) (List.mem_of_getElem? (i := 0) rfl) (wC_get (by omega))) ?_
        refine XR.rd rfl rfl rfl (Reads.uand rfl rfl rfl (by repeat' first | assumption | with_reducible exact hw _ | with_reducible exact hvw _ | with_reducible exact hkr _ | with_reducible exact hsw _ | with_reducible exact hhw _ | with_reducible exact Go.Sh.mod_lt' _ | with_reducible apply Go.Sh.mix_lt | with_reducible apply Go.Sh.rotr_lt | with_reducible apply Go.Sh.xor_lt | with_reducible apply Go.Sh.and_lt | with_reducible apply Go.Sh.or_lt | with_reducible apply Go.Sh.div_lt' | with_reducible exact Nat.lt_of_lt_of_le (UInt8.toNat_lt _) (by decide) | with_reducible exact Nat.lt_of_lt_of_le (Go.Sh.bg_lt _ _) (by decide) | decide | omega) (by repeat' first | assumption | with_reducible exact hw _ | with_reducible exact hvw _ | with_reducible exact hkr _ | with_reducible exact hsw _ | with_reducible exact hhw _ | with_reducible exact Go.Sh.mod_lt' _ | with_reducible apply Go.Sh.mix_lt | with_reducible apply Go.Sh.rotr_lt | with_reducible apply Go.Sh.xor_lt | with_reducible apply Go.Sh.and_lt | with_reducible apply Go.Sh.or_lt | with_reducible apply Go.Sh.div_lt' | with_reducible exact Nat.lt_of_lt_of_le (UInt8.toNat_lt _) (by decide) | with_reducible exact Nat.lt_of_lt_of_le (Go.Sh.bg_lt _ _) (by decide) | decide | omega)) ?_
        refine XR.rd rfl rfl rfl (Reads.move rfl) ?_
        refine XR.rd rfl rfl rfl (Reads.unot rfl rfl (by repeat' first | assumption | with_reducible exact hw _ | with_reducible exact hvw _ | with_reducible exact hkr _ | with_reducible exact hsw _ | with_reducible exact hhw _ | with_reducible exact Go.Sh.mod_lt' _ | with_reducible apply Go.Sh.mix_lt | with_reducible apply Go.Sh.rotr_lt | with_reducible apply Go.Sh.xor_lt | with_reducible apply Go.Sh.and_lt | with_reducible apply Go.Sh.or_lt | with_reducible apply Go.Sh.div_lt' | with_reducible exact Nat.lt_of_lt_of_le (UInt8.toNat_lt _) (by decide) | with_reducible exact Nat.lt_of_lt_of_le (Go.Sh.bg_lt _ _) (by decide) | decide | omega)) ?_
        refine XR.rd rfl rfl rfl (Reads.move rfl) ?_
        refine XR.rd rfl rfl rfl (Reads.index_slot (q := 6) Tryd.underlying121 z120 rfl rfl (by omega) (vec_isSomes (k := 6) hv (wC_get (by omega))) (by decide)) ?_
        refine XR.rd rfl rfl rfl (Reads.load_vecs (v := .int .u32 ((g v 6 : Nat) : Int)) k120 rfl hv (e := 120) (List.mem_of_getElem? (i := 0) rfl) (wC_get (by omega))) ?_
        refine XR.rd rfl rfl rfl (Reads.uand rfl rfl rfl (by repeat' first | assumption | with_reducible exact hw _ | with_reducible exact hvw _ | with_reducible exact hkr _ | with_reducible exact hsw _ | with_reducible exact hhw _ | with_reducible exact Go.Sh.mod_lt' _ | with_reducible apply Go.Sh.mix_lt | with_reducible apply Go.Sh.rotr_lt | with_reducible apply Go.Sh.xor_lt | with_reducible apply Go.Sh.and_lt | with_reducible apply Go.Sh.or_lt | with_reducible apply Go.Sh.div_lt' | with_reducible exact Nat.lt_of_lt_of_le (UInt8.toNat_lt _) (by decide) | with_reducible exact Nat.lt_of_lt_of_le (Go.Sh.bg_lt _ _) (by decide) | decide | omega) (by repeat' first | assumption | with_reducible exact hw _ | with_reducible exact hvw _ | with_reducible exact hkr _ | with_reducible exact hsw _ | with_reducible exact hhw _ | with_reducible exact Go.Sh.mod_lt' _ | with_reducible apply Go.Sh.mix_lt | with_reducible apply Go.Sh.rotr_lt | with_reducible apply Go.Sh.xor_lt | with_reducible apply Go.Sh.and_lt | with_reducible apply Go.Sh.or_lt | with_reducible apply Go.Sh.div_lt' | with_reducible exact Nat.lt_of_lt_of_le (UInt8.toNat_lt _) (by decide) | with_reducible exact Nat.lt_of_lt_of_le (Go.Sh.bg_lt _ _) (by decide) | decide | omega)) ?_
        refine XR.rd rfl rfl rfl (Reads.uxor rfl rfl rfl (by repeat' first | assumption | with_reducible exact hw _ | with_reducible exact hvw _ | with_reducible exact hkr _ | with_reducible exact hsw _ | with_reducible exact hhw _ | with_reducible exact Go.Sh.mod_lt' _ | with_reducible apply Go.Sh.mix_lt | with_reducible apply Go.Sh.rotr_lt | with_reducible apply Go.Sh.xor_lt | with_reducible apply Go.Sh.and_lt | with_reducible apply Go.Sh.or_lt | with_reducible apply Go.Sh.div_lt' | with_reducible exact Nat.lt_of_lt_of_le (UInt8.toNat_lt _) (by decide) | with_reducible exact Nat.lt_of_lt_of_le (Go.Sh.bg_lt _ _) (by decide) | decide | omega) (by repeat' first | assumption | with_reducible exact hw _ | with_reducible exact hvw _ | with_reducible exact hkr _ | with_reducible exact hsw _ | with_reducible exact hhw _ | with_reducible exact Go.Sh.mod_lt' _ | with_reducible apply Go.Sh.mix_lt | with_reducible apply Go.Sh.rotr_lt | with_reducible apply Go.Sh.xor_lt | with_reducible apply Go.Sh.and_lt | with_reducible apply Go.Sh.or_lt | with_reducible apply Go.Sh.div_lt' | with_reducible exact Nat.lt_of_lt_of_le (UInt8.toNat_lt _) (by decide) | with_reducible exact Nat.lt_of_lt_of_le (Go.Sh.bg_lt _ _) (by decide) | decide | omega)) ?_
        refine XR.rd rfl rfl rfl (Reads.move rfl) ?_
        refine XR.rd rfl rfl rfl (Reads.move rfl) ?_
        refine XR.rd rfl rfl rfl (Reads.index_own (q := i) Tryd.underlying121 z120 rfl rfl (by omega) (by omega)) ?_
        refine XR.rd rfl rfl rfl (Reads.load_own (v := .int .u32 ((g KR i : Nat) : Int)) k120 rfl (OwnAt.of 1 rfl (wC_g (by rw [KR_len]; omega)))) ?_
        refine XR.rd rfl rfl rfl (Reads.move rfl) ?_
        refine XR.rd rfl rfl rfl (Reads.move rfl) ?_
        refine XR.rd rfl rfl rfl (Reads.index_slot (q := i) Tryd.underlying121 z120 rfl rfl (by omega) (vec_isSomes (k := i) hV (wC_get (by rw [sch_len]; omega))) (by omega)) ?_
        refine XR.rd rfl rfl rfl (Reads.load_vecs (v := .int .u32 ((g (sch (bg bs)) i : Nat) : Int)) k120 rfl hV (e := 120) (List.mem_of_getElem? (i := 2) rfl) (wC_get (by rw [sch_len]; omega))) ?_
        refine XR.callp rfl rfl rfl en89 (rrot_any _ 6 _ (hvw _) (by decide)) ⟨rfl, rfl, trivial⟩ (List.Sublist.refl _) ?_
        refine XR.callp rfl rfl rfl en89 (rrot_any _ 11 _ (hvw _) (by decide)) ⟨rfl, rfl, trivial⟩ (List.Sublist.refl _) ?_
        refine XR.rd rfl rfl rfl (Reads.uxor rfl rfl rfl (by repeat' first | assumption | with_reducible exact hw _ | with_reducible exact hvw _ | with_reducible exact hkr _ | with_reducible exact hsw _ | with_reducible exact hhw _ | with_reducible exact Go.Sh.mod_lt' _ | with_reducible apply Go.Sh.mix_lt | with_reducible apply Go.Sh.rotr_lt | with_reducible apply Go.Sh.xor_lt | with_reducible apply Go.Sh.and_lt | with_reducible apply Go.Sh.or_lt | with_reducible apply Go.Sh.div_lt' | with_reducible exact Nat.lt_of_lt_of_le (UInt8.toNat_lt _) (by decide) | with_reducible exact Nat.lt_of_lt_of_le (Go.Sh.bg_lt _ _) (by decide) | decide | omega) (by repeat' first | assumption | with_reducible exact hw _ | with_reducible exact hvw _ | with_reducible exact hkr _ | with_reducible exact hsw _ | with_reducible exact hhw _ | with_reducible exact Go.Sh.mod_lt' _ | with_reducible apply Go.Sh.mix_lt | with_reducible apply Go.Sh.rotr_lt | with_reducible apply Go.Sh.xor_lt | with_reducible apply Go.Sh.and_lt | with_reducible apply Go.Sh.or_lt | with_reducible apply Go.Sh.div_lt' | with_reducible exact Nat.lt_of_lt_of_le (UInt8.toNat_lt _) (by decide) | with_reducible exact Nat.lt_of_lt_of_le (Go.Sh.bg_lt _ _) (by decide) | decide | omega)) ?_
        refine XR.callp rfl rfl rfl en89 (rrot_any _ 25 _ (hvw _) (by decide)) ⟨rfl, rfl, trivial⟩ (List.Sublist.refl _) ?_
        refine XR.rd rfl rfl rfl (Reads.uxor rfl rfl rfl (xor_lt (rotr_lt (hvw _)) (rotr_lt (hvw _))) (rotr_lt (hvw _))) ?_
        rw [mix3]
        refine XR.rd rfl rfl rfl (Reads.uadd rfl rfl rfl) ?_
        refine XR.rd rfl rfl rfl (Reads.uadd rfl rfl rfl) ?_
        refine XR.rd rfl rfl rfl (Reads.uadd rfl rfl rfl) ?_
        refine XR.rd rfl rfl rfl (Reads.uadd rfl rfl rfl) ?_
        show XR _ _ _ _ _ _ _ _ _ ((169, .int .u32 ((t1 v (g KR i) (g (sch (bg bs)) i) : Nat) : Int)) :: _) _ _ _
        refine XR.rd rfl rfl rfl (Reads.assign rfl) ?_
        refine XR.nil ?_
        refine XQ.then_normal ?_
        refine XC.seq ?_
        refine XC.weaken (E' := [(0, _), (5, _), (10, _), (11, _), (12, _), (13, _), (14, _), (15, _)]) ⟨rfl, rfl, rfl, rfl, rfl, rfl, rfl, rfl, trivial⟩ ?_
        refine XC.draw m_mixed none (.pure 0 (.pure 2 (.pure 5 (.pure 8 (.pure 9 (.pure 10 (.pure 11 (.pure 12 (.pure 13 (.pure 14 (.pure 15 (.pure 16 (.pure 17 (.pure 18 (.pure 19 (.pure 20 (.pure 21 (.pure 22 (.pure 23 (.pure 24 (.pure 25 (.pure 26 (.eff 1 (.eff 3 (.pure 4 (.eff 6 (.pure 7 (.pure 27 (.pure 28 (.done)))))))))))))))))))))))))))))) _ (by kernel_rfl) (List.Sublist.refl _) ?_
        refine XR.rd rfl rfl rfl (Reads.move rfl) ?_
        refine XR.rd rfl rfl rfl (Reads.move rfl) ?_
        refine XR.rd rfl rfl rfl (Reads.move rfl) ?_
        refine XR.rd rfl rfl rfl (Reads.move rfl) ?_
        refine XR.rd rfl rfl rfl (Reads.move rfl) ?_
        refine XR.rd rfl rfl rfl (Reads.index_slot (q := 1) Tryd.underlying121 z120 rfl rfl (by omega) (vec_isSomes (k := 1) hv (wC_get (by omega))) (by decide)) ?_
        refine XR.rd rfl rfl rfl (Reads.load_vecs (v := .int .u32 ((g v 1 : Nat) : Int)) k120 rfl hv (e := 120) (List.mem_of_getElem? (i := 0) rfl) (wC_get (by omega))) ?_
        refine XR.rd rfl rfl rfl (Reads.uand rfl rfl rfl (by repeat' first | assumption | with_reducible exact hw _ | with_reducible exact hvw _ | with_reducible exact hkr _ | with_reducible exact hsw _ | with_reducible exact hhw _ | with_reducible exact Go.Sh.mod_lt' _ | with_reducible apply Go.Sh.mix_lt | with_reducible apply Go.Sh.rotr_lt | with_reducible apply Go.Sh.xor_lt | with_reducible apply Go.Sh.and_lt | with_reducible apply Go.Sh.or_lt | with_reducible apply Go.Sh.div_lt' | with_reducible exact Nat.lt_of_lt_of_le (UInt8.toNat_lt _) (by decide) | with_reducible exact Nat.lt_of_lt_of_le (Go.Sh.bg_lt _ _) (by decide) | decide | omega) (by repeat' first | assumption | with_reducible exact hw _ | with_reducible exact hvw _ | with_reducible exact hkr _ | with_reducible exact hsw _ | with_reducible exact hhw _ | with_reducible exact Go.Sh.mod_lt' _ | with_reducible apply Go.Sh.mix_lt | with_reducible apply Go.Sh.rotr_lt | with_reducible apply Go.Sh.xor_lt | with_reducible apply Go.Sh.and_lt | with_reducible apply Go.Sh.or_lt | with_reducible apply Go.Sh.div_lt' | with_reducible exact Nat.lt_of_lt_of_le (UInt8.toNat_lt _) (by decide) | with_reducible exact Nat.lt_of_lt_of_le (Go.Sh.bg_lt _ _) (by decide) | decide | omega)) ?_
        refine XR.rd rfl rfl rfl (Reads.move rfl) ?_
        refine XR.rd rfl rfl rfl (Reads.move rfl) ?_
        refine XR.rd rfl rfl rfl (Reads.index_slot (q := 2) Tryd.underlying121 z120 rfl rfl (by omega) (vec_isSomes (k := 2) hv (wC_get (by omega))) (by decide)) ?_
        refine XR.rd rfl rfl rfl (Reads.load_vecs (v := .int .u32 ((g v 2 : Nat) : Int)) k120 rfl hv (e := 120) (List.mem_of_getElem? (i := 0) rfl) (wC_get (by omega))) ?_
        refine XR.rd rfl rfl rfl (Reads.uand rfl rfl rfl (by repeat' first | assumption | with_reducible exact hw _ | with_reducible exact hvw _ | with_reducible exact hkr _ | with_reducible exact hsw _ | with_reducible exact hhw _ | with_reducible exact Go.Sh.mod_lt' _ | with_reducible apply Go.Sh.mix_lt | with_reducible apply Go.Sh.rotr_lt | with_reducible apply Go.Sh.xor_lt | with_reducible apply Go.Sh.and_lt | with_reducible apply Go.Sh.or_lt | with_reducible apply Go.Sh.div_lt' | with_reducible exact Nat.lt_of_lt_of_le (UInt8.toNat_lt _) (by decide) | with_reducible exact Nat.lt_of_lt_of_le (Go.Sh.bg_lt _ _) (by decide) | decide | omega) (by repeat' first | assumption | with_reducible exact hw _ | with_reducible exact hvw _ | with_reducible exact hkr _ | with_reducible exact hsw _ | with_reducible exact hhw _ | with_reducible exact Go.Sh.mod_lt' _ | with_reducible apply Go.Sh.mix_lt | with_reducible apply Go.Sh.rotr_lt | with_reducible apply Go.Sh.xor_lt | with_reducible apply Go.Sh.and_lt | with_reducible apply Go.Sh.or_lt | with_reducible apply Go.Sh.div_lt' | with_reducible exact Nat.lt_of_lt_of_le (UInt8.toNat_lt _) (by decide) | with_reducible exact Nat.lt_of_lt_of_le (Go.Sh.bg_lt _ _) (by decide) | decide | omega)) ?_
        refine XR.rd rfl rfl rfl (Reads.uxor rfl rfl rfl (by repeat' first | assumption | with_reducible exact hw _ | with_reducible exact hvw _ | with_reducible exact hkr _ | with_reducible exact hsw _ | with_reducible exact hhw _ | with_reducible exact Go.Sh.mod_lt' _ | with_reducible apply Go.Sh.mix_lt | with_reducible apply Go.Sh.rotr_lt | with_reducible apply Go.Sh.xor_lt | with_reducible apply Go.Sh.and_lt | with_reducible apply Go.Sh.or_lt | with_reducible apply Go.Sh.div_lt' | with_reducible exact Nat.lt_of_lt_of_le (UInt8.toNat_lt _) (by decide) | with_reducible exact Nat.lt_of_lt_of_le (Go.Sh.bg_lt _ _) (by decide) | decide | omega) (by repeat' first | assumption | with_reducible exact hw _ | with_reducible exact hvw _ | with_reducible exact hkr _ | with_reducible exact hsw _ | with_reducible exact hhw _ | with_reducible exact Go.Sh.mod_lt' _ | with_reducible apply Go.Sh.mix_lt | with_reducible apply Go.Sh.rotr_lt | with_reducible apply Go.Sh.xor_lt | with_reducible apply Go.Sh.and_lt | with_reducible apply Go.Sh.or_lt | with_reducible apply Go.Sh.div_lt' | with_reducible exact Nat.lt_of_lt_of_le (UInt8.toNat_lt _) (by decide) | with_reducible exact Nat.lt_of_lt_of_le (Go.Sh.bg_lt _ _) (by decide) | decide | omega)) ?_
        refine XR.rd rfl rfl rfl (Reads.move rfl) ?_
        refine XR.rd rfl rfl rfl (Reads.index_slot (q := 1) Tryd.underlying121 z120 rfl rfl (by omega) (vec_isSomes (k := 1) hv (wC_get (by omega))) (by decide)) ?_
        refine XR.rd rfl rfl rfl (Reads.load_vecs (v := .int .u32 ((g v 1 : Nat) : Int)) k120 rfl hv (e := 120) (List.mem_of_getElem? (i := 0) rfl) (wC_get (by omega))) ?_
        refine XR.rd rfl rfl rfl (Reads.move rfl) ?_
        refine XR.rd rfl rfl rfl (Reads.index_slot (q := 2) Tryd.underlying121 z120 rfl rfl (by omega) (vec_isSomes (k := 2) hv (wC_get (by omega))) (by decide)) ?_
        refine XR.rd rfl rfl rfl (Reads.load_vecs (v := .int .u32 ((g v 2 : Nat) : Int)) k120 rfl hv (e := 120) (List.mem_of_getElem? (i := 0) rfl) (wC_get (by omega))) ?_
        refine XR.rd rfl rfl rfl (Reads.uand rfl rfl rfl (by repeat' first | assumption | with_reducible exact hw _ | with_reducible exact hvw _ | with_reducible exact hkr _ | with_reducible exact hsw _ | with_reducible exact hhw _ | with_reducible exact Go.Sh.mod_lt' _ | with_reducible apply Go.Sh.mix_lt | with_reducible apply Go.Sh.rotr_lt | with_reducible apply Go.Sh.xor_lt | with_reducible apply Go.Sh.and_lt | with_reducible apply Go.Sh.or_lt | with_reducible apply Go.Sh.div_lt' | with_reducible exact Nat.lt_of_lt_of_le (UInt8.toNat_lt _) (by decide) | with_reducible exact Nat.lt_of_lt_of_le (Go.Sh.bg_lt _ _) (by decide) | decide | omega) (by repeat' first | assumption | with_reducible exact hw _ | with_reducible exact hvw _ | with_reducible exact hkr _ | with_reducible exact hsw _ | with_reducible exact hhw _ | with_reducible exact Go.Sh.mod_lt' _ | with_reducible apply Go.Sh.mix_lt | with_reducible apply Go.Sh.rotr_lt | with_reducible apply Go.Sh.xor_lt | with_reducible apply Go.Sh.and_lt | with_reducible apply Go.Sh.or_lt | with_reducible apply Go.Sh.div_lt' | with_reducible exact Nat.lt_of_lt_of_le (UInt8.toNat_lt _) (by decide) | with_reducible exact Nat.lt_of_lt_of_le (Go.Sh.bg_lt _ _) (by decide) | decide | omega)) ?_
        refine XR.rd rfl rfl rfl (Reads.uxor rfl rfl rfl (by repeat' first | assumption | with_reducible exact hw _ | with_reducible exact hvw _ | with_reducible exact hkr _ | with_reducible exact hsw _ | with_reducible exact hhw _ | with_reducible exact Go.Sh.mod_lt' _ | with_reducible apply Go.Sh.mix_lt | with_reducible apply Go.Sh.rotr_lt | with_reducible apply Go.Sh.xor_lt | with_reducible apply Go.Sh.and_lt | with_reducible apply Go.Sh.or_lt | with_reducible apply Go.Sh.div_lt' | with_reducible exact Nat.lt_of_lt_of_le (UInt8.toNat_lt _) (by decide) | with_reducible exact Nat.lt_of_lt_of_le (Go.Sh.bg_lt _ _) (by decide) | decide | omega) (by repeat' first | assumption | with_reducible exact hw _ | with_reducible exact hvw _ | with_reducible exact hkr _ | with_reducible exact hsw _ | with_reducible exact hhw _ | with_reducible exact Go.Sh.mod_lt' _ | with_reducible apply Go.Sh.mix_lt | with_reducible apply Go.Sh.rotr_lt | with_reducible apply Go.Sh.xor_lt | with_reducible apply Go.Sh.and_lt | with_reducible apply Go.Sh.or_lt | with_reducible apply Go.Sh.div_lt' | with_reducible exact Nat.lt_of_lt_of_le (UInt8.toNat_lt _) (by decide) | with_reducible exact Nat.lt_of_lt_of_le (Go.Sh.bg_lt _ _) (by decide) | decide | omega)) ?_
        refine XR.callp rfl rfl rfl en89 (rrot_any _ 2 _ (hvw _) (by decide)) ⟨rfl, rfl, trivial⟩ (List.Sublist.refl _) ?_
        refine XR.callp rfl rfl rfl en89 (rrot_any _ 13 _ (hvw _) (by decide)) ⟨rfl, rfl, trivial⟩ (List.Sublist.refl _) ?_
        refine XR.rd rfl rfl rfl (Reads.uxor rfl rfl rfl (by repeat' first | assumption | with_reducible exact hw _ | with_reducible exact hvw _ | with_reducible exact hkr _ | with_reducible exact hsw _ | with_reducible exact hhw _ | with_reducible exact Go.Sh.mod_lt' _ | with_reducible apply Go.Sh.mix_lt | with_reducible apply Go.Sh.rotr_lt | with_reducible apply Go.Sh.xor_lt | with_reducible apply Go.Sh.and_lt | with_reducible apply Go.Sh.or_lt | with_reducible apply Go.Sh.div_lt' | with_reducible exact Nat.lt_of_lt_of_le (UInt8.toNat_lt _) (by decide) | with_reducible exact Nat.lt_of_lt_of_le (Go.Sh.bg_lt _ _) (by decide) | decide | omega) (by repeat' first | assumption | with_reducible exact hw _ | with_reducible exact hvw _ | with_reducible exact hkr _ | with_reducible exact hsw _ | with_reducible exact hhw _ | with_reducible exact Go.Sh.mod_lt' _ | with_reducible apply Go.Sh.mix_lt | with_reducible apply Go.Sh.rotr_lt | with_reducible apply Go.Sh.xor_lt | with_reducible apply Go.Sh.and_lt | with_reducible apply Go.Sh.or_lt | with_reducible apply Go.Sh.div_lt' | with_reducible exact Nat.lt_of_lt_of_le (UInt8.toNat_lt _) (by decide) | with_reducible exact Nat.lt_of_lt_of_le (Go.Sh.bg_lt _ _) (by decide) | decide | omega)) ?_
        refine XR.callp rfl rfl rfl en89 (rrot_any _ 22 _ (hvw _) (by decide)) ⟨rfl, rfl, trivial⟩ (List.Sublist.refl _) ?_
        refine XR.rd rfl rfl rfl (Reads.uxor rfl rfl rfl (xor_lt (rotr_lt (hvw _)) (rotr_lt (hvw _))) (rotr_lt (hvw _))) ?_
        rw [mix3]
        refine XR.rd rfl rfl rfl (Reads.uadd rfl rfl rfl) ?_
        show XR _ _ _ _ _ _ _ _ _ ((197, .int .u32 ((t2 v : Nat) : Int)) :: _) _ _ _
        refine XR.rd rfl rfl rfl (Reads.assign rfl) ?_
        refine XR.nil ?_
        refine XQ.then_normal ?_
        refine XC.draw m_mixed none (.pure 0 (.pure 1 (.pure 2 (.pure 3 (.pure 4 (.pure 5 (.pure 6 (.pure 7 (.pure 8 (.pure 9 (.pure 10 (.pure 11 (.pure 12 (.pure 13 (.pure 14 (.pure 15 (.pure 16 (.pure 17 (.pure 18 (.pure 19 (.pure 20 (.pure 21 (.eff 22 (.pure 23 (.done))))))))))))))))))))))))) _ (by kernel_rfl) (List.Sublist.refl _) ?_
        refine XR.rd rfl rfl rfl (Reads.move rfl) ?_
        refine XR.rd rfl rfl rfl (Reads.move rfl) ?_
        refine XR.rd rfl rfl rfl (Reads.uadd rfl rfl rfl) ?_
        refine XR.rd rfl rfl rfl (Reads.move rfl) ?_
        refine XR.rd rfl rfl rfl (Reads.move rfl) ?_
        refine XR.rd rfl rfl rfl (Reads.index_slot (q := 1) Tryd.underlying121 z120 rfl rfl (by omega) (vec_isSomes (k := 1) hv (wC_get (by omega))) (by decide)) ?_
        refine XR.rd rfl rfl rfl (Reads.load_vecs (v := .int .u32 ((g v 1 : Nat) : Int)) k120 rfl hv (e := 120) (List.mem_of_getElem? (i := 0) rfl) (wC_get (by omega))) ?_
        refine XR.rd rfl rfl rfl (Reads.move rfl) ?_
        refine XR.rd rfl rfl rfl (Reads.index_slot (q := 2) Tryd.underlying121 z120 rfl rfl (by omega) (vec_isSomes (k := 2) hv (wC_get (by omega))) (by decide)) ?_
        refine XR.rd rfl rfl rfl (Reads.load_vecs (v := .int .u32 ((g v 2 : Nat) : Int)) k120 rfl hv (e := 120) (List.mem_of_getElem? (i := 0) rfl) (wC_get (by omega))) ?_
        refine XR.rd rfl rfl rfl (Reads.move rfl) ?_
        refine XR.rd rfl rfl rfl (Reads.index_slot (q := 3) Tryd.underlying121 z120 rfl rfl (by omega) (vec_isSomes (k := 3) hv (wC_get (by omega))) (by decide)) ?_
        refine XR.rd rfl rfl rfl (Reads.load_vecs (v := .int .u32 ((g v 3 : Nat) : Int)) k120 rfl hv (e := 120) (List.mem_of_getElem? (i := 0) rfl) (wC_get (by omega))) ?_
        refine XR.rd rfl rfl rfl (Reads.move rfl) ?_
        refine XR.rd rfl rfl rfl (Reads.uadd rfl rfl rfl) ?_
        refine XR.rd rfl rfl rfl (Reads.move rfl) ?_
        refine XR.rd rfl rfl rfl (Reads.move rfl) ?_
        refine XR.rd rfl rfl rfl (Reads.index_slot (q := 5) Tryd.underlying121 z120 rfl rfl (by omega) (vec_isSomes (k := 5) hv (wC_get (by omega))) (by decide)) ?_
        refine XR.rd rfl rfl rfl (Reads.load_vecs (v := .int .u32 ((g v 5 : Nat) : Int)) k120 rfl hv (e := 120) (List.mem_of_getElem? (i := 0) rfl) (wC_get (by omega))) ?_
        refine XR.rd rfl rfl rfl (Reads.move rfl) ?_
        refine XR.rd rfl rfl rfl (Reads.index_slot (q := 6) Tryd.underlying121 z120 rfl rfl (by omega) (vec_isSomes (k := 6) hv (wC_get (by omega))) (by decide)) ?_
        refine XR.rd rfl rfl rfl (Reads.load_vecs (v := .int .u32 ((g v 6 : Nat) : Int)) k120 rfl hv (e := 120) (List.mem_of_getElem? (i := 0) rfl) (wC_get (by omega))) ?_
        refine XR.buildL (wC (rnd v (g KR i) (g (sch (bg bs)) i))) (wC (rnd v (g KR i) (g (sch (bg bs)) i))) rfl rfl rfl Tryd.underlying121 el120 rfl (by simp [wC, rnd]) ⟨rfl, rfl, rfl, rfl, rfl, rfl, rfl, rfl, rfl, rfl, rfl, rfl, rfl, rfl, rfl, rfl, trivial⟩ rfl rfl (List.Sublist.refl _) (fun bv => ?_)
        refine XR.rd rfl rfl rfl (Reads.assign rfl) ?_
        refine XR.nil ?_
        refine XQ.block_normal ?_
        refine XQ.then_normal ?_
        refine XC.weaken (E' := [(0, _), (5, _), (10, _), (11, _), (12, _)]) ⟨rfl, rfl, rfl, rfl, rfl, trivial⟩ ?_
        refine XC.region ?_
        refine XO.rd rfl rfl rfl (Reads.move rfl) ?_
        refine XO.rd rfl rfl rfl (Reads.add rfl rfl (by omega)) ?_
        refine XO.rd rfl rfl rfl (Reads.assign rfl) ?_
        refine XO.nil ?_
        refine XQ.drop (L' := (⟨some (bv, (wC (rnd v (g KR i) (g (sch (bg bs)) i))).toArray), (wC (rnd v (g KR i) (g (sch (bg bs)) i))).length, (wC (rnd v (g KR i) (g (sch (bg bs)) i))).length⟩ : Vec).ent 120 :: some (bk, .cells (wC KR).toArray 120 (0, 0)) :: V.ent 120 :: ([] ++ Lf)) (List.Sublist.cons_cons _ (List.Sublist.cons _ (List.Sublist.refl _))) ?_
        refine XQ.back (i + 1, ⟨some (bv, (wC (rnd v (g KR i) (g (sch (bg bs)) i))).toArray), (wC (rnd v (g KR i) (g (sch (bg bs)) i))).length, (wC (rnd v (g KR i) (g (sch (bg bs)) i))).length⟩) ⟨by simp only; omega, by rw [rnds_succ, hvv]; exact Vec.ofRow _ _⟩ (by simp only; omega) ⟨rfl, rfl, rfl, rfl, rfl, trivial⟩ rfl (List.Perm.refl _)
      · skip
        simp only [cmpInt, decide_eq_false_iff_not] at h3
        have hi64 : i = 64 := by omega
        subst hi64
        subst hvv
        refine XC.exit ?_
        refine XQ.then_exit ?_
        refine XQ.then_exit ?_
        refine XQ.block_exit ?_
        refine XQ.then_normal ?_
        refine XC.seq ?_
        refine XC.region ?_
        refine XO.rd rfl rfl rfl (Reads.assign rfl) ?_
        refine XO.nil ?_
        refine XQ.then_normal ?_
        refine XC.seq ?_
        refine XC.seq ?_
        refine XC.region ?_
        refine XO.rd rfl rfl rfl (Reads.assign rfl) ?_
        refine XO.nil ?_
        refine XQ.then_normal ?_
        refine XC.block ?_
        refine XC.drop (L' := Vv.ent 120 :: ([] ++ Lf)) (List.Sublist.cons_cons _ (List.Sublist.cons _ (List.Sublist.cons _ (List.Sublist.refl _)))) ?_
        refine XC.vec0 120 ?_
        refine XC.loop (ι := Nat × Vec) (fun q => [(0, .slice ah 8 ch), (11, Vv.val), (17, q.2.val), (18, .int .i64 q.1)]) (fun q => I) (fun q => q.2.ent 120 :: Vv.ent 120 :: ([] ++ Lf)) (fun q => q.1 ≤ 8 ∧ q.2.Is 1 (wC (compO h (rnds (bg bs) h 64) q.1))) (fun q => 8 - q.1) (0, Vec.nil) ⟨Nat.zero_le _, Vec.nil_is 1⟩ ⟨rfl, rfl, rfl, rfl, trivial⟩ rfl (List.Perm.refl _) (fun q hq => ?_)
        obtain ⟨i, Vo⟩ := q
        obtain ⟨hi1, hVo⟩ := hq
        simp only at hi1 hVo ⊢
        have Vol : Vo.len = i := by have := hVo.len; rw [wC_len] at this; simp only [compO_len] at this; omega
        refine XC.seq ?_
        refine XC.seq ?_
        refine XC.region ?_
        refine XO.rd rfl rfl rfl (Reads.move rfl) ?_
        refine XO.rd rfl rfl rfl (Reads.cmp rfl rfl rfl) ?_
        refine XO.nil ?_
        refine XQ.then_normal ?_
        refine XC.cond rfl (fun h4 => ?_) (fun h4 => ?_)
        · skip
          simp only [cmpInt, decide_eq_true_eq] at h4
          refine XC.skip ?_
          refine XQ.then_normal ?_
          refine XC.seq ?_
          refine XC.block ?_
          refine XC.draw m_mixed none (.pure 0 (.pure 1 (.pure 2 (.pure 3 (.pure 4 (.pure 5 (.pure 6 (.pure 7 (.pure 8 (.pure 9 (.eff 10 (.eff 11 (.pure 12 (.done)))))))))))))) [Vv.ent 120] (by kernel_rfl) (List.Sublist.cons _ (List.Sublist.cons_cons _ (List.nil_sublist _))) ?_
          refine XR.rd rfl rfl rfl (Reads.move rfl) ?_
          refine XR.rd rfl rfl rfl (Reads.move rfl) ?_
          refine XR.rd rfl rfl rfl (Reads.move rfl) ?_
          refine XR.rd rfl rfl rfl (Reads.index_slot (q := i) Tryd.underlying121 z120 rfl rfl (by omega) (hH.isSome (by decide) (by omega)) (by omega)) ?_
          refine XR.rd rfl rfl rfl (Reads.load_at k120 rfl (hH.g_at (j := i) (by omega) rfl)) ?_
          refine XR.rd rfl rfl rfl (Reads.move rfl) ?_
          refine XR.rd rfl rfl rfl (Reads.move rfl) ?_
          refine XR.rd rfl rfl rfl (Reads.index_slot (q := i) Tryd.underlying121 z120 rfl rfl (by omega) (vec_isSomes (k := i) hv (wC_get (by omega))) (by omega)) ?_
          refine XR.rd rfl rfl rfl (Reads.load_vecs (v := .int .u32 ((g (rnds (bg bs) h 64) i : Nat) : Int)) k120 rfl hv (e := 120) (List.mem_of_getElem? (i := 0) rfl) (wC_get (by omega))) ?_
          refine XR.rd rfl rfl rfl (Reads.uadd rfl rfl rfl) ?_
          refine XR.buildL [.int .u32 (((g h i + g (rnds (bg bs) h 64) i) % 4294967296 : Nat) : Int)] [.int .u32 (((g h i + g (rnds (bg bs) h 64) i) % 4294967296 : Nat) : Int)] rfl rfl rfl Tryd.underlying121 el120 rfl (by simp) ⟨rfl, rfl, trivial⟩ rfl rfl (List.Sublist.cons _ (List.Sublist.cons_cons _ (List.nil_sublist _))) (fun bu => ?_)
          refine XR.append (V := Vo) (news := wC [(g h i + g (rnds (bg bs) h 64) i) % 4294967296]) 1 rfl rfl rfl Tryd.underlying121 el120 rfl rfl hVo rfl (.slice Tryd.underlying121 (readable_row 0 rfl rfl) rfl (wC_one _)) (by omega) (by omega) ?_
          intro V' hV' hVl'
          refine ⟨.inr (List.Sublist.cons _ (List.Sublist.cons _ (List.Sublist.cons_cons _ (List.nil_sublist _)))), ?_⟩
          refine XR.rd rfl rfl rfl (Reads.assign rfl) ?_
          refine XR.nil ?_
          refine XQ.block_normal ?_
          refine XQ.then_normal ?_
          refine XC.region ?_
          refine XO.rd rfl rfl rfl (Reads.move rfl) ?_
          refine XO.rd rfl rfl rfl (Reads.add rfl rfl (by omega)) ?_
          refine XO.rd rfl rfl rfl (Reads.assign rfl) ?_
          refine XO.nil ?_
          refine XQ.dropn 1 ?_
          refine XQ.back (i + 1, V') ⟨by simp only; omega, by rw [compO_succ, wC_append]; exact hV'⟩ (by simp only; omega) ⟨rfl, rfl, rfl, rfl, trivial⟩ rfl (List.Perm.refl _)
        · skip
          simp only [cmpInt, decide_eq_false_iff_not] at h4
          have hi8 : i = 8 := by omega
          subst hi8
          refine XC.exit ?_
          refine XQ.then_exit ?_
          refine XQ.then_exit ?_
          refine XQ.block_exit ?_
          refine XQ.then_normal ?_
          refine XC.seq ?_
          refine XC.region ?_
          refine XO.rd rfl rfl rfl (Reads.move rfl) ?_
          refine XO.rd rfl rfl rfl (Reads.assign rfl) ?_
          refine XO.nil ?_
          refine XQ.then_normal ?_
          refine XC.ret ?_
          refine XQ.give_vec (fun hb => ?_)
          refine XQ.dropn 1 ?_
          refine XQ.done1 (L := []) rfl rfl (Vec.le_give hb) ?_
          refine ⟨rfl, Vo.addr, Vo.cap, by rw [Vec.val, Vol], ?_⟩
          exact (Vec.sl (α := Nat) (by decide) hVo (flat_words I _) hb).2.arr.1

end Go.Proofs.YtmlliafhpbfdbaaDoor
namespace Go.Proofs.YtmlliafhpbfdbaaDoor
open Go.Xe Go.Sh Go

theorem rsum_all (s : ByteArray) (I : Im) (hs : s.size ≤ 1000000000) : FC Tryd.prog 61 [.string s] I (fun u _I' => u = .string (sha s)) := by
  have hsz : s.size = s.data.toList.length := by simp
  have hpl := pad_len s.data.toList
  have hpm := pad_mod s.data.toList
  have hzc : zc s.data.toList.length < 64 := Nat.mod_lt _ (by decide)
  refine FSo.intro (n := 56) Tryd.func61 rfl rfl rfl (fun K Lf => ?_)
  refine XC.seq ?_
  refine XC.region ?_
  refine XO.rd rfl rfl rfl (Reads.assign rfl) ?_
  refine XO.nil ?_
  refine XQ.then_normal ?_
  refine XC.seq ?_
  refine XC.region ?_
  refine XO.lit (α := Nat) H0 (wC H0) (wC H0) rfl rfl Tryd.underlying121 el120 rfl (by decide) ⟨rfl, rfl, rfl, rfl, rfl, rfl, rfl, rfl, rfl, rfl, rfl, rfl, rfl, rfl, rfl, rfl, trivial⟩ rfl rfl (by decide) rfl (flat_words _ _) (fun bl J1 hle1 hsl => ?_)
  refine XO.rd rfl rfl rfl (Reads.assign rfl) ?_
  refine XO.nil ?_
  refine XQ.then_normal ?_
  refine XC.seq ?_
  refine XC.region ?_
  refine XO.rd rfl rfl rfl (Reads.move rfl) ?_
  refine XO.callo (vs := [_]) (L1 := []) rfl rfl rfl en82 ⟨rfl, trivial⟩ (rext_any s _ hs) (List.Perm.refl _) ?_
  rintro v' J' L' _ ⟨V, rfl, hJ', rfl, hV⟩
  replace hJ' := hJ'.symm
  subst hJ'
  refine XO.rd rfl rfl rfl (Reads.assign rfl) ?_
  refine XO.nil ?_
  refine XQ.then_normal ?_
  refine XC.seq ?_
  refine XC.seq ?_
  refine XC.region ?_
  have hVl : V.len = (pad s.data.toList).length := by have := hV.len; rw [byteC_len] at this; omega
  have hVc := hV.le
  refine XO.vec_done (α := UInt8) (by decide) hV (flat_byte _ _) (fun J2 hle2 hP => ?_)
  refine XO.rd rfl rfl rfl (Reads.assign rfl) ?_
  refine XO.nil ?_
  refine XQ.then_normal ?_
  refine XC.block ?_
  refine XC.loop (ι := Nat × Im × Option Addr × Nat) (fun q => [(3, .slice q.2.2.1 8 q.2.2.2), (4, V.val), (5, .int .i64 ((64 * q.1 : Nat) : Int))]) (fun q => q.2.1) (fun q => [] ++ Lf) (fun q => q.1 ≤ ((pad s.data.toList).length / 64) ∧ J2.le q.2.1 ∧ Arr q.2.1 q.2.2.1 (blocks (pad s.data.toList) q.1)) (fun q => ((pad s.data.toList).length / 64) - q.1) (0, J2, some ⟨bl, 0, none⟩, 8) ⟨Nat.zero_le _, Im.le_refl _, hsl.arr.1.mono hle2⟩ ⟨rfl, rfl, rfl, trivial⟩ rfl (List.Perm.refl _) (fun q hq => ?_)
  obtain ⟨j, J, a, c⟩ := q
  obtain ⟨hj1, hle, hH⟩ := hq
  simp only at hj1 hle hH ⊢
  refine XC.seq ?_
  refine XC.seq ?_
  refine XC.region ?_
  refine XO.rd rfl rfl rfl (Reads.move rfl) ?_
  refine XO.rd rfl rfl rfl (Reads.move rfl) ?_
  refine XO.rd rfl rfl rfl (Reads.len_slice Tryd.underlying98 rfl) ?_
  refine XO.rd rfl rfl rfl (Reads.cmp rfl rfl rfl) ?_
  refine XO.nil ?_
  refine XQ.then_normal ?_
  refine XC.cond rfl (fun h1 => ?_) (fun h1 => ?_)
  · skip
    simp only [cmpInt, decide_eq_true_eq] at h1
    have hjR : j < ((pad s.data.toList).length / 64) := by omega
    refine XC.skip ?_
    refine XQ.then_normal ?_
    refine XC.seq ?_
    refine XC.block ?_
    refine XC.region ?_
    refine XO.rd rfl rfl rfl (Reads.move rfl) ?_
    refine XO.rd rfl rfl rfl (Reads.move rfl) ?_
    refine XO.rd rfl rfl rfl (Reads.move rfl) ?_
    refine XO.rd rfl rfl rfl (Reads.move rfl) ?_
    refine XO.rd rfl rfl rfl (Reads.add rfl rfl (by omega)) ?_
    rw [show ((64 * j : Nat) : Int) + 64 = ((64 * j + 64 : Nat) : Int) by omega]
    refine XO.rd rfl rfl rfl (Reads.slice_gen (64 * j) (64 * j + 64) V.cap Tryd.underlying98 z5 rfl ⟨_, rfl⟩ ⟨_, rfl⟩ rfl (fun h => by cases h) (by omega) (by omega) (by omega)) ?_
    rw [show 64 * j + 64 - 64 * j = 64 by omega]
    refine XO.call rfl rfl en83 (rblock_any a _ c _ (blocks (pad s.data.toList) j) (((pad s.data.toList).drop (64 * j)).take 64) _ hH ((hP.arr.1.mono hle).part (k := 64) (fun h => by omega)) (by rw [List.length_take, List.length_drop]; omega) (blocks_len _ _) (blocks_ws _ _)) ⟨rfl, rfl, trivial⟩ ?_
    rintro u J3 hle3 ⟨a3, c3, rfl, hH3⟩
    refine XO.rd rfl rfl rfl (Reads.assign rfl) ?_
    refine XO.nil ?_
    refine XQ.block_normal ?_
    refine XQ.then_normal ?_
    refine XC.region ?_
    refine XO.rd rfl rfl rfl (Reads.move rfl) ?_
    refine XO.rd rfl rfl rfl (Reads.add rfl rfl (by omega)) ?_
    rw [show ((64 * j : Nat) : Int) + 64 = ((64 * (j + 1) : Nat) : Int) by omega]
    refine XO.rd rfl rfl rfl (Reads.assign rfl) ?_
    refine XO.nil ?_
    refine XQ.back (j + 1, J3, a3, c3) ⟨by simp only; omega, Im.le_trans hle hle3, by rw [blocks_succ]; exact hH3⟩ (by simp only; omega) ⟨rfl, rfl, rfl, trivial⟩ rfl (List.Perm.refl _)
  · skip
    simp only [cmpInt, decide_eq_false_iff_not] at h1
    have hjR : j = ((pad s.data.toList).length / 64) := by omega
    subst hjR
    refine XC.exit ?_
    refine XQ.then_exit ?_
    refine XQ.then_exit ?_
    refine XQ.block_exit ?_
    refine XQ.then_normal ?_
    refine XC.seq ?_
    refine XC.region ?_
    refine XO.rd rfl rfl rfl (Reads.assign rfl) ?_
    refine XO.nil ?_
    refine XQ.then_normal ?_
    refine XC.seq ?_
    refine XC.seq ?_
    refine XC.region ?_
    refine XO.rd rfl rfl rfl (Reads.assign rfl) ?_
    refine XO.nil ?_
    refine XQ.then_normal ?_
    refine XC.block ?_
    refine XC.vec0 5 ?_
    refine XC.loop (ι := Nat × Vec) (fun q => [(3, .slice a 8 c), (6, q.2.val), (7, .int .i64 q.1)]) (fun q => J) (fun q => q.2.ent 5 :: ([] ++ Lf)) (fun q => q.1 ≤ 8 ∧ q.2.Is 1 (byteC (outB (blocks (pad s.data.toList) ((pad s.data.toList).length / 64)) q.1))) (fun q => 8 - q.1) (0, Vec.nil) ⟨Nat.zero_le _, Vec.nil_is 1⟩ ⟨rfl, rfl, rfl, trivial⟩ rfl (List.Perm.refl _) (fun q hq => ?_)
    obtain ⟨i, V4⟩ := q
    obtain ⟨hi1, hV4⟩ := hq
    simp only at hi1 hV4 ⊢
    have hVl4 : V4.len = 4 * i := by have := hV4.len; rw [byteC_len, outB_len] at this; omega
    refine XC.seq ?_
    refine XC.seq ?_
    refine XC.region ?_
    refine XO.rd rfl rfl rfl (Reads.move rfl) ?_
    refine XO.rd rfl rfl rfl (Reads.cmp rfl rfl rfl) ?_
    refine XO.nil ?_
    refine XQ.then_normal ?_
    refine XC.cond rfl (fun h2 => ?_) (fun h2 => ?_)
    · skip
      simp only [cmpInt, decide_eq_true_eq] at h2
      refine XC.skip ?_
      refine XQ.then_normal ?_
      refine XC.seq ?_
      refine XC.block ?_
      refine XC.draw m_mixed none (.pure 0 (.pure 1 (.pure 2 (.pure 3 (.pure 4 (.pure 5 (.pure 6 (.pure 7 (.pure 8 (.pure 9 (.pure 10 (.pure 11 (.pure 12 (.pure 13 (.pure 14 (.pure 15 (.pure 16 (.pure 17 (.pure 18 (.pure 19 (.pure 20 (.pure 21 (.pure 22 (.pure 23 (.eff 24 (.eff 25 (.pure 26 (.done)))))))))))))))))))))))))))) [] (by kernel_rfl) (List.nil_sublist _) ?_
      refine XR.rd rfl rfl rfl (Reads.move rfl) ?_
      refine XR.rd rfl rfl rfl (Reads.move rfl) ?_
      refine XR.rd rfl rfl rfl (Reads.move rfl) ?_
      refine XR.rd rfl rfl rfl (Reads.index_slot (q := i) Tryd.underlying121 z120 rfl rfl (by omega) (hH.isSome (by decide) (by rw [blocks_len]; omega)) (by omega)) ?_
      refine XR.rd rfl rfl rfl (Reads.load_at k120 rfl (hH.g_at (j := i) (by rw [blocks_len]; omega) rfl)) ?_
      refine XR.rd rfl rfl rfl (Reads.shrn (s := 24) rfl rfl (by decide)) ?_
      refine XR.rd rfl rfl rfl (Reads.convu Tryd.underlying120 rfl Tryd.underlying5 rfl rfl) ?_
      show XR _ _ _ _ _ _ _ _ _ ((34, .int .u8 ((g (blocks (pad s.data.toList) ((pad s.data.toList).length / 64)) i / 2 ^ (24 - 8 * 0) % 256 : Nat) : Int)) :: _) _ _ _
      rw [u8_nat (g (blocks (pad s.data.toList) ((pad s.data.toList).length / 64)) i / 2 ^ (24 - 8 * 0))]
      refine XR.rd rfl rfl rfl (Reads.move rfl) ?_
      refine XR.rd rfl rfl rfl (Reads.move rfl) ?_
      refine XR.rd rfl rfl rfl (Reads.index_slot (q := i) Tryd.underlying121 z120 rfl rfl (by omega) (hH.isSome (by decide) (by rw [blocks_len]; omega)) (by omega)) ?_
      refine XR.rd rfl rfl rfl (Reads.load_at k120 rfl (hH.g_at (j := i) (by rw [blocks_len]; omega) rfl)) ?_
      refine XR.rd rfl rfl rfl (Reads.shrn (s := 16) rfl rfl (by decide)) ?_
      refine XR.rd rfl rfl rfl (Reads.convu Tryd.underlying120 rfl Tryd.underlying5 rfl rfl) ?_
      show XR _ _ _ _ _ _ _ _ _ ((40, .int .u8 ((g (blocks (pad s.data.toList) ((pad s.data.toList).length / 64)) i / 2 ^ (24 - 8 * 1) % 256 : Nat) : Int)) :: _) _ _ _
      rw [u8_nat (g (blocks (pad s.data.toList) ((pad s.data.toList).length / 64)) i / 2 ^ (24 - 8 * 1))]
      refine XR.rd rfl rfl rfl (Reads.move rfl) ?_
      refine XR.rd rfl rfl rfl (Reads.move rfl) ?_
      refine XR.rd rfl rfl rfl (Reads.index_slot (q := i) Tryd.underlying121 z120 rfl rfl (by omega) (hH.isSome (by decide) (by rw [blocks_len]; omega)) (by omega)) ?_
      refine XR.rd rfl rfl rfl (Reads.load_at k120 rfl (hH.g_at (j := i) (by rw [blocks_len]; omega) rfl)) ?_
      refine XR.rd rfl rfl rfl (Reads.shrn (s := 8) rfl rfl (by decide)) ?_
      refine XR.rd rfl rfl rfl (Reads.convu Tryd.underlying120 rfl Tryd.underlying5 rfl rfl) ?_
      show XR _ _ _ _ _ _ _ _ _ ((46, .int .u8 ((g (blocks (pad s.data.toList) ((pad s.data.toList).length / 64)) i / 2 ^ (24 - 8 * 2) % 256 : Nat) : Int)) :: _) _ _ _
      rw [u8_nat (g (blocks (pad s.data.toList) ((pad s.data.toList).length / 64)) i / 2 ^ (24 - 8 * 2))]
      refine XR.rd rfl rfl rfl (Reads.move rfl) ?_
      refine XR.rd rfl rfl rfl (Reads.move rfl) ?_
      refine XR.rd rfl rfl rfl (Reads.index_slot (q := i) Tryd.underlying121 z120 rfl rfl (by omega) (hH.isSome (by decide) (by rw [blocks_len]; omega)) (by omega)) ?_
      refine XR.rd rfl rfl rfl (Reads.load_at k120 rfl (hH.g_at (j := i) (by rw [blocks_len]; omega) rfl)) ?_
      refine XR.rd rfl rfl rfl (Reads.convu Tryd.underlying120 rfl Tryd.underlying5 rfl rfl) ?_
      rw [show List.getD (blocks (pad s.data.toList) ((pad s.data.toList).length / 64)) i 0 % 256 = g (blocks (pad s.data.toList) ((pad s.data.toList).length / 64)) i / 2 ^ (24 - 8 * 3) % 256 by simp [g]]
      rw [u8_nat (g (blocks (pad s.data.toList) ((pad s.data.toList).length / 64)) i / 2 ^ (24 - 8 * 3))]
      refine XR.buildL (byteC (out1 (g (blocks (pad s.data.toList) ((pad s.data.toList).length / 64)) i) 4)) (byteC (out1 (g (blocks (pad s.data.toList) ((pad s.data.toList).length / 64)) i) 4)) rfl rfl rfl Tryd.underlying98 el5 rfl (by simp [byteC_len, out1_len]) ⟨rfl, rfl, rfl, rfl, rfl, rfl, rfl, rfl, trivial⟩ rfl rfl (List.nil_sublist _) (fun bu => ?_)
      refine XR.append (V := V4) (news := (byteC (out1 (g (blocks (pad s.data.toList) ((pad s.data.toList).length / 64)) i) 4))) 1 rfl rfl rfl Tryd.underlying98 el5 rfl rfl hV4 rfl (.slice Tryd.underlying98 (readable_row 0 rfl rfl) rfl (byteC_one _)) (by omega) (by omega) ?_
      intro V' hV' hVl'
      refine ⟨.inr (List.nil_sublist _), ?_⟩
      refine XR.rd rfl rfl rfl (Reads.assign rfl) ?_
      refine XR.nil ?_
      refine XQ.block_normal ?_
      refine XQ.then_normal ?_
      refine XC.region ?_
      refine XO.rd rfl rfl rfl (Reads.move rfl) ?_
      refine XO.rd rfl rfl rfl (Reads.add rfl rfl (by omega)) ?_
      refine XO.rd rfl rfl rfl (Reads.assign rfl) ?_
      refine XO.nil ?_
      refine XQ.dropn 1 ?_
      refine XQ.back (i + 1, V') ⟨by simp only; omega, by rw [outB_succ, byteC_append]; exact hV'⟩ (by simp only; omega) ⟨rfl, rfl, rfl, trivial⟩ rfl (List.Perm.refl _)
    · skip
      simp only [cmpInt, decide_eq_false_iff_not] at h2
      have hi8 : i = 8 := by omega
      subst hi8
      refine XC.exit ?_
      refine XQ.then_exit ?_
      refine XQ.then_exit ?_
      refine XQ.block_exit ?_
      refine XQ.then_normal ?_
      refine XC.seq ?_
      refine XC.region ?_
      refine XO.rd rfl rfl rfl (Reads.move rfl) ?_
      refine XO.rd rfl rfl rfl (Reads.to_string (bs := outB (blocks (pad s.data.toList) ((pad s.data.toList).length / 64)) 8) Tryd.underlying98 Tryd.underlying5 Tryd.underlying9 rfl (by rw [outB_len]; omega) (hV4.readable (e := 5) (List.mem_of_getElem? (i := 0) rfl))) ?_
      refine XO.rd rfl rfl rfl (Reads.assign rfl) ?_
      refine XO.nil ?_
      refine XQ.then_normal ?_
      refine XC.ret ?_
      refine XQ.dropn 1 ?_
      refine XQ.done1 (L := []) rfl rfl (Im.le_trans hle1 (Im.le_trans hle2 hle)) ?_
      exact ⟨rfl, rfl⟩

theorem rleaf_all (s : ByteArray) (I : Im) (hs : s.size ≤ 10000000) : FC Tryd.prog 62 [.string s] I (fun u I' => u = .string (leaf s) ∧ I' = I) := by
  have h1 : (⟨#[0]⟩ : ByteArray).size = 1 := rfl
  have h2 : ((⟨#[0]⟩ : ByteArray) ++ s).size = 1 + s.size := ByteArray.size_append
  refine FSo.intro (n := 6) Tryd.func62 rfl rfl rfl (fun K Lf => ?_)
  refine XC.seq ?_
  refine XC.region ?_
  refine XO.rd rfl rfl rfl (Reads.assign rfl) ?_
  refine XO.nil ?_
  refine XQ.then_normal ?_
  refine XC.seq ?_
  refine XC.region ?_
  refine XO.rd rfl rfl rfl (Reads.move rfl) ?_
  refine XO.rd rfl rfl rfl (Reads.sadd rfl rfl (by omega)) ?_
  refine XO.callp rfl rfl en61 (FC.pure (rsum_all _ _ (by omega))) ⟨rfl, trivial⟩ ?_
  refine XO.rd rfl rfl rfl (Reads.assign rfl) ?_
  refine XO.nil ?_
  refine XQ.then_normal ?_
  refine XC.ret ?_
  refine XQ.done1 rfl rfl (Im.le_refl _) ?_
  exact ⟨rfl, rfl, rfl⟩

theorem rnode_all (a b : ByteArray) (I : Im) (ha : a.size ≤ 10000000) (hb : b.size ≤ 10000000) : FC Tryd.prog 71 [.string a, .string b] I (fun u I' => u = .string (node a b) ∧ I' = I) := by
  have h1 : (⟨#[1]⟩ : ByteArray).size = 1 := rfl
  have h2 : ((⟨#[1]⟩ : ByteArray) ++ a).size = 1 + a.size := ByteArray.size_append
  have h3 : ((⟨#[1]⟩ : ByteArray) ++ a ++ b).size = ((⟨#[1]⟩ : ByteArray) ++ a).size + b.size := ByteArray.size_append
  refine FSo.intro (n := 10) Tryd.func71 rfl rfl rfl (fun K Lf => ?_)
  refine XC.seq ?_
  refine XC.region ?_
  refine XO.rd rfl rfl rfl (Reads.assign rfl) ?_
  refine XO.nil ?_
  refine XQ.then_normal ?_
  refine XC.seq ?_
  refine XC.region ?_
  refine XO.rd rfl rfl rfl (Reads.move rfl) ?_
  refine XO.rd rfl rfl rfl (Reads.sadd rfl rfl (by omega)) ?_
  refine XO.rd rfl rfl rfl (Reads.move rfl) ?_
  refine XO.rd rfl rfl rfl (Reads.sadd rfl rfl (by omega)) ?_
  refine XO.callp rfl rfl en61 (FC.pure (rsum_all _ _ (by omega))) ⟨rfl, trivial⟩ ?_
  refine XO.rd rfl rfl rfl (Reads.assign rfl) ?_
  refine XO.nil ?_
  refine XQ.then_normal ?_
  refine XC.ret ?_
  refine XQ.done1 rfl rfl (Im.le_refl _) ?_
  exact ⟨rfl, rfl, rfl⟩

theorem rcoll_any (aa ab : Option Addr) (ca cb : Nat) (a b : List ByteArray) (I : Im) (hA : Arr I aa a) (hB : Arr I ab b) (hla : a.length ≤ 100000) (hlb : b.length ≤ 100000) (hsa : ∀ x ∈ a, x.size ≤ 10000000) (hsb : ∀ x ∈ b, x.size ≤ 10000000) : FC Tryd.prog 26 [.slice aa a.length ca, .slice ab b.length cb] I (fun u I' => u = .bool (collF a b) ∧ I' = I) := by
  refine FSo.intro (n := 58) Tryd.func26 rfl rfl rfl (fun K Lf => ?_)
  refine XC.seq ?_
  refine XC.region ?_
  refine XO.rd rfl rfl rfl (Reads.assign rfl) ?_
  refine XO.nil ?_
  refine XQ.then_normal ?_
  refine XC.seq ?_
  refine XC.region ?_
  refine XO.rd rfl rfl rfl (Reads.assign rfl) ?_
  refine XO.nil ?_
  refine XQ.then_normal ?_
  refine XC.seq ?_
  refine XC.seq ?_
  refine XC.region ?_
  refine XO.rd rfl rfl rfl (Reads.assign rfl) ?_
  refine XO.nil ?_
  refine XQ.then_normal ?_
  refine XC.block ?_
  refine XC.vec0 9 ?_
  refine XC.loop (ι := Nat × Vec) (fun q => [(0, .slice aa a.length ca), (1, .slice ab b.length cb), (5, q.2.val), (6, .int .i64 q.1)]) (fun q => I) (fun q => q.2.ent 9 :: ([] ++ Lf)) (fun q => q.1 ≤ b.length ∧ q.2.Is 1 (strC ((b.take q.1).map sha))) (fun q => b.length - q.1) (0, Vec.nil) ⟨Nat.zero_le _, Vec.nil_is 1⟩ ⟨rfl, rfl, rfl, rfl, trivial⟩ rfl (List.Perm.refl _) (fun q hq => ?_)
  obtain ⟨k, V⟩ := q
  obtain ⟨hk1, hV⟩ := hq
  simp only at hk1 hV ⊢
  have hVl : V.len = k := by have := hV.len; simp [strC] at this; omega
  refine XC.seq ?_
  refine XC.seq ?_
  refine XC.region ?_
  refine XO.rd rfl rfl rfl (Reads.move rfl) ?_
  refine XO.rd rfl rfl rfl (Reads.move rfl) ?_
  refine XO.rd rfl rfl rfl (Reads.len_slice Tryd.underlying29 rfl) ?_
  refine XO.rd rfl rfl rfl (Reads.cmp rfl rfl rfl) ?_
  refine XO.nil ?_
  refine XQ.then_normal ?_
  refine XC.cond rfl (fun h1 => ?_) (fun h1 => ?_)
  · skip
    simp only [cmpInt, decide_eq_true_eq] at h1
    have hk3 : k < b.length := by omega
    refine XC.skip ?_
    refine XQ.then_normal ?_
    refine XC.seq ?_
    refine XC.block ?_
    refine XC.region ?_
    refine XO.rd rfl rfl rfl (Reads.move rfl) ?_
    refine XO.rd rfl rfl rfl (Reads.move rfl) ?_
    refine XO.rd rfl rfl rfl (Reads.move rfl) ?_
    refine XO.rd rfl rfl rfl (Reads.index_slot (q := k) Tryd.underlying29 z9 rfl rfl (by omega) (hB.isSome (by decide) (by omega)) (by omega)) ?_
    refine XO.rd rfl rfl rfl (Reads.load_at k9 rfl (hB.str_at (j := k) (by omega) rfl)) ?_
    refine XO.callp rfl rfl en61 (FC.pure (rsum_all (b.getD k ⟨#[]⟩) _ (by have := hsb _ (getD_mem (d := ⟨#[]⟩) hk3); omega))) ⟨rfl, trivial⟩ ?_
    refine XO.buildL [.string (sha (b.getD k ⟨#[]⟩))] [.string (sha (b.getD k ⟨#[]⟩))] rfl rfl Tryd.underlying29 el9 rfl (by simp) ⟨rfl, rfl, trivial⟩ rfl rfl (fun bu => ?_)
    refine XO.append (V := V) (news := strC [sha (b.getD k ⟨#[]⟩)]) 1 rfl rfl Tryd.underlying29 el9 rfl rfl hV rfl (.slice Tryd.underlying29 (readable_row 0 rfl rfl) rfl (strC_one _)) (by omega) (by omega) ?_
    intro V' hV' _
    refine XO.rd rfl rfl rfl (Reads.assign rfl) ?_
    refine XO.nil ?_
    refine XQ.block_normal ?_
    refine XQ.then_normal ?_
    refine XC.region ?_
    refine XO.rd rfl rfl rfl (Reads.move rfl) ?_
    refine XO.rd rfl rfl rfl (Reads.add rfl rfl (by omega)) ?_
    refine XO.rd rfl rfl rfl (Reads.assign rfl) ?_
    refine XO.nil ?_
    refine XQ.dropn 1 ?_
    refine XQ.back (k + 1, V') ⟨by simp only; omega, by rw [List.take_succ_eq_append_getElem hk3, List.map_append, strC_append, show b[k] = b.getD k ⟨#[]⟩ by simp [hk3]]; exact hV'⟩ (by simp only; omega) ⟨rfl, rfl, rfl, rfl, trivial⟩ rfl (List.Perm.refl _)
  · skip
    simp only [cmpInt, decide_eq_false_iff_not] at h1
    have hV : V.Is 1 (strC (b.map sha)) := by rw [List.take_of_length_le (by omega)] at hV; exact hV
    have hVl : V.len = b.length := by have := hV.len; simp [strC] at this; omega
    refine XC.exit ?_
    refine XQ.then_exit ?_
    refine XQ.then_exit ?_
    refine XQ.block_exit ?_
    refine XQ.then_normal ?_
    refine XC.seq ?_
    refine XC.seq ?_
    refine XC.region ?_
    refine XO.rd rfl rfl rfl (Reads.assign rfl) ?_
    refine XO.nil ?_
    refine XQ.then_normal ?_
    refine XC.block ?_
    refine XC.loop (ι := Nat) (fun q => [(0, .slice aa a.length ca), (1, .slice ab b.length cb), (5, V.val), (7, .int .i64 q)]) (fun q => I) (fun q => V.ent 9 :: ([] ++ Lf)) (fun q => q ≤ a.length ∧ ∀ i', i' < q → ∀ j, j < b.length → coll1 a b i' j = false) (fun q => a.length - q) 0 ⟨Nat.zero_le _, fun _ h => absurd h (Nat.not_lt_zero _)⟩ ⟨rfl, rfl, rfl, rfl, trivial⟩ rfl (List.Perm.refl _) (fun i hi => ?_)
    obtain ⟨hi1, hno⟩ := hi
    refine XC.seq ?_
    refine XC.seq ?_
    refine XC.region ?_
    refine XO.rd rfl rfl rfl (Reads.move rfl) ?_
    refine XO.rd rfl rfl rfl (Reads.move rfl) ?_
    refine XO.rd rfl rfl rfl (Reads.len_slice Tryd.underlying29 rfl) ?_
    refine XO.rd rfl rfl rfl (Reads.cmp rfl rfl rfl) ?_
    refine XO.nil ?_
    refine XQ.then_normal ?_
    refine XC.cond rfl (fun h2 => ?_) (fun h2 => ?_)
    · skip
      simp only [cmpInt, decide_eq_true_eq] at h2
      have hi3 : i < a.length := by omega
      refine XC.skip ?_
      refine XQ.then_normal ?_
      refine XC.seq ?_
      refine XC.block ?_
      refine XC.seq ?_
      refine XC.region ?_
      refine XO.rd rfl rfl rfl (Reads.move rfl) ?_
      refine XO.rd rfl rfl rfl (Reads.move rfl) ?_
      refine XO.rd rfl rfl rfl (Reads.index_slot (q := i) Tryd.underlying29 z9 rfl rfl (by omega) (hA.isSome (by decide) (by omega)) (by omega)) ?_
      refine XO.rd rfl rfl rfl (Reads.load_at k9 rfl (hA.str_at (j := i) (by omega) rfl)) ?_
      refine XO.callp rfl rfl en61 (FC.pure (rsum_all (a.getD i ⟨#[]⟩) _ (by have := hsa _ (getD_mem (d := ⟨#[]⟩) hi3); omega))) ⟨rfl, trivial⟩ ?_
      refine XO.rd rfl rfl rfl (Reads.assign rfl) ?_
      refine XO.nil ?_
      refine XQ.then_normal ?_
      refine XC.seq ?_
      refine XC.region ?_
      refine XO.rd rfl rfl rfl (Reads.assign rfl) ?_
      refine XO.nil ?_
      refine XQ.then_normal ?_
      refine XC.block ?_
      refine XC.loop (ι := Nat) (fun q => [(0, .slice aa a.length ca), (1, .slice ab b.length cb), (5, V.val), (7, .int .i64 i), (8, .string (sha (a.getD i ⟨#[]⟩))), (9, .int .i64 q)]) (fun q => I) (fun q => V.ent 9 :: ([] ++ Lf)) (fun q => q ≤ b.length ∧ ∀ j, j < q → coll1 a b i j = false) (fun q => b.length - q) 0 ⟨Nat.zero_le _, fun _ h => absurd h (Nat.not_lt_zero _)⟩ ⟨rfl, rfl, rfl, rfl, rfl, rfl, trivial⟩ rfl (List.Perm.refl _) (fun j hj => ?_)
      obtain ⟨hj1, hno1⟩ := hj
      refine XC.seq ?_
      refine XC.seq ?_
      refine XC.region ?_
      refine XO.rd rfl rfl rfl (Reads.move rfl) ?_
      refine XO.rd rfl rfl rfl (Reads.move rfl) ?_
      refine XO.rd rfl rfl rfl (Reads.len_slice Tryd.underlying29 rfl) ?_
      refine XO.rd rfl rfl rfl (Reads.cmp rfl rfl rfl) ?_
      refine XO.nil ?_
      refine XQ.then_normal ?_
      refine XC.cond rfl (fun h3 => ?_) (fun h3 => ?_)
      · skip
        simp only [cmpInt, decide_eq_true_eq] at h3
        have hj3 : j < b.length := by omega
        refine XC.skip ?_
        refine XQ.then_normal ?_
        refine XC.seq ?_
        refine XC.block ?_
        refine XC.seq ?_
        refine XC.draw m_mixed none (.pure 0 (.pure 1 (.pure 2 (.pure 3 (.pure 4 (.pure 5 (.pure 6 (.pure 7 (.pure 8 (.pure 9 (.pure 10 (.pure 11 (.pure 12 (.pure 13 (.pure 14 (.pure 15 (.pure 16 (.done)))))))))))))))))) _ (by kernel_rfl) (List.Sublist.refl _) ?_
        refine XR.rd rfl rfl rfl (Reads.move rfl) ?_
        refine XR.rd rfl rfl rfl (Reads.move rfl) ?_
        refine XR.rd rfl rfl rfl (Reads.index_slot (q := i) Tryd.underlying29 z9 rfl rfl (by omega) (hA.isSome (by decide) (by omega)) (by omega)) ?_
        refine XR.rd rfl rfl rfl (Reads.load_at k9 rfl (hA.str_at (j := i) (by omega) rfl)) ?_
        refine XR.rd rfl rfl rfl (Reads.move rfl) ?_
        refine XR.rd rfl rfl rfl (Reads.move rfl) ?_
        refine XR.rd rfl rfl rfl (Reads.index_slot (q := j) Tryd.underlying29 z9 rfl rfl (by omega) (hB.isSome (by decide) (by omega)) (by omega)) ?_
        refine XR.rd rfl rfl rfl (Reads.load_at k9 rfl (hB.str_at (j := j) (by omega) rfl)) ?_
        refine XR.rd rfl rfl rfl (Reads.sne rfl rfl) ?_
        refine XR.rd rfl rfl rfl (Reads.move rfl) ?_
        refine XR.split (d := 50) rfl (fun h4 => ?_) (fun h4 => ?_)
        · skip
          simp only [Bool.not_eq_true', decide_eq_false_iff_not] at h4
          refine XR.rd rfl (wg rfl rfl rfl) rfl (Reads.move rfl) ?_
          refine XR.rd rfl (wg rfl rfl rfl) rfl (Reads.move rfl) ?_
          refine XR.rd rfl (wg rfl rfl rfl) rfl (Reads.move rfl) ?_
          refine XR.rd rfl (wg rfl rfl rfl) rfl (Reads.index_slot (q := j) Tryd.underlying29 z9 rfl rfl (by omega) (vec_isSomes (k := j) hV (strC_get (i := j) (by simp; omega))) (by omega)) ?_
          refine XR.rd rfl (wg rfl rfl rfl) rfl (Reads.load_vecs (v := .string ((b.map sha).getD j ⟨#[]⟩)) k9 rfl hV (e := 9) (List.mem_of_getElem? (i := 0) rfl) (strC_get (by simp; omega))) ?_
          rw [show (b.map sha).getD j ⟨#[]⟩ = sha (b.getD j ⟨#[]⟩) by rw [List.getD_eq_getElem?_getD, List.getElem?_map, List.getD_eq_getElem?_getD, List.getElem?_eq_getElem (by omega : j < b.length)]; rfl]
          refine XR.rd rfl (wg rfl rfl rfl) rfl (Reads.seq rfl rfl) ?_
          refine XR.rd rfl rfl rfl (Reads.pick_true rfl rfl) ?_
          refine XR.nil ?_
          refine XQ.then_normal ?_
          refine XC.cond rfl (fun h5 => ?_) (fun h5 => ?_)
          · skip
            simp only [decide_eq_true_eq] at h5
            have hyes : coll1 a b i j = true := by
              simp only [coll1, Bool.and_eq_true, Bool.not_eq_true', decide_eq_false_iff_not, decide_eq_true_eq]; exact ⟨by assumption, by assumption⟩
            refine XC.seq ?_
            refine XC.region ?_
            refine XO.rd rfl rfl rfl (Reads.assign rfl) ?_
            refine XO.nil ?_
            refine XQ.then_normal ?_
            refine XC.ret ?_
            refine XQ.block_ret ?_
            refine XQ.then_ret ?_
            refine XQ.then_ret ?_
            refine XQ.block_ret ?_
            refine XQ.block_ret ?_
            refine XQ.then_ret ?_
            refine XQ.then_ret ?_
            refine XQ.block_ret ?_
            refine XQ.then_ret ?_
            refine XQ.dropn 1 ?_
            refine XQ.done1 (L := []) rfl rfl (Im.le_refl _) ?_
            exact ⟨rfl, by rw [collF_yes hi3 hj3 hyes], rfl⟩
          · skip
            first | simp only [decide_eq_false_iff_not] at h5 | skip
            have hn1 : coll1 a b i j = false := by
              simp only [coll1, Bool.and_eq_false_iff, Bool.not_eq_false', decide_eq_true_eq, decide_eq_false_iff_not]; first | exact .inl (by assumption) | exact .inr (by assumption)
            refine XC.skip ?_
            refine XQ.block_normal ?_
            refine XQ.then_normal ?_
            refine XC.region ?_
            refine XO.rd rfl rfl rfl (Reads.move rfl) ?_
            refine XO.rd rfl rfl rfl (Reads.add rfl rfl (by omega)) ?_
            refine XO.rd rfl rfl rfl (Reads.assign rfl) ?_
            refine XO.nil ?_
            refine XQ.back (j + 1) ⟨by omega, fun j' hj' => by rcases Nat.lt_succ_iff_lt_or_eq.1 hj' with h | rfl; exact hno1 j' h; exact hn1⟩ (by omega) ⟨rfl, rfl, rfl, rfl, rfl, rfl, trivial⟩ rfl (List.Perm.refl _)
        · skip
          simp only [Bool.not_eq_false', decide_eq_true_eq] at h4
          have hn1 : coll1 a b i j = false := by
            simp only [coll1, Bool.and_eq_false_iff, Bool.not_eq_false', decide_eq_true_eq, decide_eq_false_iff_not]; exact .inl (by assumption)
          refine XR.s rfl (wg rfl rfl rfl) rfl ?_
          refine XR.s rfl (wg rfl rfl rfl) rfl ?_
          refine XR.s rfl (wg rfl rfl rfl) rfl ?_
          refine XR.s rfl (wg rfl rfl rfl) rfl ?_
          refine XR.s rfl (wg rfl rfl rfl) rfl ?_
          refine XR.s rfl (wg rfl rfl rfl) rfl ?_
          refine XR.rd rfl rfl rfl (Reads.pick_false rfl rfl) ?_
          refine XR.nil ?_
          refine XQ.then_normal ?_
          refine XC.cond rfl (fun hx => by cases hx) (fun _ => ?_)
          refine XC.skip ?_
          refine XQ.block_normal ?_
          refine XQ.then_normal ?_
          refine XC.region ?_
          refine XO.rd rfl rfl rfl (Reads.move rfl) ?_
          refine XO.rd rfl rfl rfl (Reads.add rfl rfl (by omega)) ?_
          refine XO.rd rfl rfl rfl (Reads.assign rfl) ?_
          refine XO.nil ?_
          refine XQ.back (j + 1) ⟨by omega, fun j' hj' => by rcases Nat.lt_succ_iff_lt_or_eq.1 hj' with h | rfl; exact hno1 j' h; exact hn1⟩ (by omega) ⟨rfl, rfl, rfl, rfl, rfl, rfl, trivial⟩ rfl (List.Perm.refl _)
      · skip
        simp only [cmpInt, decide_eq_false_iff_not] at h3
        have hno2 : ∀ i', i' < i + 1 → ∀ j, j < b.length → coll1 a b i' j = false := fun i' hi' j hj => by rcases Nat.lt_succ_iff_lt_or_eq.1 hi' with h | rfl; exact hno i' h j hj; exact hno1 j (by omega)
        refine XC.exit ?_
        refine XQ.then_exit ?_
        refine XQ.then_exit ?_
        refine XQ.block_exit ?_
        refine XQ.block_normal ?_
        refine XQ.then_normal ?_
        refine XC.region ?_
        refine XO.rd rfl rfl rfl (Reads.move rfl) ?_
        refine XO.rd rfl rfl rfl (Reads.add rfl rfl (by omega)) ?_
        refine XO.rd rfl rfl rfl (Reads.assign rfl) ?_
        refine XO.nil ?_
        refine XQ.back (i + 1) ⟨by omega, hno2⟩ (by omega) ⟨rfl, rfl, rfl, rfl, trivial⟩ rfl (List.Perm.refl _)
    · skip
      simp only [cmpInt, decide_eq_false_iff_not] at h2
      refine XC.exit ?_
      refine XQ.then_exit ?_
      refine XQ.then_exit ?_
      refine XQ.block_exit ?_
      refine XQ.then_normal ?_
      refine XC.seq ?_
      refine XC.region ?_
      refine XO.rd rfl rfl rfl (Reads.assign rfl) ?_
      refine XO.nil ?_
      refine XQ.then_normal ?_
      refine XC.ret ?_
      refine XQ.dropn 1 ?_
      refine XQ.done1 (L := []) rfl rfl (Im.le_refl _) ?_
      exact ⟨rfl, by rw [collF_no (fun i' hi' j hj => hno i' (by omega) j hj)], rfl⟩

end Go.Proofs.YtmlliafhpbfdbaaDoor
