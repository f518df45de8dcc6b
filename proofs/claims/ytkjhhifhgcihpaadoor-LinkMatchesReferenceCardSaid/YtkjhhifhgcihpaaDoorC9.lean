/- Walks: one block of the reference's digest. -/
import Derived.Test.YtkjhhifhgcihpaaDoorC8
namespace Go.Proofs.YtkjhhifhgcihpaaDoor
open Go.Xe Go.Sh Go

theorem rblock_any (ah p : Option Addr) (ch cap : Nat) (h : List Nat) (bs : List UInt8) (I : Im) (hH : Arr I ah h) (hA : Arr I p bs) (hb : bs.length = 64) (hh : h.length = 8) (hhw : Ws h) : FC Tryd.prog 54 [.slice ah 8 ch, .slice p 64 cap] I (fun u I' => ∃ a c, u = .slice a 8 c ∧ Arr I' a (comp h (bg bs))) := by
  have hkr := KR_ws
  have hsw : Ws (sch (bg bs)) := schA_ws (fun i => bg_lt _ _) 48
  have hsl := sch_len (bg bs)
  refine FSo.intro (n := 238) Tryd.func54 rfl rfl rfl (fun K Lf => ?_)
  refine XC.seq ?_
  refine XC.region ?_
  refine XO.rd rfl rfl rfl (Reads.assign rfl) ?_
  refine XO.nil ?_
  refine XQ.then_normal ?_
  refine XC.seq ?_
  refine XC.region ?_
  refine XO.rd rfl rfl rfl (Reads.assign rfl) ?_
  refine XO.nil ?_
  refine XQ.then_normal ?_
  refine XC.seq ?_
  refine XC.seq ?_
  refine XC.region ?_
  refine XO.rd rfl rfl rfl (Reads.assign rfl) ?_
  refine XO.nil ?_
  refine XQ.then_normal ?_
  refine XC.block ?_
  refine XC.vec0 83 ?_
  refine XC.loop (ι := Nat × Vec) (fun q => [(0, .slice ah 8 ch), (1, .slice p 64 cap), (5, q.2.val), (6, .int .i64 q.1)]) (fun q => I) (fun q => q.2.ent 83 :: ([] ++ Lf)) (fun q => q.1 ≤ 16 ∧ q.2.Is 1 (wC (sch0 (bg bs) q.1))) (fun q => 16 - q.1) (0, Vec.nil) ⟨Nat.zero_le _, Vec.nil_is 1⟩ ⟨rfl, rfl, rfl, rfl, trivial⟩ rfl (List.Perm.refl _) (fun q hq => ?_)
  obtain ⟨k, V⟩ := q
  obtain ⟨hk1, hV⟩ := hq
  simp only at hk1 hV ⊢
  have Vl : V.len = k := by have := hV.len; rw [wC_len] at this; simp only [sch0_len, schA_len, compO_len, List.length_append, List.length_singleton] at this; omega
  refine XC.seq ?_
  refine XC.seq ?_
  refine XC.region ?_
  refine XO.rd rfl rfl rfl (Reads.move rfl) ?_
  refine XO.rd rfl rfl rfl (Reads.cmp rfl rfl rfl) ?_
  refine XO.nil ?_
  refine XQ.then_normal ?_
  refine XC.cond rfl (fun h1 => ?_) (fun h1 => ?_)
  · skip
    simp only [cmpInt, decide_eq_true_eq] at h1
    refine XC.skip ?_
    refine XQ.then_normal ?_
    refine XC.seq ?_
    refine XC.block ?_
    refine XC.draw m_mixed none (.pure 0 (.pure 1 (.pure 2 (.pure 3 (.pure 4 (.pure 5 (.pure 6 (.pure 7 (.pure 8 (.pure 9 (.pure 10 (.pure 11 (.pure 12 (.pure 13 (.pure 14 (.pure 15 (.pure 16 (.pure 17 (.pure 18 (.pure 19 (.pure 20 (.pure 21 (.pure 22 (.pure 23 (.pure 24 (.pure 25 (.pure 26 (.pure 27 (.pure 28 (.pure 29 (.pure 30 (.pure 31 (.pure 32 (.pure 33 (.eff 34 (.eff 35 (.pure 36 (.done)))))))))))))))))))))))))))))))))))))) [] (by kernel_rfl) (List.nil_sublist _) ?_
    refine XR.rd rfl rfl rfl (Reads.move rfl) ?_
    refine XR.rd rfl rfl rfl (Reads.move rfl) ?_
    refine XR.rd rfl rfl rfl (Reads.move rfl) ?_
    refine XR.rd rfl rfl rfl (Reads.mul rfl rfl (by omega)) ?_
    refine XR.rd rfl rfl rfl (Reads.index_slot (q := 4 * k) Tryd.underlying70 z5 rfl rfl (by omega) (hA.isSome (by decide) (by omega)) (by omega)) ?_
    refine XR.rd rfl rfl rfl (Reads.load_at k5 rfl (hA.bg_at (j := 4 * k) (by omega) rfl)) ?_
    refine XR.rd rfl rfl rfl (Reads.convl Tryd.underlying5 rfl Tryd.underlying83 rfl rfl (by repeat' first | assumption | with_reducible exact hw _ | with_reducible exact hvw _ | with_reducible exact hkr _ | with_reducible exact hsw _ | with_reducible exact hhw _ | with_reducible exact Go.Sh.mod_lt' _ | with_reducible apply Go.Sh.mix_lt | with_reducible apply Go.Sh.rotr_lt | with_reducible apply Go.Sh.xor_lt | with_reducible apply Go.Sh.and_lt | with_reducible apply Go.Sh.or_lt | with_reducible apply Go.Sh.div_lt' | with_reducible exact Nat.lt_of_lt_of_le (UInt8.toNat_lt _) (by decide) | with_reducible exact Nat.lt_of_lt_of_le (Go.Sh.bg_lt _ _) (by decide) | decide | omega)) ?_
    refine XR.rd rfl rfl rfl (Reads.ushl (s := 24) rfl rfl rfl (by decide)) ?_
    refine XR.rd rfl rfl rfl (Reads.move rfl) ?_
    refine XR.rd rfl rfl rfl (Reads.move rfl) ?_
    refine XR.rd rfl rfl rfl (Reads.mul rfl rfl (by omega)) ?_
    refine XR.rd rfl rfl rfl (Reads.add rfl rfl (by omega)) ?_
    refine XR.rd rfl rfl rfl (Reads.index_slot (q := 4 * k + 1) Tryd.underlying70 z5 rfl rfl (by omega) (hA.isSome (by decide) (by omega)) (by omega)) ?_
    refine XR.rd rfl rfl rfl (Reads.load_at k5 rfl (hA.bg_at (j := 4 * k + 1) (by omega) rfl)) ?_
    refine XR.rd rfl rfl rfl (Reads.convl Tryd.underlying5 rfl Tryd.underlying83 rfl rfl (by repeat' first | assumption | with_reducible exact hw _ | with_reducible exact hvw _ | with_reducible exact hkr _ | with_reducible exact hsw _ | with_reducible exact hhw _ | with_reducible exact Go.Sh.mod_lt' _ | with_reducible apply Go.Sh.mix_lt | with_reducible apply Go.Sh.rotr_lt | with_reducible apply Go.Sh.xor_lt | with_reducible apply Go.Sh.and_lt | with_reducible apply Go.Sh.or_lt | with_reducible apply Go.Sh.div_lt' | with_reducible exact Nat.lt_of_lt_of_le (UInt8.toNat_lt _) (by decide) | with_reducible exact Nat.lt_of_lt_of_le (Go.Sh.bg_lt _ _) (by decide) | decide | omega)) ?_
    refine XR.rd rfl rfl rfl (Reads.ushl (s := 16) rfl rfl rfl (by decide)) ?_
    refine XR.rd rfl rfl rfl (Reads.uor rfl rfl rfl (by repeat' first | assumption | with_reducible exact hw _ | with_reducible exact hvw _ | with_reducible exact hkr _ | with_reducible exact hsw _ | with_reducible exact hhw _ | with_reducible exact Go.Sh.mod_lt' _ | with_reducible apply Go.Sh.mix_lt | with_reducible apply Go.Sh.rotr_lt | with_reducible apply Go.Sh.xor_lt | with_reducible apply Go.Sh.and_lt | with_reducible apply Go.Sh.or_lt | with_reducible apply Go.Sh.div_lt' | with_reducible exact Nat.lt_of_lt_of_le (UInt8.toNat_lt _) (by decide) | with_reducible exact Nat.lt_of_lt_of_le (Go.Sh.bg_lt _ _) (by decide) | decide | omega) (by repeat' first | assumption | with_reducible exact hw _ | with_reducible exact hvw _ | with_reducible exact hkr _ | with_reducible exact hsw _ | with_reducible exact hhw _ | with_reducible exact Go.Sh.mod_lt' _ | with_reducible apply Go.Sh.mix_lt | with_reducible apply Go.Sh.rotr_lt | with_reducible apply Go.Sh.xor_lt | with_reducible apply Go.Sh.and_lt | with_reducible apply Go.Sh.or_lt | with_reducible apply Go.Sh.div_lt' | with_reducible exact Nat.lt_of_lt_of_le (UInt8.toNat_lt _) (by decide) | with_reducible exact Nat.lt_of_lt_of_le (Go.Sh.bg_lt _ _) (by decide) | decide | omega)) ?_
    refine XR.rd rfl rfl rfl (Reads.move rfl) ?_
    refine XR.rd rfl rfl rfl (Reads.move rfl) ?_
    refine XR.rd rfl rfl rfl (Reads.mul rfl rfl (by omega)) ?_
    refine XR.rd rfl rfl rfl (Reads.add rfl rfl (by omega)) ?_
    refine XR.rd rfl rfl rfl (Reads.index_slot (q := 4 * k + 2) Tryd.underlying70 z5 rfl rfl (by omega) (hA.isSome (by decide) (by omega)) (by omega)) ?_
    refine XR.rd rfl rfl rfl (Reads.load_at k5 rfl (hA.bg_at (j := 4 * k + 2) (by omega) rfl)) ?_
    refine XR.rd rfl rfl rfl (Reads.convl Tryd.underlying5 rfl Tryd.underlying83 rfl rfl (by repeat' first | assumption | with_reducible exact hw _ | with_reducible exact hvw _ | with_reducible exact hkr _ | with_reducible exact hsw _ | with_reducible exact hhw _ | with_reducible exact Go.Sh.mod_lt' _ | with_reducible apply Go.Sh.mix_lt | with_reducible apply Go.Sh.rotr_lt | with_reducible apply Go.Sh.xor_lt | with_reducible apply Go.Sh.and_lt | with_reducible apply Go.Sh.or_lt | with_reducible apply Go.Sh.div_lt' | with_reducible exact Nat.lt_of_lt_of_le (UInt8.toNat_lt _) (by decide) | with_reducible exact Nat.lt_of_lt_of_le (Go.Sh.bg_lt _ _) (by decide) | decide | omega)) ?_
    refine XR.rd rfl rfl rfl (Reads.ushl (s := 8) rfl rfl rfl (by decide)) ?_
    refine XR.rd rfl rfl rfl (Reads.uor rfl rfl rfl (by repeat' first | assumption | with_reducible exact hw _ | with_reducible exact hvw _ | with_reducible exact hkr _ | with_reducible exact hsw _ | with_reducible exact hhw _ | with_reducible exact Go.Sh.mod_lt' _ | with_reducible apply Go.Sh.mix_lt | with_reducible apply Go.Sh.rotr_lt | with_reducible apply Go.Sh.xor_lt | with_reducible apply Go.Sh.and_lt | with_reducible apply Go.Sh.or_lt | with_reducible apply Go.Sh.div_lt' | with_reducible exact Nat.lt_of_lt_of_le (UInt8.toNat_lt _) (by decide) | with_reducible exact Nat.lt_of_lt_of_le (Go.Sh.bg_lt _ _) (by decide) | decide | omega) (by repeat' first | assumption | with_reducible exact hw _ | with_reducible exact hvw _ | with_reducible exact hkr _ | with_reducible exact hsw _ | with_reducible exact hhw _ | with_reducible exact Go.Sh.mod_lt' _ | with_reducible apply Go.Sh.mix_lt | with_reducible apply Go.Sh.rotr_lt | with_reducible apply Go.Sh.xor_lt | with_reducible apply Go.Sh.and_lt | with_reducible apply Go.Sh.or_lt | with_reducible apply Go.Sh.div_lt' | with_reducible exact Nat.lt_of_lt_of_le (UInt8.toNat_lt _) (by decide) | with_reducible exact Nat.lt_of_lt_of_le (Go.Sh.bg_lt _ _) (by decide) | decide | omega)) ?_
    refine XR.rd rfl rfl rfl (Reads.move rfl) ?_
    refine XR.rd rfl rfl rfl (Reads.move rfl) ?_
    refine XR.rd rfl rfl rfl (Reads.mul rfl rfl (by omega)) ?_
    refine XR.rd rfl rfl rfl (Reads.add rfl rfl (by omega)) ?_
    refine XR.rd rfl rfl rfl (Reads.index_slot (q := 4 * k + 3) Tryd.underlying70 z5 rfl rfl (by omega) (hA.isSome (by decide) (by omega)) (by omega)) ?_
    refine XR.rd rfl rfl rfl (Reads.load_at k5 rfl (hA.bg_at (j := 4 * k + 3) (by omega) rfl)) ?_
    refine XR.rd rfl rfl rfl (Reads.convl Tryd.underlying5 rfl Tryd.underlying83 rfl rfl (by repeat' first | assumption | with_reducible exact hw _ | with_reducible exact hvw _ | with_reducible exact hkr _ | with_reducible exact hsw _ | with_reducible exact hhw _ | with_reducible exact Go.Sh.mod_lt' _ | with_reducible apply Go.Sh.mix_lt | with_reducible apply Go.Sh.rotr_lt | with_reducible apply Go.Sh.xor_lt | with_reducible apply Go.Sh.and_lt | with_reducible apply Go.Sh.or_lt | with_reducible apply Go.Sh.div_lt' | with_reducible exact Nat.lt_of_lt_of_le (UInt8.toNat_lt _) (by decide) | with_reducible exact Nat.lt_of_lt_of_le (Go.Sh.bg_lt _ _) (by decide) | decide | omega)) ?_
    refine XR.rd rfl rfl rfl (Reads.uor rfl rfl rfl (by repeat' first | assumption | with_reducible exact hw _ | with_reducible exact hvw _ | with_reducible exact hkr _ | with_reducible exact hsw _ | with_reducible exact hhw _ | with_reducible exact Go.Sh.mod_lt' _ | with_reducible apply Go.Sh.mix_lt | with_reducible apply Go.Sh.rotr_lt | with_reducible apply Go.Sh.xor_lt | with_reducible apply Go.Sh.and_lt | with_reducible apply Go.Sh.or_lt | with_reducible apply Go.Sh.div_lt' | with_reducible exact Nat.lt_of_lt_of_le (UInt8.toNat_lt _) (by decide) | with_reducible exact Nat.lt_of_lt_of_le (Go.Sh.bg_lt _ _) (by decide) | decide | omega) (by repeat' first | assumption | with_reducible exact hw _ | with_reducible exact hvw _ | with_reducible exact hkr _ | with_reducible exact hsw _ | with_reducible exact hhw _ | with_reducible exact Go.Sh.mod_lt' _ | with_reducible apply Go.Sh.mix_lt | with_reducible apply Go.Sh.rotr_lt | with_reducible apply Go.Sh.xor_lt | with_reducible apply Go.Sh.and_lt | with_reducible apply Go.Sh.or_lt | with_reducible apply Go.Sh.div_lt' | with_reducible exact Nat.lt_of_lt_of_le (UInt8.toNat_lt _) (by decide) | with_reducible exact Nat.lt_of_lt_of_le (Go.Sh.bg_lt _ _) (by decide) | decide | omega)) ?_
    refine XR.buildL [.int .u32 ((wd (bg bs) k : Nat) : Int)] [.int .u32 ((wd (bg bs) k : Nat) : Int)] rfl rfl rfl Tryd.underlying84 el83 rfl (by simp) ⟨rfl, rfl, trivial⟩ rfl rfl (List.nil_sublist _) (fun bu => ?_)
    refine XR.append (V := V) (news := wC [wd (bg bs) k]) 1 rfl rfl rfl Tryd.underlying84 el83 rfl rfl hV rfl (.slice Tryd.underlying84 (readable_row 0 rfl rfl) rfl (wC_one _)) (by omega) (by omega) ?_
    intro V' hV' hVl'
    refine ⟨.inr (List.Sublist.cons _ (List.nil_sublist _)), ?_⟩
    refine XR.rd rfl rfl rfl (Reads.assign rfl) ?_
    refine XR.nil ?_
    refine XQ.block_normal ?_
    refine XQ.then_normal ?_
    refine XC.region ?_
    refine XO.rd rfl rfl rfl (Reads.move rfl) ?_
    refine XO.rd rfl rfl rfl (Reads.add rfl rfl (by omega)) ?_
    refine XO.rd rfl rfl rfl (Reads.assign rfl) ?_
    refine XO.nil ?_
    refine XQ.dropn 1 ?_
    refine XQ.back (k + 1, V') ⟨by simp only; omega, by rw [sch0_succ, wC_append]; exact hV'⟩ (by simp only; omega) ⟨rfl, rfl, rfl, rfl, trivial⟩ rfl (List.Perm.refl _)
  · skip
    simp only [cmpInt, decide_eq_false_iff_not] at h1
    have hk16 : k = 16 := by omega
    subst hk16
    refine XC.exit ?_
    refine XQ.then_exit ?_
    refine XQ.then_exit ?_
    refine XQ.block_exit ?_
    refine XQ.then_normal ?_
    refine XC.seq ?_
    refine XC.seq ?_
    refine XC.region ?_
    refine XO.rd rfl rfl rfl (Reads.assign rfl) ?_
    refine XO.nil ?_
    refine XQ.then_normal ?_
    refine XC.block ?_
    refine XC.loop (ι := Nat × Vec) (fun q => [(0, .slice ah 8 ch), (5, q.2.val), (7, .int .i64 ((16 + q.1 : Nat) : Int))]) (fun q => I) (fun q => q.2.ent 83 :: ([] ++ Lf)) (fun q => q.1 ≤ 48 ∧ q.2.Is 1 (wC (schA (bg bs) q.1))) (fun q => 48 - q.1) (0, V) ⟨Nat.zero_le _, hV⟩ ⟨rfl, rfl, rfl, trivial⟩ rfl (List.Perm.refl _) (fun q hq => ?_)
    clear Vl hV V
    obtain ⟨k, V⟩ := q
    obtain ⟨hk1, hV⟩ := hq
    simp only at hk1 hV ⊢
    have hw := schA_ws (b := bg bs) (fun i => bg_lt _ _) k
    have Vl : V.len = 16 + k := by have := hV.len; rw [wC_len] at this; simp only [sch0_len, schA_len, compO_len, List.length_append, List.length_singleton] at this; omega
    refine XC.seq ?_
    refine XC.seq ?_
    refine XC.region ?_
    refine XO.rd rfl rfl rfl (Reads.move rfl) ?_
    refine XO.rd rfl rfl rfl (Reads.cmp rfl rfl rfl) ?_
    refine XO.nil ?_
    refine XQ.then_normal ?_
    refine XC.cond rfl (fun h2 => ?_) (fun h2 => ?_)
    · skip
      simp only [cmpInt, decide_eq_true_eq] at h2
      refine XC.skip ?_
      refine XQ.then_normal ?_
      refine XC.seq ?_
      refine XC.block ?_
      refine XC.seq ?_
      refine XC.draw m_mixed none (.pure 0 (.pure 1 (.pure 2 (.pure 3 (.pure 4 (.pure 6 (.pure 7 (.pure 8 (.pure 9 (.pure 10 (.pure 13 (.pure 14 (.pure 15 (.pure 16 (.pure 17 (.pure 18 (.eff 5 (.eff 11 (.pure 12 (.pure 19 (.pure 20 (.done)))))))))))))))))))))) _ (by kernel_rfl) (List.Sublist.refl _) ?_
      refine XR.rd rfl rfl rfl (Reads.move rfl) ?_
      refine XR.rd rfl rfl rfl (Reads.move rfl) ?_
      refine XR.rd rfl rfl rfl (Reads.sub rfl rfl (by omega)) ?_
      refine XR.rd rfl rfl rfl (Reads.index_slot (q := 16 + k - 15) Tryd.underlying84 z83 rfl rfl (by omega) (vec_isSomes (k := 16 + k - 15) hV (wC_get (by rw [schA_len]; omega))) (by omega)) ?_
      refine XR.rd rfl rfl rfl (Reads.load_vecs (v := .int .u32 ((g (schA (bg bs) k) (16 + k - 15) : Nat) : Int)) k83 rfl hV (e := 83) (List.mem_of_getElem? (i := 0) rfl) (wC_get (by rw [schA_len]; omega))) ?_
      refine XR.rd rfl rfl rfl (Reads.move rfl) ?_
      refine XR.rd rfl rfl rfl (Reads.move rfl) ?_
      refine XR.rd rfl rfl rfl (Reads.sub rfl rfl (by omega)) ?_
      refine XR.rd rfl rfl rfl (Reads.index_slot (q := 16 + k - 15) Tryd.underlying84 z83 rfl rfl (by omega) (vec_isSomes (k := 16 + k - 15) hV (wC_get (by rw [schA_len]; omega))) (by omega)) ?_
      refine XR.rd rfl rfl rfl (Reads.load_vecs (v := .int .u32 ((g (schA (bg bs) k) (16 + k - 15) : Nat) : Int)) k83 rfl hV (e := 83) (List.mem_of_getElem? (i := 0) rfl) (wC_get (by rw [schA_len]; omega))) ?_
      refine XR.rd rfl rfl rfl (Reads.move rfl) ?_
      refine XR.rd rfl rfl rfl (Reads.move rfl) ?_
      refine XR.rd rfl rfl rfl (Reads.sub rfl rfl (by omega)) ?_
      refine XR.rd rfl rfl rfl (Reads.index_slot (q := 16 + k - 15) Tryd.underlying84 z83 rfl rfl (by omega) (vec_isSomes (k := 16 + k - 15) hV (wC_get (by rw [schA_len]; omega))) (by omega)) ?_
      refine XR.rd rfl rfl rfl (Reads.load_vecs (v := .int .u32 ((g (schA (bg bs) k) (16 + k - 15) : Nat) : Int)) k83 rfl hV (e := 83) (List.mem_of_getElem? (i := 0) rfl) (wC_get (by rw [schA_len]; omega))) ?_
      refine XR.rd rfl rfl rfl (Reads.shrn (s := 3) rfl rfl (by decide)) ?_
      refine XR.callp rfl rfl rfl en64 (rrot_any _ 7 _ (hw _) (by decide)) ⟨rfl, rfl, trivial⟩ (List.Sublist.refl _) ?_
      refine XR.callp rfl rfl rfl en64 (rrot_any _ 18 _ (hw _) (by decide)) ⟨rfl, rfl, trivial⟩ (List.Sublist.refl _) ?_
      refine XR.rd rfl rfl rfl (Reads.uxor rfl rfl rfl (rotr_lt (hw _)) (rotr_lt (hw _))) ?_
      rw [mix2]
      refine XR.rd rfl rfl rfl (Reads.uxor rfl rfl rfl (by repeat' first | assumption | with_reducible exact hw _ | with_reducible exact hvw _ | with_reducible exact hkr _ | with_reducible exact hsw _ | with_reducible exact hhw _ | with_reducible exact Go.Sh.mod_lt' _ | with_reducible apply Go.Sh.mix_lt | with_reducible apply Go.Sh.rotr_lt | with_reducible apply Go.Sh.xor_lt | with_reducible apply Go.Sh.and_lt | with_reducible apply Go.Sh.or_lt | with_reducible apply Go.Sh.div_lt' | with_reducible exact Nat.lt_of_lt_of_le (UInt8.toNat_lt _) (by decide) | with_reducible exact Nat.lt_of_lt_of_le (Go.Sh.bg_lt _ _) (by decide) | decide | omega) (by repeat' first | assumption | with_reducible exact hw _ | with_reducible exact hvw _ | with_reducible exact hkr _ | with_reducible exact hsw _ | with_reducible exact hhw _ | with_reducible exact Go.Sh.mod_lt' _ | with_reducible apply Go.Sh.mix_lt | with_reducible apply Go.Sh.rotr_lt | with_reducible apply Go.Sh.xor_lt | with_reducible apply Go.Sh.and_lt | with_reducible apply Go.Sh.or_lt | with_reducible apply Go.Sh.div_lt' | with_reducible exact Nat.lt_of_lt_of_le (UInt8.toNat_lt _) (by decide) | with_reducible exact Nat.lt_of_lt_of_le (Go.Sh.bg_lt _ _) (by decide) | decide | omega)) ?_
      refine XR.rd rfl rfl rfl (Reads.assign rfl) ?_
      refine XR.nil ?_
      refine XQ.then_normal ?_
      refine XC.seq ?_
      refine XC.draw m_mixed none (.pure 0 (.pure 1 (.pure 2 (.pure 3 (.pure 4 (.pure 6 (.pure 7 (.pure 8 (.pure 9 (.pure 10 (.pure 13 (.pure 14 (.pure 15 (.pure 16 (.pure 17 (.pure 18 (.eff 5 (.eff 11 (.pure 12 (.pure 19 (.pure 20 (.done)))))))))))))))))))))) _ (by kernel_rfl) (List.Sublist.refl _) ?_
      refine XR.rd rfl rfl rfl (Reads.move rfl) ?_
      refine XR.rd rfl rfl rfl (Reads.move rfl) ?_
      refine XR.rd rfl rfl rfl (Reads.sub rfl rfl (by omega)) ?_
      refine XR.rd rfl rfl rfl (Reads.index_slot (q := 16 + k - 2) Tryd.underlying84 z83 rfl rfl (by omega) (vec_isSomes (k := 16 + k - 2) hV (wC_get (by rw [schA_len]; omega))) (by omega)) ?_
      refine XR.rd rfl rfl rfl (Reads.load_vecs (v := .int .u32 ((g (schA (bg bs) k) (16 + k - 2) : Nat) : Int)) k83 rfl hV (e := 83) (List.mem_of_getElem? (i := 0) rfl) (wC_get (by rw [schA_len]; omega))) ?_
      refine XR.rd rfl rfl rfl (Reads.move rfl) ?_
      refine XR.rd rfl rfl rfl (Reads.move rfl) ?_
      refine XR.rd rfl rfl rfl (Reads.sub rfl rfl (by omega)) ?_
      refine XR.rd rfl rfl rfl (Reads.index_slot (q := 16 + k - 2) Tryd.underlying84 z83 rfl rfl (by omega) (vec_isSomes (k := 16 + k - 2) hV (wC_get (by rw [schA_len]; omega))) (by omega)) ?_
      refine XR.rd rfl rfl rfl (Reads.load_vecs (v := .int .u32 ((g (schA (bg bs) k) (16 + k - 2) : Nat) : Int)) k83 rfl hV (e := 83) (List.mem_of_getElem? (i := 0) rfl) (wC_get (by rw [schA_len]; omega))) ?_
      refine XR.rd rfl rfl rfl (Reads.move rfl) ?_
      refine XR.rd rfl rfl rfl (Reads.move rfl) ?_
      refine XR.rd rfl rfl rfl (Reads.sub rfl rfl (by omega)) ?_
      refine XR.rd rfl rfl rfl (Reads.index_slot (q := 16 + k - 2) Tryd.underlying84 z83 rfl rfl (by omega) (vec_isSomes (k := 16 + k - 2) hV (wC_get (by rw [schA_len]; omega))) (by omega)) ?_
      refine XR.rd rfl rfl rfl (Reads.load_vecs (v := .int .u32 ((g (schA (bg bs) k) (16 + k - 2) : Nat) : Int)) k83 rfl hV (e := 83) (List.mem_of_getElem? (i := 0) rfl) (wC_get (by rw [schA_len]; omega))) ?_
      refine XR.rd rfl rfl rfl (Reads.shrn (s := 10) rfl rfl (by decide)) ?_
      refine XR.callp rfl rfl rfl en64 (rrot_any _ 17 _ (hw _) (by decide)) ⟨rfl, rfl, trivial⟩ (List.Sublist.refl _) ?_
      refine XR.callp rfl rfl rfl en64 (rrot_any _ 19 _ (hw _) (by decide)) ⟨rfl, rfl, trivial⟩ (List.Sublist.refl _) ?_
      refine XR.rd rfl rfl rfl (Reads.uxor rfl rfl rfl (rotr_lt (hw _)) (rotr_lt (hw _))) ?_
      rw [mix2]
      refine XR.rd rfl rfl rfl (Reads.uxor rfl rfl rfl (by repeat' first | assumption | with_reducible exact hw _ | with_reducible exact hvw _ | with_reducible exact hkr _ | with_reducible exact hsw _ | with_reducible exact hhw _ | with_reducible exact Go.Sh.mod_lt' _ | with_reducible apply Go.Sh.mix_lt | with_reducible apply Go.Sh.rotr_lt | with_reducible apply Go.Sh.xor_lt | with_reducible apply Go.Sh.and_lt | with_reducible apply Go.Sh.or_lt | with_reducible apply Go.Sh.div_lt' | with_reducible exact Nat.lt_of_lt_of_le (UInt8.toNat_lt _) (by decide) | with_reducible exact Nat.lt_of_lt_of_le (Go.Sh.bg_lt _ _) (by decide) | decide | omega) (by repeat' first | assumption | with_reducible exact hw _ | with_reducible exact hvw _ | with_reducible exact hkr _ | with_reducible exact hsw _ | with_reducible exact hhw _ | with_reducible exact Go.Sh.mod_lt' _ | with_reducible apply Go.Sh.mix_lt | with_reducible apply Go.Sh.rotr_lt | with_reducible apply Go.Sh.xor_lt | with_reducible apply Go.Sh.and_lt | with_reducible apply Go.Sh.or_lt | with_reducible apply Go.Sh.div_lt' | with_reducible exact Nat.lt_of_lt_of_le (UInt8.toNat_lt _) (by decide) | with_reducible exact Nat.lt_of_lt_of_le (Go.Sh.bg_lt _ _) (by decide) | decide | omega)) ?_
      refine XR.rd rfl rfl rfl (Reads.assign rfl) ?_
      refine XR.nil ?_
      refine XQ.then_normal ?_
      refine XC.weaken (E' := [(0, _), (5, _), (7, _), (8, _), (9, _)]) ⟨rfl, rfl, rfl, rfl, rfl, trivial⟩ ?_
      refine XC.draw m_mixed none (.pure 0 (.pure 1 (.pure 2 (.pure 3 (.pure 4 (.pure 6 (.pure 8 (.pure 9 (.pure 10 (.pure 11 (.pure 14 (.alt 5 (.pure 7 (.eff 12 (.pure 13 (.pure 15 (.eff 16 (.eff 17 (.pure 18 (.done)))))))) (.eff 12 (.eff 5 (.pure 7 (.pure 13 (.pure 15 (.eff 16 (.eff 17 (.pure 18 (.done))))))))))))))))))))) [] (by kernel_rfl) (List.nil_sublist _) ?_
      refine XR.rd rfl rfl rfl (Reads.move rfl) ?_
      refine XR.rd rfl rfl rfl (Reads.move rfl) ?_
      refine XR.rd rfl rfl rfl (Reads.move rfl) ?_
      refine XR.rd rfl rfl rfl (Reads.sub rfl rfl (by omega)) ?_
      refine XR.rd rfl rfl rfl (Reads.index_slot (q := 16 + k - 16) Tryd.underlying84 z83 rfl rfl (by omega) (vec_isSomes (k := 16 + k - 16) hV (wC_get (by rw [schA_len]; omega))) (by omega)) ?_
      refine XR.rd rfl rfl rfl (Reads.move rfl) ?_
      refine XR.rd rfl rfl rfl (Reads.move rfl) ?_
      refine XR.rd rfl rfl rfl (Reads.move rfl) ?_
      refine XR.rd rfl rfl rfl (Reads.sub rfl rfl (by omega)) ?_
      refine XR.rd rfl rfl rfl (Reads.index_slot (q := 16 + k - 7) Tryd.underlying84 z83 rfl rfl (by omega) (vec_isSomes (k := 16 + k - 7) hV (wC_get (by rw [schA_len]; omega))) (by omega)) ?_
      refine XR.rd rfl rfl rfl (Reads.move rfl) ?_
      refine XR.alt ?_ ?_
      · skip
        refine XR.rde rfl rfl rfl rfl (Reads.load_vecs (v := .int .u32 ((g (schA (bg bs) k) (16 + k - 16) : Nat) : Int)) k83 rfl hV (e := 83) (List.mem_of_getElem? (i := 0) rfl) (wC_get (by rw [schA_len]; omega))) (List.nil_sublist _) ?_
        refine XR.rd rfl rfl rfl (Reads.uadd rfl rfl rfl) ?_
        refine XR.rde rfl rfl rfl rfl (Reads.load_vecs (v := .int .u32 ((g (schA (bg bs) k) (16 + k - 7) : Nat) : Int)) k83 rfl hV (e := 83) (List.mem_of_getElem? (i := 0) rfl) (wC_get (by rw [schA_len]; omega))) (List.nil_sublist _) ?_
        refine XR.rd rfl rfl rfl (Reads.uadd rfl rfl rfl) ?_
        refine XR.rd rfl rfl rfl (Reads.uadd rfl rfl rfl) ?_
        refine XR.buildL [.int .u32 ((nxt (schA (bg bs) k) (16 + k) : Nat) : Int)] [.int .u32 ((nxt (schA (bg bs) k) (16 + k) : Nat) : Int)] rfl rfl rfl Tryd.underlying84 el83 rfl (by simp) ⟨rfl, rfl, trivial⟩ rfl rfl (List.nil_sublist _) (fun bu => ?_)
        refine XR.append (V := V) (news := wC [nxt (schA (bg bs) k) (16 + k)]) 1 rfl rfl rfl Tryd.underlying84 el83 rfl rfl hV rfl (.slice Tryd.underlying84 (readable_row 0 rfl rfl) rfl (wC_one _)) (by omega) (by omega) ?_
        intro V' hV' hVl'
        refine ⟨.inr (List.Sublist.cons _ (List.nil_sublist _)), ?_⟩
        refine XR.rd rfl rfl rfl (Reads.assign rfl) ?_
        refine XR.nil ?_
        refine XQ.block_normal ?_
        refine XQ.then_normal ?_
        refine XC.region ?_
        refine XO.rd rfl rfl rfl (Reads.move rfl) ?_
        refine XO.rd rfl rfl rfl (Reads.add rfl rfl (by omega)) ?_
        refine XO.rd rfl rfl rfl (Reads.assign rfl) ?_
        refine XO.nil ?_
        refine XQ.dropn 1 ?_
        rw [show ((16 + k : Nat) : Int) + 1 = ((16 + (k + 1) : Nat) : Int) by omega]
        refine XQ.back (k + 1, V') ⟨by simp only; omega, by rw [schA, wC_append]; exact hV'⟩ (by simp only; omega) ⟨rfl, rfl, rfl, trivial⟩ rfl (List.Perm.refl _)
      · skip
        refine XR.rde rfl rfl rfl rfl (Reads.load_vecs (v := .int .u32 ((g (schA (bg bs) k) (16 + k - 7) : Nat) : Int)) k83 rfl hV (e := 83) (List.mem_of_getElem? (i := 0) rfl) (wC_get (by rw [schA_len]; omega))) (List.nil_sublist _) ?_
        refine XR.rde rfl rfl rfl rfl (Reads.load_vecs (v := .int .u32 ((g (schA (bg bs) k) (16 + k - 16) : Nat) : Int)) k83 rfl hV (e := 83) (List.mem_of_getElem? (i := 0) rfl) (wC_get (by rw [schA_len]; omega))) (List.nil_sublist _) ?_
        refine XR.rd rfl rfl rfl (Reads.uadd rfl rfl rfl) ?_
        refine XR.rd rfl rfl rfl (Reads.uadd rfl rfl rfl) ?_
        refine XR.rd rfl rfl rfl (Reads.uadd rfl rfl rfl) ?_
        refine XR.buildL [.int .u32 ((nxt (schA (bg bs) k) (16 + k) : Nat) : Int)] [.int .u32 ((nxt (schA (bg bs) k) (16 + k) : Nat) : Int)] rfl rfl rfl Tryd.underlying84 el83 rfl (by simp) ⟨rfl, rfl, trivial⟩ rfl rfl (List.nil_sublist _) (fun bu => ?_)
        refine XR.append (V := V) (news := wC [nxt (schA (bg bs) k) (16 + k)]) 1 rfl rfl rfl Tryd.underlying84 el83 rfl rfl hV rfl (.slice Tryd.underlying84 (readable_row 0 rfl rfl) rfl (wC_one _)) (by omega) (by omega) ?_
        intro V' hV' hVl'
        refine ⟨.inr (List.Sublist.cons _ (List.nil_sublist _)), ?_⟩
        refine XR.rd rfl rfl rfl (Reads.assign rfl) ?_
        refine XR.nil ?_
        refine XQ.block_normal ?_
        refine XQ.then_normal ?_
        refine XC.region ?_
        refine XO.rd rfl rfl rfl (Reads.move rfl) ?_
        refine XO.rd rfl rfl rfl (Reads.add rfl rfl (by omega)) ?_
        refine XO.rd rfl rfl rfl (Reads.assign rfl) ?_
        refine XO.nil ?_
        refine XQ.dropn 1 ?_
        rw [show ((16 + k : Nat) : Int) + 1 = ((16 + (k + 1) : Nat) : Int) by omega]
        refine XQ.back (k + 1, V') ⟨by simp only; omega, by rw [schA, wC_append]; exact hV'⟩ (by simp only; omega) ⟨rfl, rfl, rfl, trivial⟩ rfl (List.Perm.refl _)
    · skip
      simp only [cmpInt, decide_eq_false_iff_not] at h2
      have hk48 : k = 48 := by omega
      subst hk48
      have hV : V.Is 1 (wC (sch (bg bs))) := hV
      refine XC.exit ?_
      refine XQ.then_exit ?_
      refine XQ.then_exit ?_
      refine XQ.block_exit ?_
      refine XQ.then_normal ?_
      refine XC.seq ?_
      refine XC.region ?_
      refine XO.callo (vs := []) (L1 := []) rfl rfl rfl en65 trivial (rcon_any _) (List.Perm.refl _) ?_
      rintro v' J' L' _ ⟨bk, rfl, hJ', rfl⟩
      replace hJ' := hJ'.symm
      subst hJ'
      refine XO.rd rfl rfl rfl (Reads.assign rfl) ?_
      refine XO.nil ?_
      refine XQ.then_normal ?_
      refine XC.seq ?_
      refine XC.region ?_
      refine XO.rd rfl rfl rfl (Reads.assign rfl) ?_
      refine XO.nil ?_
      refine XQ.then_normal ?_
      refine XC.seq ?_
      refine XC.region ?_
      refine XO.rd rfl rfl rfl (Reads.move rfl) ?_
      refine XO.rd rfl rfl rfl (Reads.move rfl) ?_
      refine XO.vec0 83 ?_
      have hnw := hH.words (P := Tryd.prog) (L := Vec.nil.ent 83 :: some (bk, .cells (wC KR).toArray 83 (0, 0)) :: V.ent 83 :: ([] ++ Lf)) (c := ch) Tryd.underlying84
      rw [hh] at hnw
      refine XO.append (V := Vec.nil) 0 rfl rfl Tryd.underlying84 el83 rfl rfl (Vec.nil_is 1) rfl hnw (by decide) (by decide) ?_
      intro Vv hv hvl
      refine XO.rd rfl rfl rfl (Reads.assign rfl) ?_
      refine XO.nil ?_
      refine XQ.then_normal ?_
      refine XC.seq ?_
      refine XC.seq ?_
      refine XC.region ?_
      refine XO.rd rfl rfl rfl (Reads.assign rfl) ?_
      refine XO.nil ?_
      refine XQ.then_normal ?_
      refine XC.block ?_
      refine XC.loop (ι := Nat × Vec) (fun q => [(0, .slice ah 8 ch), (5, V.val), (10, .slice (some ⟨bk, 0, none⟩) 64 64), (11, q.2.val), (12, .int .i64 q.1)]) (fun q => I) (fun q => q.2.ent 83 :: some (bk, .cells (wC KR).toArray 83 (0, 0)) :: V.ent 83 :: ([] ++ Lf)) (fun q => q.1 ≤ 64 ∧ q.2.Is 1 (wC (rnds (bg bs) h q.1))) (fun q => 64 - q.1) (0, Vv) ⟨Nat.zero_le _, hv⟩ ⟨rfl, rfl, rfl, rfl, rfl, trivial⟩ rfl (List.Perm.refl _) (fun q hq => ?_)
      clear hvl hv Vv
      obtain ⟨i, Vv⟩ := q
      obtain ⟨hi1, hv⟩ := hq
      simp only at hi1 hv ⊢
      have hv8 := rnds_len (b := bg bs) hh i
      have hvw := rnds_ws (b := bg bs) hhw i
      generalize hvv : rnds (bg bs) h i = v at hv hv8 hvw
      have Vvl : Vv.len = 8 := by have := hv.len; rw [wC_len] at this; omega
      refine XC.seq ?_
      refine XC.seq ?_
      refine XC.region ?_
      refine XO.rd rfl rfl rfl (Reads.move rfl) ?_
      refine XO.rd rfl rfl rfl (Reads.cmp rfl rfl rfl) ?_
      refine XO.nil ?_
      refine XQ.then_normal ?_
      refine XC.cond rfl (fun h3 => ?_) (fun h3 => ?_)
      · skip
        simp only [cmpInt, decide_eq_true_eq] at h3
        refine XC.skip ?_
        refine XQ.then_normal ?_
        refine XC.seq ?_
        refine XC.block ?_
        refine XC.seq ?_
        refine XC.region ?_
        refine XO.rd rfl rfl rfl (Reads.move rfl) ?_
        refine XO.rd rfl rfl rfl (Reads.index_slot (q := 0) Tryd.underlying84 z83 rfl rfl (by omega) (vec_isSomes (k := 0) hv (wC_get (by omega))) (by decide)) ?_
        refine XO.rd rfl rfl rfl (Reads.load_vecs (v := .int .u32 ((g v 0 : Nat) : Int)) k83 rfl hv (e := 83) (List.mem_of_getElem? (i := 0) rfl) (wC_get (by omega))) ?_
        refine XO.rd rfl rfl rfl (Reads.assign rfl) ?_
        refine XO.nil ?_
        refine XQ.then_normal ?_
        refine XC.seq ?_
        refine XC.region ?_
        refine XO.rd rfl rfl rfl (Reads.move rfl) ?_
        refine XO.rd rfl rfl rfl (Reads.index_slot (q := 4) Tryd.underlying84 z83 rfl rfl (by omega) (vec_isSomes (k := 4) hv (wC_get (by omega))) (by decide)) ?_
        refine XO.rd rfl rfl rfl (Reads.load_vecs (v := .int .u32 ((g v 4 : Nat) : Int)) k83 rfl hv (e := 83) (List.mem_of_getElem? (i := 0) rfl) (wC_get (by omega))) ?_
        refine XO.rd rfl rfl rfl (Reads.assign rfl) ?_
        refine XO.nil ?_
        refine XQ.then_normal ?_
        refine XC.seq ?_
        refine XC.draw m_mixed none (.pure 0 (.pure 1 (.pure 2 (.pure 3 (.pure 5 (.pure 8 (.pure 12 (.pure 13 (.pure 14 (.pure 15 (.pure 16 (.pure 17 (.pure 18 (.pure 19 (.pure 20 (.pure 21 (.pure 22 (.pure 23 (.pure 25 (.pure 26 (.pure 27 (.pure 28 (.pure 30 (.pure 31 (.pure 32 (.pure 33 (.eff 4 (.eff 6 (.pure 7 (.eff 9 (.pure 10 (.pure 11 (.pure 24 (.pure 29 (.pure 34 (.pure 35 (.done))))))))))))))))))))))))))))))))))))) _ (by kernel_rfl) (List.Sublist.refl _) ?_
        refine XR.rd rfl rfl rfl (Reads.move rfl) ?_
        refine XR.rd rfl rfl rfl (Reads.index_slot (q := 7) Tryd.underlying84 z83 rfl rfl (by omega) (vec_isSomes (k := 7) hv (wC_get (by omega))) (by decide)) ?_
        refine XR.rd rfl rfl rfl (Reads.load_vecs (v := .int .u32 ((g v 7 : Nat) : Int)) k83 rfl hv (e := 83) (List.mem_of_getElem? (i := 0) rfl) (wC_get (by omega))) ?_
        refine XR.rd rfl rfl rfl (Reads.move rfl) ?_
        refine XR.rd rfl rfl rfl (Reads.move rfl) ?_
        refine XR.rd rfl rfl rfl (Reads.move rfl) ?_
        refine XR.rd rfl rfl rfl (Reads.move rfl) ?_
        refine XR.rd rfl rfl rfl (Reads.move rfl) ?_
        refine XR.rd rfl rfl rfl (Reads.index_slot (q := 5) Tryd.underlying84 z83 rfl rfl (by omega) (vec_isSomes (k := 5) hv (wC_get (by omega))) (by decide)) ?_
        refine XR.rd rfl rfl rfl (Reads.load_vecs (v := .int .u32 ((g v 5 : Nat) : Int)) k83 rfl hv (e := 83) (List.mem_of_getElem? (i := 0) rfl) (wC_get (by omega))) ?_
        refine XR.rd rfl rfl rfl (Reads.uand rfl rfl rfl (by repeat' first | assumption | with_reducible exact hw _ | with_reducible exact hvw _ | with_reducible exact hkr _ | with_reducible exact hsw _ | with_reducible exact hhw _ | with_reducible exact Go.Sh.mod_lt' _ | with_reducible apply Go.Sh.mix_lt | with_reducible apply Go.Sh.rotr_lt | with_reducible apply Go.Sh.xor_lt | with_reducible apply Go.Sh.and_lt | with_reducible apply Go.Sh.or_lt | with_reducible apply Go.Sh.div_lt' | with_reducible exact Nat.lt_of_lt_of_le (UInt8.toNat_lt _) (by decide) | with_reducible exact Nat.lt_of_lt_of_le (Go.Sh.bg_lt _ _) (by decide) | decide | omega) (by repeat' first | assumption | with_reducible exact hw _ | with_reducible exact hvw _ | with_reducible exact hkr _ | with_reducible exact hsw _ | with_reducible exact hhw _ | with_reducible exact Go.Sh.mod_lt' _ | with_reducible apply Go.Sh.mix_lt | with_reducible apply Go.Sh.rotr_lt | with_reducible apply Go.Sh.xor_lt | with_reducible apply Go.Sh.and_lt | with_reducible apply Go.Sh.or_lt | with_reducible apply Go.Sh.div_lt' | with_reducible exact Nat.lt_of_lt_of_le (UInt8.toNat_lt _) (by decide) | with_reducible exact Nat.lt_of_lt_of_le (Go.Sh.bg_lt _ _) (by decide) | decide | omega)) ?_
        refine XR.rd rfl rfl rfl (Reads.move rfl) ?_
        refine XR.rd rfl rfl rfl (Reads.unot rfl rfl (by repeat' first | assumption | with_reducible exact hw _ | with_reducible exact hvw _ | with_reducible exact hkr _ | with_reducible exact hsw _ | with_reducible exact hhw _ | with_reducible exact Go.Sh.mod_lt' _ | with_reducible apply Go.Sh.mix_lt | with_reducible apply Go.Sh.rotr_lt | with_reducible apply Go.Sh.xor_lt | with_reducible apply Go.Sh.and_lt | with_reducible apply Go.Sh.or_lt | with_reducible apply Go.Sh.div_lt' | with_reducible exact Nat.lt_of_lt_of_le (UInt8.toNat_lt _) (by decide) | with_reducible exact Nat.lt_of_lt_of_le (Go.Sh.bg_lt _ _) (by decide) | decide | omega)) ?_
        refine XR.rd rfl rfl rfl (Reads.move rfl) ?_
        refine XR.rd rfl rfl rfl (Reads.index_slot (q := 6) Tryd.underlying84 z83 rfl rfl (by omega) (vec_isSomes (k := 6) hv (wC_get (by omega))) (by decide)) ?_
        refine XR.rd rfl rfl rfl (Reads.load_vecs (v := .int .u32 ((g v 6 : Nat) : Int)) k83 rfl hv (e := 83) (List.mem_of_getElem? (i := 0) rfl) (wC_get (by omega))) ?_
        refine XR.rd rfl rfl rfl (Reads.uand rfl rfl rfl (by repeat' first | assumption | with_reducible exact hw _ | with_reducible exact hvw _ | with_reducible exact hkr _ | with_reducible exact hsw _ | with_reducible exact hhw _ | with_reducible exact Go.Sh.mod_lt' _ | with_reducible apply Go.Sh.mix_lt | with_reducible apply Go.Sh.rotr_lt | with_reducible apply Go.Sh.xor_lt | with_reducible apply Go.Sh.and_lt | with_reducible apply Go.Sh.or_lt | with_reducible apply Go.Sh.div_lt' | with_reducible exact Nat.lt_of_lt_of_le (UInt8.toNat_lt _) (by decide) | with_reducible exact Nat.lt_of_lt_of_le (Go.Sh.bg_lt _ _) (by decide) | decide | omega) (by repeat' first | assumption | with_reducible exact hw _ | with_reducible exact hvw _ | with_reducible exact hkr _ | with_reducible exact hsw _ | with_reducible exact hhw _ | with_reducible exact Go.Sh.mod_lt' _ | with_reducible apply Go.Sh.mix_lt | with_reducible apply Go.Sh.rotr_lt | with_reducible apply Go.Sh.xor_lt | with_reducible apply Go.Sh.and_lt | with_reducible apply Go.Sh.or_lt | with_reducible apply Go.Sh.div_lt' | with_reducible exact Nat.lt_of_lt_of_le (UInt8.toNat_lt _) (by decide) | with_reducible exact Nat.lt_of_lt_of_le (Go.Sh.bg_lt _ _) (by decide) | decide | omega)) ?_
        refine XR.rd rfl rfl rfl (Reads.uxor rfl rfl rfl (by repeat' first | assumption | with_reducible exact hw _ | with_reducible exact hvw _ | with_reducible exact hkr _ | with_reducible exact hsw _ | with_reducible exact hhw _ | with_reducible exact Go.Sh.mod_lt' _ | with_reducible apply Go.Sh.mix_lt | with_reducible apply Go.Sh.rotr_lt | with_reducible apply Go.Sh.xor_lt | with_reducible apply Go.Sh.and_lt | with_reducible apply Go.Sh.or_lt | with_reducible apply Go.Sh.div_lt' | with_reducible exact Nat.lt_of_lt_of_le (UInt8.toNat_lt _) (by decide) | with_reducible exact Nat.lt_of_lt_of_le (Go.Sh.bg_lt _ _) (by decide) | decide | omega) (by repeat' first | assumption | with_reducible exact hw _ | with_reducible exact hvw _ | with_reducible exact hkr _ | with_reducible exact hsw _ | with_reducible exact hhw _ | with_reducible exact Go.Sh.mod_lt' _ | with_reducible apply Go.Sh.mix_lt | with_reducible apply Go.Sh.rotr_lt | with_reducible apply Go.Sh.xor_lt | with_reducible apply Go.Sh.and_lt | with_reducible apply Go.Sh.or_lt | with_reducible apply Go.Sh.div_lt' | with_reducible exact Nat.lt_of_lt_of_le (UInt8.toNat_lt _) (by decide) | with_reducible exact Nat.lt_of_lt_of_le (Go.Sh.bg_lt _ _) (by decide) | decide | omega)) ?_
        refine XR.rd rfl rfl rfl (Reads.move rfl) ?_
        refine XR.rd rfl rfl rfl (Reads.move rfl) ?_
        refine XR.rd rfl rfl rfl (Reads.index_own (q := i) Tryd.underlying84 z83 rfl rfl (by omega) (by omega)) ?_
        refine XR.rd rfl rfl rfl (Reads.load_own (v := .int .u32 ((g KR i : Nat) : Int)) k83 rfl (OwnAt.of 1 rfl (wC_g (by rw [KR_len]; omega)))) ?_
        refine XR.rd rfl rfl rfl (Reads.move rfl) ?_
        refine XR.rd rfl rfl rfl (Reads.move rfl) ?_
        refine XR.rd rfl rfl rfl (Reads.index_slot (q := i) Tryd.underlying84 z83 rfl rfl (by omega) (vec_isSomes (k := i) hV (wC_get (by rw [sch_len]; omega))) (by omega)) ?_
        refine XR.rd rfl rfl rfl (Reads.load_vecs (v := .int .u32 ((g (sch (bg bs)) i : Nat) : Int)) k83 rfl hV (e := 83) (List.mem_of_getElem? (i := 2) rfl) (wC_get (by rw [sch_len]; omega))) ?_
        refine XR.callp rfl rfl rfl en64 (rrot_any _ 6 _ (hvw _) (by decide)) ⟨rfl, rfl, trivial⟩ (List.Sublist.refl _) ?_
        refine XR.callp rfl rfl rfl en64 (rrot_any _ 11 _ (hvw _) (by decide)) ⟨rfl, rfl, trivial⟩ (List.Sublist.refl _) ?_
        refine XR.rd rfl rfl rfl (Reads.uxor rfl rfl rfl (by repeat' first | assumption | with_reducible exact hw _ | with_reducible exact hvw _ | with_reducible exact hkr _ | with_reducible exact hsw _ | with_reducible exact hhw _ | with_reducible exact Go.Sh.mod_lt' _ | with_reducible apply Go.Sh.mix_lt | with_reducible apply Go.Sh.rotr_lt | with_reducible apply Go.Sh.xor_lt | with_reducible apply Go.Sh.and_lt | with_reducible apply Go.Sh.or_lt | with_reducible apply Go.Sh.div_lt' | with_reducible exact Nat.lt_of_lt_of_le (UInt8.toNat_lt _) (by decide) | with_reducible exact Nat.lt_of_lt_of_le (Go.Sh.bg_lt _ _) (by decide) | decide | omega) (by repeat' first | assumption | with_reducible exact hw _ | with_reducible exact hvw _ | with_reducible exact hkr _ | with_reducible exact hsw _ | with_reducible exact hhw _ | with_reducible exact Go.Sh.mod_lt' _ | with_reducible apply Go.Sh.mix_lt | with_reducible apply Go.Sh.rotr_lt | with_reducible apply Go.Sh.xor_lt | with_reducible apply Go.Sh.and_lt | with_reducible apply Go.Sh.or_lt | with_reducible apply Go.Sh.div_lt' | with_reducible exact Nat.lt_of_lt_of_le (UInt8.toNat_lt _) (by decide) | with_reducible exact Nat.lt_of_lt_of_le (Go.Sh.bg_lt _ _) (by decide) | decide | omega)) ?_
        refine XR.callp rfl rfl rfl en64 (rrot_any _ 25 _ (hvw _) (by decide)) ⟨rfl, rfl, trivial⟩ (List.Sublist.refl _) ?_
        refine XR.rd rfl rfl rfl (Reads.uxor rfl rfl rfl (xor_lt (rotr_lt (hvw _)) (rotr_lt (hvw _))) (rotr_lt (hvw _))) ?_
        rw [mix3]
        refine XR.rd rfl rfl rfl (Reads.uadd rfl rfl rfl) ?_
        refine XR.rd rfl rfl rfl (Reads.uadd rfl rfl rfl) ?_
        refine XR.rd rfl rfl rfl (Reads.uadd rfl rfl rfl) ?_
        refine XR.rd rfl rfl rfl (Reads.uadd rfl rfl rfl) ?_
        show XR _ _ _ _ _ _ _ _ _ ((169, .int .u32 ((t1 v (g KR i) (g (sch (bg bs)) i) : Nat) : Int)) :: _) _ _ _
        refine XR.rd rfl rfl rfl (Reads.assign rfl) ?_
        refine XR.nil ?_
        refine XQ.then_normal ?_
        refine XC.seq ?_
        refine XC.weaken (E' := [(0, _), (5, _), (10, _), (11, _), (12, _), (13, _), (14, _), (15, _)]) ⟨rfl, rfl, rfl, rfl, rfl, rfl, rfl, rfl, trivial⟩ ?_
        refine XC.draw m_mixed none (.pure 0 (.pure 2 (.pure 5 (.pure 8 (.pure 9 (.pure 10 (.pure 11 (.pure 12 (.pure 13 (.pure 14 (.pure 15 (.pure 16 (.pure 17 (.pure 18 (.pure 19 (.pure 20 (.pure 21 (.pure 22 (.pure 23 (.pure 24 (.pure 25 (.pure 26 (.eff 1 (.eff 3 (.pure 4 (.eff 6 (.pure 7 (.pure 27 (.pure 28 (.done)))))))))))))))))))))))))))))) _ (by kernel_rfl) (List.Sublist.refl _) ?_
        refine XR.rd rfl rfl rfl (Reads.move rfl) ?_
        refine XR.rd rfl rfl rfl (Reads.move rfl) ?_
        refine XR.rd rfl rfl rfl (Reads.move rfl) ?_
        refine XR.rd rfl rfl rfl (Reads.move rfl) ?_
        refine XR.rd rfl rfl rfl (Reads.move rfl) ?_
        refine XR.rd rfl rfl rfl (Reads.index_slot (q := 1) Tryd.underlying84 z83 rfl rfl (by omega) (vec_isSomes (k := 1) hv (wC_get (by omega))) (by decide)) ?_
        refine XR.rd rfl rfl rfl (Reads.load_vecs (v := .int .u32 ((g v 1 : Nat) : Int)) k83 rfl hv (e := 83) (List.mem_of_getElem? (i := 0) rfl) (wC_get (by omega))) ?_
        refine XR.rd rfl rfl rfl (Reads.uand rfl rfl rfl (by repeat' first | assumption | with_reducible exact hw _ | with_reducible exact hvw _ | with_reducible exact hkr _ | with_reducible exact hsw _ | with_reducible exact hhw _ | with_reducible exact Go.Sh.mod_lt' _ | with_reducible apply Go.Sh.mix_lt | with_reducible apply Go.Sh.rotr_lt | with_reducible apply Go.Sh.xor_lt | with_reducible apply Go.Sh.and_lt | with_reducible apply Go.Sh.or_lt | with_reducible apply Go.Sh.div_lt' | with_reducible exact Nat.lt_of_lt_of_le (UInt8.toNat_lt _) (by decide) | with_reducible exact Nat.lt_of_lt_of_le (Go.Sh.bg_lt _ _) (by decide) | decide | omega) (by repeat' first | assumption | with_reducible exact hw _ | with_reducible exact hvw _ | with_reducible exact hkr _ | with_reducible exact hsw _ | with_reducible exact hhw _ | with_reducible exact Go.Sh.mod_lt' _ | with_reducible apply Go.Sh.mix_lt | with_reducible apply Go.Sh.rotr_lt | with_reducible apply Go.Sh.xor_lt | with_reducible apply Go.Sh.and_lt | with_reducible apply Go.Sh.or_lt | with_reducible apply Go.Sh.div_lt' | with_reducible exact Nat.lt_of_lt_of_le (UInt8.toNat_lt _) (by decide) | with_reducible exact Nat.lt_of_lt_of_le (Go.Sh.bg_lt _ _) (by decide) | decide | omega)) ?_
        refine XR.rd rfl rfl rfl (Reads.move rfl) ?_
        refine XR.rd rfl rfl rfl (Reads.move rfl) ?_
        refine XR.rd rfl rfl rfl (Reads.index_slot (q := 2) Tryd.underlying84 z83 rfl rfl (by omega) (vec_isSomes (k := 2) hv (wC_get (by omega))) (by decide)) ?_
        refine XR.rd rfl rfl rfl (Reads.load_vecs (v := .int .u32 ((g v 2 : Nat) : Int)) k83 rfl hv (e := 83) (List.mem_of_getElem? (i := 0) rfl) (wC_get (by omega))) ?_
        refine XR.rd rfl rfl rfl (Reads.uand rfl rfl rfl (by repeat' first | assumption | with_reducible exact hw _ | with_reducible exact hvw _ | with_reducible exact hkr _ | with_reducible exact hsw _ | with_reducible exact hhw _ | with_reducible exact Go.Sh.mod_lt' _ | with_reducible apply Go.Sh.mix_lt | with_reducible apply Go.Sh.rotr_lt | with_reducible apply Go.Sh.xor_lt | with_reducible apply Go.Sh.and_lt | with_reducible apply Go.Sh.or_lt | with_reducible apply Go.Sh.div_lt' | with_reducible exact Nat.lt_of_lt_of_le (UInt8.toNat_lt _) (by decide) | with_reducible exact Nat.lt_of_lt_of_le (Go.Sh.bg_lt _ _) (by decide) | decide | omega) (by repeat' first | assumption | with_reducible exact hw _ | with_reducible exact hvw _ | with_reducible exact hkr _ | with_reducible exact hsw _ | with_reducible exact hhw _ | with_reducible exact Go.Sh.mod_lt' _ | with_reducible apply Go.Sh.mix_lt | with_reducible apply Go.Sh.rotr_lt | with_reducible apply Go.Sh.xor_lt | with_reducible apply Go.Sh.and_lt | with_reducible apply Go.Sh.or_lt | with_reducible apply Go.Sh.div_lt' | with_reducible exact Nat.lt_of_lt_of_le (UInt8.toNat_lt _) (by decide) | with_reducible exact Nat.lt_of_lt_of_le (Go.Sh.bg_lt _ _) (by decide) | decide | omega)) ?_
        refine XR.rd rfl rfl rfl (Reads.uxor rfl rfl rfl (by repeat' first | assumption | with_reducible exact hw _ | with_reducible exact hvw _ | with_reducible exact hkr _ | with_reducible exact hsw _ | with_reducible exact hhw _ | with_reducible exact Go.Sh.mod_lt' _ | with_reducible apply Go.Sh.mix_lt | with_reducible apply Go.Sh.rotr_lt | with_reducible apply Go.Sh.xor_lt | with_reducible apply Go.Sh.and_lt | with_reducible apply Go.Sh.or_lt | with_reducible apply Go.Sh.div_lt' | with_reducible exact Nat.lt_of_lt_of_le (UInt8.toNat_lt _) (by decide) | with_reducible exact Nat.lt_of_lt_of_le (Go.Sh.bg_lt _ _) (by decide) | decide | omega) (by repeat' first | assumption | with_reducible exact hw _ | with_reducible exact hvw _ | with_reducible exact hkr _ | with_reducible exact hsw _ | with_reducible exact hhw _ | with_reducible exact Go.Sh.mod_lt' _ | with_reducible apply Go.Sh.mix_lt | with_reducible apply Go.Sh.rotr_lt | with_reducible apply Go.Sh.xor_lt | with_reducible apply Go.Sh.and_lt | with_reducible apply Go.Sh.or_lt | with_reducible apply Go.Sh.div_lt' | with_reducible exact Nat.lt_of_lt_of_le (UInt8.toNat_lt _) (by decide) | with_reducible exact Nat.lt_of_lt_of_le (Go.Sh.bg_lt _ _) (by decide) | decide | omega)) ?_
        refine XR.rd rfl rfl rfl (Reads.move rfl) ?_
        refine XR.rd rfl rfl rfl (Reads.index_slot (q := 1) Tryd.underlying84 z83 rfl rfl (by omega) (vec_isSomes (k := 1) hv (wC_get (by omega))) (by decide)) ?_
        refine XR.rd rfl rfl rfl (Reads.load_vecs (v := .int .u32 ((g v 1 : Nat) : Int)) k83 rfl hv (e := 83) (List.mem_of_getElem? (i := 0) rfl) (wC_get (by omega))) ?_
        refine XR.rd rfl rfl rfl (Reads.move rfl) ?_
        refine XR.rd rfl rfl rfl (Reads.index_slot (q := 2) Tryd.underlying84 z83 rfl rfl (by omega) (vec_isSomes (k := 2) hv (wC_get (by omega))) (by decide)) ?_
        refine XR.rd rfl rfl rfl (Reads.load_vecs (v := .int .u32 ((g v 2 : Nat) : Int)) k83 rfl hv (e := 83) (List.mem_of_getElem? (i := 0) rfl) (wC_get (by omega))) ?_
        refine XR.rd rfl rfl rfl (Reads.uand rfl rfl rfl (by repeat' first | assumption | with_reducible exact hw _ | with_reducible exact hvw _ | with_reducible exact hkr _ | with_reducible exact hsw _ | with_reducible exact hhw _ | with_reducible exact Go.Sh.mod_lt' _ | with_reducible apply Go.Sh.mix_lt | with_reducible apply Go.Sh.rotr_lt | with_reducible apply Go.Sh.xor_lt | with_reducible apply Go.Sh.and_lt | with_reducible apply Go.Sh.or_lt | with_reducible apply Go.Sh.div_lt' | with_reducible exact Nat.lt_of_lt_of_le (UInt8.toNat_lt _) (by decide) | with_reducible exact Nat.lt_of_lt_of_le (Go.Sh.bg_lt _ _) (by decide) | decide | omega) (by repeat' first | assumption | with_reducible exact hw _ | with_reducible exact hvw _ | with_reducible exact hkr _ | with_reducible exact hsw _ | with_reducible exact hhw _ | with_reducible exact Go.Sh.mod_lt' _ | with_reducible apply Go.Sh.mix_lt | with_reducible apply Go.Sh.rotr_lt | with_reducible apply Go.Sh.xor_lt | with_reducible apply Go.Sh.and_lt | with_reducible apply Go.Sh.or_lt | with_reducible apply Go.Sh.div_lt' | with_reducible exact Nat.lt_of_lt_of_le (UInt8.toNat_lt _) (by decide) | with_reducible exact Nat.lt_of_lt_of_le (Go.Sh.bg_lt _ _) (by decide) | decide | omega)) ?_
        refine XR.rd rfl rfl rfl (Reads.uxor rfl rfl rfl (by repeat' first | assumption | with_reducible exact hw _ | with_reducible exact hvw _ | with_reducible exact hkr _ | with_reducible exact hsw _ | with_reducible exact hhw _ | with_reducible exact Go.Sh.mod_lt' _ | with_reducible apply Go.Sh.mix_lt | with_reducible apply Go.Sh.rotr_lt | with_reducible apply Go.Sh.xor_lt | with_reducible apply Go.Sh.and_lt | with_reducible apply Go.Sh.or_lt | with_reducible apply Go.Sh.div_lt' | with_reducible exact Nat.lt_of_lt_of_le (UInt8.toNat_lt _) (by decide) | with_reducible exact Nat.lt_of_lt_of_le (Go.Sh.bg_lt _ _) (by decide) | decide | omega) (by repeat' first | assumption | with_reducible exact hw _ | with_reducible exact hvw _ | with_reducible exact hkr _ | with_reducible exact hsw _ | with_reducible exact hhw _ | with_reducible exact Go.Sh.mod_lt' _ | with_reducible apply Go.Sh.mix_lt | with_reducible apply Go.Sh.rotr_lt | with_reducible apply Go.Sh.xor_lt | with_reducible apply Go.Sh.and_lt | with_reducible apply Go.Sh.or_lt | with_reducible apply Go.Sh.div_lt' | with_reducible exact Nat.lt_of_lt_of_le (UInt8.toNat_lt _) (by decide) | with_reducible exact Nat.lt_of_lt_of_le (Go.Sh.bg_lt _ _) (by decide) | decide | omega)) ?_
        refine XR.callp rfl rfl rfl en64 (rrot_any _ 2 _ (hvw _) (by decide)) ⟨rfl, rfl, trivial⟩ (List.Sublist.refl _) ?_
        refine XR.callp rfl rfl rfl en64 (rrot_any _ 13 _ (hvw _) (by decide)) ⟨rfl, rfl, trivial⟩ (List.Sublist.refl _) ?_
        refine XR.rd rfl rfl rfl (Reads.uxor rfl rfl rfl (by repeat' first | assumption | with_reducible exact hw _ | with_reducible exact hvw _ | with_reducible exact hkr _ | with_reducible exact hsw _ | with_reducible exact hhw _ | with_reducible exact Go.Sh.mod_lt' _ | with_reducible apply Go.Sh.mix_lt | with_reducible apply Go.Sh.rotr_lt | with_reducible apply Go.Sh.xor_lt | with_reducible apply Go.Sh.and_lt | with_reducible apply Go.Sh.or_lt | with_reducible apply Go.Sh.div_lt' | with_reducible exact Nat.lt_of_lt_of_le (UInt8.toNat_lt _) (by decide) | with_reducible exact Nat.lt_of_lt_of_le (Go.Sh.bg_lt _ _) (by decide) | decide | omega) (by repeat' first | assumption | with_reducible exact hw _ | with_reducible exact hvw _ | with_reducible exact hkr _ | with_reducible exact hsw _ | with_reducible exact hhw _ | with_reducible exact Go.Sh.mod_lt' _ | with_reducible apply Go.Sh.mix_lt | with_reducible apply Go.Sh.rotr_lt | with_reducible apply Go.Sh.xor_lt | with_reducible apply Go.Sh.and_lt | with_reducible apply Go.Sh.or_lt | with_reducible apply Go.Sh.div_lt' | with_reducible exact Nat.lt_of_lt_of_le (UInt8.toNat_lt _) (by decide) | with_reducible exact Nat.lt_of_lt_of_le (Go.Sh.bg_lt _ _) (by decide) | decide | omega)) ?_
        refine XR.callp rfl rfl rfl en64 (rrot_any _ 22 _ (hvw _) (by decide)) ⟨rfl, rfl, trivial⟩ (List.Sublist.refl _) ?_
        refine XR.rd rfl rfl rfl (Reads.uxor rfl rfl rfl (xor_lt (rotr_lt (hvw _)) (rotr_lt (hvw _))) (rotr_lt (hvw _))) ?_
        rw [mix3]
        refine XR.rd rfl rfl rfl (Reads.uadd rfl rfl rfl) ?_
        show XR _ _ _ _ _ _ _ _ _ ((197, .int .u32 ((t2 v : Nat) : Int)) :: _) _ _ _
        refine XR.rd rfl rfl rfl (Reads.assign rfl) ?_
        refine XR.nil ?_
        refine XQ.then_normal ?_
        refine XC.draw m_mixed none (.pure 0 (.pure 1 (.pure 2 (.pure 3 (.pure 4 (.pure 5 (.pure 6 (.pure 7 (.pure 8 (.pure 9 (.pure 10 (.pure 11 (.pure 12 (.pure 13 (.pure 14 (.pure 15 (.pure 16 (.pure 17 (.pure 18 (.pure 19 (.pure 20 (.pure 21 (.eff 22 (.pure 23 (.done))))))))))))))))))))))))) _ (by kernel_rfl) (List.Sublist.refl _) ?_
        refine XR.rd rfl rfl rfl (Reads.move rfl) ?_
        refine XR.rd rfl rfl rfl (Reads.move rfl) ?_
        refine XR.rd rfl rfl rfl (Reads.uadd rfl rfl rfl) ?_
        refine XR.rd rfl rfl rfl (Reads.move rfl) ?_
        refine XR.rd rfl rfl rfl (Reads.move rfl) ?_
        refine XR.rd rfl rfl rfl (Reads.index_slot (q := 1) Tryd.underlying84 z83 rfl rfl (by omega) (vec_isSomes (k := 1) hv (wC_get (by omega))) (by decide)) ?_
        refine XR.rd rfl rfl rfl (Reads.load_vecs (v := .int .u32 ((g v 1 : Nat) : Int)) k83 rfl hv (e := 83) (List.mem_of_getElem? (i := 0) rfl) (wC_get (by omega))) ?_
        refine XR.rd rfl rfl rfl (Reads.move rfl) ?_
        refine XR.rd rfl rfl rfl (Reads.index_slot (q := 2) Tryd.underlying84 z83 rfl rfl (by omega) (vec_isSomes (k := 2) hv (wC_get (by omega))) (by decide)) ?_
        refine XR.rd rfl rfl rfl (Reads.load_vecs (v := .int .u32 ((g v 2 : Nat) : Int)) k83 rfl hv (e := 83) (List.mem_of_getElem? (i := 0) rfl) (wC_get (by omega))) ?_
        refine XR.rd rfl rfl rfl (Reads.move rfl) ?_
        refine XR.rd rfl rfl rfl (Reads.index_slot (q := 3) Tryd.underlying84 z83 rfl rfl (by omega) (vec_isSomes (k := 3) hv (wC_get (by omega))) (by decide)) ?_
        refine XR.rd rfl rfl rfl (Reads.load_vecs (v := .int .u32 ((g v 3 : Nat) : Int)) k83 rfl hv (e := 83) (List.mem_of_getElem? (i := 0) rfl) (wC_get (by omega))) ?_
        refine XR.rd rfl rfl rfl (Reads.move rfl) ?_
        refine XR.rd rfl rfl rfl (Reads.uadd rfl rfl rfl) ?_
        refine XR.rd rfl rfl rfl (Reads.move rfl) ?_
        refine XR.rd rfl rfl rfl (Reads.move rfl) ?_
        refine XR.rd rfl rfl rfl (Reads.index_slot (q := 5) Tryd.underlying84 z83 rfl rfl (by omega) (vec_isSomes (k := 5) hv (wC_get (by omega))) (by decide)) ?_
        refine XR.rd rfl rfl rfl (Reads.load_vecs (v := .int .u32 ((g v 5 : Nat) : Int)) k83 rfl hv (e := 83) (List.mem_of_getElem? (i := 0) rfl) (wC_get (by omega))) ?_
        refine XR.rd rfl rfl rfl (Reads.move rfl) ?_
        refine XR.rd rfl rfl rfl (Reads.index_slot (q := 6) Tryd.underlying84 z83 rfl rfl (by omega) (vec_isSomes (k := 6) hv (wC_get (by omega))) (by decide)) ?_
        refine XR.rd rfl rfl rfl (Reads.load_vecs (v := .int .u32 ((g v 6 : Nat) : Int)) k83 rfl hv (e := 83) (List.mem_of_getElem? (i := 0) rfl) (wC_get (by omega))) ?_
        refine XR.buildL (wC (rnd v (g KR i) (g (sch (bg bs)) i))) (wC (rnd v (g KR i) (g (sch (bg bs)) i))) rfl rfl rfl Tryd.underlying84 el83 rfl (by simp [wC, rnd]) ⟨rfl, rfl, rfl, rfl, rfl, rfl, rfl, rfl, rfl, rfl, rfl, rfl, rfl, rfl, rfl, rfl, trivial⟩ rfl rfl (List.Sublist.refl _) (fun bv => ?_)
        refine XR.rd rfl rfl rfl (Reads.assign rfl) ?_
        refine XR.nil ?_
        refine XQ.block_normal ?_
        refine XQ.then_normal ?_
        refine XC.weaken (E' := [(0, _), (5, _), (10, _), (11, _), (12, _)]) ⟨rfl, rfl, rfl, rfl, rfl, trivial⟩ ?_
        refine XC.region ?_
        refine XO.rd rfl rfl rfl (Reads.move rfl) ?_
        refine XO.rd rfl rfl rfl (Reads.add rfl rfl (by omega)) ?_
        refine XO.rd rfl rfl rfl (Reads.assign rfl) ?_
        refine XO.nil ?_
        refine XQ.drop (L' := (⟨some (bv, (wC (rnd v (g KR i) (g (sch (bg bs)) i))).toArray), (wC (rnd v (g KR i) (g (sch (bg bs)) i))).length, (wC (rnd v (g KR i) (g (sch (bg bs)) i))).length⟩ : Vec).ent 83 :: some (bk, .cells (wC KR).toArray 83 (0, 0)) :: V.ent 83 :: ([] ++ Lf)) (List.Sublist.cons_cons _ (List.Sublist.cons _ (List.Sublist.refl _))) ?_
        refine XQ.back (i + 1, ⟨some (bv, (wC (rnd v (g KR i) (g (sch (bg bs)) i))).toArray), (wC (rnd v (g KR i) (g (sch (bg bs)) i))).length, (wC (rnd v (g KR i) (g (sch (bg bs)) i))).length⟩) ⟨by simp only; omega, by rw [rnds_succ, hvv]; exact Vec.ofRow _ _⟩ (by simp only; omega) ⟨rfl, rfl, rfl, rfl, rfl, trivial⟩ rfl (List.Perm.refl _)
      · skip
        simp only [cmpInt, decide_eq_false_iff_not] at h3
        have hi64 : i = 64 := by omega
        subst hi64
        subst hvv
        refine XC.exit ?_
        refine XQ.then_exit ?_
        refine XQ.then_exit ?_
        refine XQ.block_exit ?_
        refine XQ.then_normal ?_
        refine XC.seq ?_
        refine XC.region ?_
        refine XO.rd rfl rfl rfl (Reads.assign rfl) ?_
        refine XO.nil ?_
        refine XQ.then_normal ?_
        refine XC.seq ?_
        refine XC.seq ?_
        refine XC.region ?_
        refine XO.rd rfl rfl rfl (Reads.assign rfl) ?_
        refine XO.nil ?_
        refine XQ.then_normal ?_
        refine XC.block ?_
        refine XC.drop (L' := Vv.ent 83 :: ([] ++ Lf)) (List.Sublist.cons_cons _ (List.Sublist.cons _ (List.Sublist.cons _ (List.Sublist.refl _)))) ?_
        refine XC.vec0 83 ?_
        refine XC.loop (ι := Nat × Vec) (fun q => [(0, .slice ah 8 ch), (11, Vv.val), (17, q.2.val), (18, .int .i64 q.1)]) (fun q => I) (fun q => q.2.ent 83 :: Vv.ent 83 :: ([] ++ Lf)) (fun q => q.1 ≤ 8 ∧ q.2.Is 1 (wC (compO h (rnds (bg bs) h 64) q.1))) (fun q => 8 - q.1) (0, Vec.nil) ⟨Nat.zero_le _, Vec.nil_is 1⟩ ⟨rfl, rfl, rfl, rfl, trivial⟩ rfl (List.Perm.refl _) (fun q hq => ?_)
        obtain ⟨i, Vo⟩ := q
        obtain ⟨hi1, hVo⟩ := hq
        simp only at hi1 hVo ⊢
        have Vol : Vo.len = i := by have := hVo.len; rw [wC_len] at this; simp only [sch0_len, schA_len, compO_len, List.length_append, List.length_singleton] at this; omega
        refine XC.seq ?_
        refine XC.seq ?_
        refine XC.region ?_
        refine XO.rd rfl rfl rfl (Reads.move rfl) ?_
        refine XO.rd rfl rfl rfl (Reads.cmp rfl rfl rfl) ?_
        refine XO.nil ?_
        refine XQ.then_normal ?_
        refine XC.cond rfl (fun h4 => ?_) (fun h4 => ?_)
        · skip
          simp only [cmpInt, decide_eq_true_eq] at h4
          refine XC.skip ?_
          refine XQ.then_normal ?_
          refine XC.seq ?_
          refine XC.block ?_
          refine XC.draw m_mixed none (.pure 0 (.pure 1 (.pure 2 (.pure 3 (.pure 4 (.pure 5 (.pure 6 (.pure 7 (.pure 8 (.pure 9 (.eff 10 (.eff 11 (.pure 12 (.done)))))))))))))) [Vv.ent 83] (by kernel_rfl) (List.Sublist.cons _ (List.Sublist.cons_cons _ (List.nil_sublist _))) ?_
          refine XR.rd rfl rfl rfl (Reads.move rfl) ?_
          refine XR.rd rfl rfl rfl (Reads.move rfl) ?_
          refine XR.rd rfl rfl rfl (Reads.move rfl) ?_
          refine XR.rd rfl rfl rfl (Reads.index_slot (q := i) Tryd.underlying84 z83 rfl rfl (by omega) (hH.isSome (by decide) (by omega)) (by omega)) ?_
          refine XR.rd rfl rfl rfl (Reads.load_at k83 rfl (hH.g_at (j := i) (by omega) rfl)) ?_
          refine XR.rd rfl rfl rfl (Reads.move rfl) ?_
          refine XR.rd rfl rfl rfl (Reads.move rfl) ?_
          refine XR.rd rfl rfl rfl (Reads.index_slot (q := i) Tryd.underlying84 z83 rfl rfl (by omega) (vec_isSomes (k := i) hv (wC_get (by omega))) (by omega)) ?_
          refine XR.rd rfl rfl rfl (Reads.load_vecs (v := .int .u32 ((g (rnds (bg bs) h 64) i : Nat) : Int)) k83 rfl hv (e := 83) (List.mem_of_getElem? (i := 0) rfl) (wC_get (by omega))) ?_
          refine XR.rd rfl rfl rfl (Reads.uadd rfl rfl rfl) ?_
          refine XR.buildL [.int .u32 (((g h i + g (rnds (bg bs) h 64) i) % 4294967296 : Nat) : Int)] [.int .u32 (((g h i + g (rnds (bg bs) h 64) i) % 4294967296 : Nat) : Int)] rfl rfl rfl Tryd.underlying84 el83 rfl (by simp) ⟨rfl, rfl, trivial⟩ rfl rfl (List.Sublist.cons _ (List.Sublist.cons_cons _ (List.nil_sublist _))) (fun bu => ?_)
          refine XR.append (V := Vo) (news := wC [(g h i + g (rnds (bg bs) h 64) i) % 4294967296]) 1 rfl rfl rfl Tryd.underlying84 el83 rfl rfl hVo rfl (.slice Tryd.underlying84 (readable_row 0 rfl rfl) rfl (wC_one _)) (by omega) (by omega) ?_
          intro V' hV' hVl'
          refine ⟨.inr (List.Sublist.cons _ (List.Sublist.cons _ (List.Sublist.cons_cons _ (List.nil_sublist _)))), ?_⟩
          refine XR.rd rfl rfl rfl (Reads.assign rfl) ?_
          refine XR.nil ?_
          refine XQ.block_normal ?_
          refine XQ.then_normal ?_
          refine XC.region ?_
          refine XO.rd rfl rfl rfl (Reads.move rfl) ?_
          refine XO.rd rfl rfl rfl (Reads.add rfl rfl (by omega)) ?_
          refine XO.rd rfl rfl rfl (Reads.assign rfl) ?_
          refine XO.nil ?_
          refine XQ.dropn 1 ?_
          refine XQ.back (i + 1, V') ⟨by simp only; omega, by rw [compO_succ, wC_append]; exact hV'⟩ (by simp only; omega) ⟨rfl, rfl, rfl, rfl, trivial⟩ rfl (List.Perm.refl _)
        · skip
          simp only [cmpInt, decide_eq_false_iff_not] at h4
          have hi8 : i = 8 := by omega
          subst hi8
          refine XC.exit ?_
          refine XQ.then_exit ?_
          refine XQ.then_exit ?_
          refine XQ.block_exit ?_
          refine XQ.then_normal ?_
          refine XC.seq ?_
          refine XC.region ?_
          refine XO.rd rfl rfl rfl (Reads.move rfl) ?_
          refine XO.rd rfl rfl rfl (Reads.assign rfl) ?_
          refine XO.nil ?_
          refine XQ.then_normal ?_
          refine XC.ret ?_
          refine XQ.give_vec (fun hb => ?_)
          refine XQ.dropn 1 ?_
          refine XQ.done1 (L := []) rfl rfl (Vec.le_give hb) ?_
          refine ⟨rfl, Vo.addr, Vo.cap, by rw [Vec.val, Vol], ?_⟩
          exact (Vec.sl (α := Nat) (by decide) hVo (flat_words I _) hb).2.arr.1

end Go.Proofs.YtkjhhifhgcihpaaDoor
