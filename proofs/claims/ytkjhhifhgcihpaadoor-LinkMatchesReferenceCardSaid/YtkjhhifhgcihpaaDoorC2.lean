/- Walks: the schedule. -/
import Derived.Test.YtkjhhifhgcihpaaDoorC1
namespace Go.Proofs.YtkjhhifhgcihpaaDoor
open Go.Xe Go.Sh Go

theorem sched_any (p : Option Addr) (cap : Nat) (bs : List UInt8) (I : Im) (hA : Arr I p bs) (hb : bs.length = 64) : FC Tryd.prog 81 [.slice p 64 cap] I (fun u I' => u = .agg (wC (sch (bg bs))).toArray ∧ I' = I) := by
  refine FSo.intro (n := 84) Tryd.func81 rfl rfl rfl (fun K Lf => ?_)
  refine XC.seq ?_
  refine XC.region ?_
  refine XO.alloc (cs := #[.int .u32 0, .int .u32 0, .int .u32 0, .int .u32 0, .int .u32 0, .int .u32 0, .int .u32 0, .int .u32 0, .int .u32 0, .int .u32 0, .int .u32 0, .int .u32 0, .int .u32 0, .int .u32 0, .int .u32 0, .int .u32 0, .int .u32 0, .int .u32 0, .int .u32 0, .int .u32 0, .int .u32 0, .int .u32 0, .int .u32 0, .int .u32 0, .int .u32 0, .int .u32 0, .int .u32 0, .int .u32 0, .int .u32 0, .int .u32 0, .int .u32 0, .int .u32 0, .int .u32 0, .int .u32 0, .int .u32 0, .int .u32 0, .int .u32 0, .int .u32 0, .int .u32 0, .int .u32 0, .int .u32 0, .int .u32 0, .int .u32 0, .int .u32 0, .int .u32 0, .int .u32 0, .int .u32 0, .int .u32 0, .int .u32 0, .int .u32 0, .int .u32 0, .int .u32 0, .int .u32 0, .int .u32 0, .int .u32 0, .int .u32 0, .int .u32 0, .int .u32 0, .int .u32 0, .int .u32 0, .int .u32 0, .int .u32 0, .int .u32 0, .int .u32 0]) rfl rfl zo121 rfl (fun b2 => ?_)
  refine XO.nil ?_
  refine XQ.then_normal ?_
  refine XC.seq ?_
  refine XC.seq ?_
  refine XC.region ?_
  refine XO.rd rfl rfl rfl (Reads.move rfl) ?_
  refine XO.nil ?_
  refine XQ.then_normal ?_
  refine XC.block ?_
  refine XC.loop (ι := Nat) (fun q => [(0, .slice p 64 cap), (2, .pointer (some ⟨b2, 0, none⟩)), (7, .int .i64 q)]) (fun q => I) (fun q => some (b2, .cells (fillC (sch0 (bg bs) q) 64).toArray 121 (0, 0)) :: ([] ++ Lf)) (fun q => q ≤ 16) (fun q => 16 - q) 0 (Nat.zero_le _) ⟨rfl, rfl, rfl, trivial⟩ rfl (List.Perm.refl _) (fun k hk => ?_)
  refine XC.seq ?_
  refine XC.region ?_
  refine XO.rd rfl rfl rfl (Reads.cmp rfl rfl rfl) ?_
  refine XO.nil ?_
  refine XQ.then_normal ?_
  refine XC.seq ?_
  refine XC.cond rfl (fun h1 => ?_) (fun h1 => ?_)
  · skip
    simp only [cmpInt, decide_eq_true_eq] at h1
    refine XC.skip ?_
    refine XQ.then_normal ?_
    refine XC.seq ?_
    refine XC.block ?_
    refine XC.seq ?_
    refine XC.region ?_
    refine XO.rd rfl rfl rfl (Reads.move rfl) ?_
    refine XO.rd rfl rfl rfl (Reads.assign rfl) ?_
    refine XO.nil ?_
    refine XQ.then_normal ?_
    refine XC.draw m_mixed (some 35) (.pure 0 (.pure 1 (.pure 2 (.pure 3 (.pure 4 (.pure 5 (.pure 6 (.pure 7 (.pure 8 (.pure 9 (.pure 10 (.pure 11 (.pure 12 (.pure 13 (.pure 14 (.pure 15 (.pure 16 (.pure 17 (.pure 18 (.pure 19 (.pure 20 (.pure 21 (.pure 22 (.pure 23 (.pure 24 (.pure 25 (.pure 26 (.pure 27 (.pure 28 (.pure 29 (.pure 30 (.pure 31 (.pure 32 (.pure 33 (.pure 34 (.eff 35 (.done))))))))))))))))))))))))))))))))))))) _ (by kernel_rfl) (List.Sublist.refl _) ?_
    refine XR.rd rfl rfl rfl (Reads.move rfl) ?_
    refine XR.rd rfl rfl rfl (Reads.move rfl) ?_
    refine XR.rd rfl rfl rfl (Reads.move rfl) ?_
    refine XR.rd rfl rfl rfl (Reads.mul rfl rfl (by omega)) ?_
    refine XR.rd rfl rfl rfl (Reads.index_slot (q := 4 * k) Tryd.underlying70 z5 rfl rfl (by omega) (hA.isSome (by decide) (by omega)) (by omega)) ?_
    refine XR.rd rfl rfl rfl (Reads.load_at k5 rfl (hA.bg_at (j := 4 * k) (by omega) rfl)) ?_
    refine XR.rd rfl rfl rfl (Reads.convl Tryd.underlying5 rfl Tryd.underlying83 rfl rfl (by repeat' first | assumption | with_reducible exact hw _ | with_reducible exact Go.Sh.mod_lt' _ | with_reducible apply Go.Sh.mix_lt | with_reducible apply Go.Sh.rotr_lt | with_reducible apply Go.Sh.xor_lt | with_reducible apply Go.Sh.and_lt | with_reducible apply Go.Sh.or_lt | with_reducible apply Go.Sh.div_lt' | with_reducible exact Nat.lt_of_lt_of_le (UInt8.toNat_lt _) (by decide) | with_reducible exact Nat.lt_of_lt_of_le (Go.Sh.bg_lt _ _) (by decide) | decide | omega)) ?_
    refine XR.rd rfl rfl rfl (Reads.ushl (s := 24) rfl rfl rfl (by decide)) ?_
    refine XR.rd rfl rfl rfl (Reads.move rfl) ?_
    refine XR.rd rfl rfl rfl (Reads.move rfl) ?_
    refine XR.rd rfl rfl rfl (Reads.mul rfl rfl (by omega)) ?_
    refine XR.rd rfl rfl rfl (Reads.add rfl rfl (by omega)) ?_
    refine XR.rd rfl rfl rfl (Reads.index_slot (q := 4 * k + 1) Tryd.underlying70 z5 rfl rfl (by omega) (hA.isSome (by decide) (by omega)) (by omega)) ?_
    refine XR.rd rfl rfl rfl (Reads.load_at k5 rfl (hA.bg_at (j := 4 * k + 1) (by omega) rfl)) ?_
    refine XR.rd rfl rfl rfl (Reads.convl Tryd.underlying5 rfl Tryd.underlying83 rfl rfl (by repeat' first | assumption | with_reducible exact hw _ | with_reducible exact Go.Sh.mod_lt' _ | with_reducible apply Go.Sh.mix_lt | with_reducible apply Go.Sh.rotr_lt | with_reducible apply Go.Sh.xor_lt | with_reducible apply Go.Sh.and_lt | with_reducible apply Go.Sh.or_lt | with_reducible apply Go.Sh.div_lt' | with_reducible exact Nat.lt_of_lt_of_le (UInt8.toNat_lt _) (by decide) | with_reducible exact Nat.lt_of_lt_of_le (Go.Sh.bg_lt _ _) (by decide) | decide | omega)) ?_
    refine XR.rd rfl rfl rfl (Reads.ushl (s := 16) rfl rfl rfl (by decide)) ?_
    refine XR.rd rfl rfl rfl (Reads.uor rfl rfl rfl (by repeat' first | assumption | with_reducible exact hw _ | with_reducible exact Go.Sh.mod_lt' _ | with_reducible apply Go.Sh.mix_lt | with_reducible apply Go.Sh.rotr_lt | with_reducible apply Go.Sh.xor_lt | with_reducible apply Go.Sh.and_lt | with_reducible apply Go.Sh.or_lt | with_reducible apply Go.Sh.div_lt' | with_reducible exact Nat.lt_of_lt_of_le (UInt8.toNat_lt _) (by decide) | with_reducible exact Nat.lt_of_lt_of_le (Go.Sh.bg_lt _ _) (by decide) | decide | omega) (by repeat' first | assumption | with_reducible exact hw _ | with_reducible exact Go.Sh.mod_lt' _ | with_reducible apply Go.Sh.mix_lt | with_reducible apply Go.Sh.rotr_lt | with_reducible apply Go.Sh.xor_lt | with_reducible apply Go.Sh.and_lt | with_reducible apply Go.Sh.or_lt | with_reducible apply Go.Sh.div_lt' | with_reducible exact Nat.lt_of_lt_of_le (UInt8.toNat_lt _) (by decide) | with_reducible exact Nat.lt_of_lt_of_le (Go.Sh.bg_lt _ _) (by decide) | decide | omega)) ?_
    refine XR.rd rfl rfl rfl (Reads.move rfl) ?_
    refine XR.rd rfl rfl rfl (Reads.move rfl) ?_
    refine XR.rd rfl rfl rfl (Reads.mul rfl rfl (by omega)) ?_
    refine XR.rd rfl rfl rfl (Reads.add rfl rfl (by omega)) ?_
    refine XR.rd rfl rfl rfl (Reads.index_slot (q := 4 * k + 2) Tryd.underlying70 z5 rfl rfl (by omega) (hA.isSome (by decide) (by omega)) (by omega)) ?_
    refine XR.rd rfl rfl rfl (Reads.load_at k5 rfl (hA.bg_at (j := 4 * k + 2) (by omega) rfl)) ?_
    refine XR.rd rfl rfl rfl (Reads.convl Tryd.underlying5 rfl Tryd.underlying83 rfl rfl (by repeat' first | assumption | with_reducible exact hw _ | with_reducible exact Go.Sh.mod_lt' _ | with_reducible apply Go.Sh.mix_lt | with_reducible apply Go.Sh.rotr_lt | with_reducible apply Go.Sh.xor_lt | with_reducible apply Go.Sh.and_lt | with_reducible apply Go.Sh.or_lt | with_reducible apply Go.Sh.div_lt' | with_reducible exact Nat.lt_of_lt_of_le (UInt8.toNat_lt _) (by decide) | with_reducible exact Nat.lt_of_lt_of_le (Go.Sh.bg_lt _ _) (by decide) | decide | omega)) ?_
    refine XR.rd rfl rfl rfl (Reads.ushl (s := 8) rfl rfl rfl (by decide)) ?_
    refine XR.rd rfl rfl rfl (Reads.uor rfl rfl rfl (by repeat' first | assumption | with_reducible exact hw _ | with_reducible exact Go.Sh.mod_lt' _ | with_reducible apply Go.Sh.mix_lt | with_reducible apply Go.Sh.rotr_lt | with_reducible apply Go.Sh.xor_lt | with_reducible apply Go.Sh.and_lt | with_reducible apply Go.Sh.or_lt | with_reducible apply Go.Sh.div_lt' | with_reducible exact Nat.lt_of_lt_of_le (UInt8.toNat_lt _) (by decide) | with_reducible exact Nat.lt_of_lt_of_le (Go.Sh.bg_lt _ _) (by decide) | decide | omega) (by repeat' first | assumption | with_reducible exact hw _ | with_reducible exact Go.Sh.mod_lt' _ | with_reducible apply Go.Sh.mix_lt | with_reducible apply Go.Sh.rotr_lt | with_reducible apply Go.Sh.xor_lt | with_reducible apply Go.Sh.and_lt | with_reducible apply Go.Sh.or_lt | with_reducible apply Go.Sh.div_lt' | with_reducible exact Nat.lt_of_lt_of_le (UInt8.toNat_lt _) (by decide) | with_reducible exact Nat.lt_of_lt_of_le (Go.Sh.bg_lt _ _) (by decide) | decide | omega)) ?_
    refine XR.rd rfl rfl rfl (Reads.move rfl) ?_
    refine XR.rd rfl rfl rfl (Reads.move rfl) ?_
    refine XR.rd rfl rfl rfl (Reads.mul rfl rfl (by omega)) ?_
    refine XR.rd rfl rfl rfl (Reads.add rfl rfl (by omega)) ?_
    refine XR.rd rfl rfl rfl (Reads.index_slot (q := 4 * k + 3) Tryd.underlying70 z5 rfl rfl (by omega) (hA.isSome (by decide) (by omega)) (by omega)) ?_
    refine XR.rd rfl rfl rfl (Reads.load_at k5 rfl (hA.bg_at (j := 4 * k + 3) (by omega) rfl)) ?_
    refine XR.rd rfl rfl rfl (Reads.convl Tryd.underlying5 rfl Tryd.underlying83 rfl rfl (by repeat' first | assumption | with_reducible exact hw _ | with_reducible exact Go.Sh.mod_lt' _ | with_reducible apply Go.Sh.mix_lt | with_reducible apply Go.Sh.rotr_lt | with_reducible apply Go.Sh.xor_lt | with_reducible apply Go.Sh.and_lt | with_reducible apply Go.Sh.or_lt | with_reducible apply Go.Sh.div_lt' | with_reducible exact Nat.lt_of_lt_of_le (UInt8.toNat_lt _) (by decide) | with_reducible exact Nat.lt_of_lt_of_le (Go.Sh.bg_lt _ _) (by decide) | decide | omega)) ?_
    refine XR.rd rfl rfl rfl (Reads.uor rfl rfl rfl (by repeat' first | assumption | with_reducible exact hw _ | with_reducible exact Go.Sh.mod_lt' _ | with_reducible apply Go.Sh.mix_lt | with_reducible apply Go.Sh.rotr_lt | with_reducible apply Go.Sh.xor_lt | with_reducible apply Go.Sh.and_lt | with_reducible apply Go.Sh.or_lt | with_reducible apply Go.Sh.div_lt' | with_reducible exact Nat.lt_of_lt_of_le (UInt8.toNat_lt _) (by decide) | with_reducible exact Nat.lt_of_lt_of_le (Go.Sh.bg_lt _ _) (by decide) | decide | omega) (by repeat' first | assumption | with_reducible exact hw _ | with_reducible exact Go.Sh.mod_lt' _ | with_reducible apply Go.Sh.mix_lt | with_reducible apply Go.Sh.rotr_lt | with_reducible apply Go.Sh.xor_lt | with_reducible apply Go.Sh.and_lt | with_reducible apply Go.Sh.or_lt | with_reducible apply Go.Sh.div_lt' | with_reducible exact Nat.lt_of_lt_of_le (UInt8.toNat_lt _) (by decide) | with_reducible exact Nat.lt_of_lt_of_le (Go.Sh.bg_lt _ _) (by decide) | decide | omega)) ?_
    refine XR.rd rfl rfl rfl (Reads.index_arr_own (q := k) Tryd.underlying121 z83 rfl rfl (by omega) (by omega)) ?_
    refine XR.store 0 rfl rfl z83 rfl rfl rfl rfl (by simp [fillC, wC_len, sch0_len]; omega) (.inl rfl) ?_
    refine XR.own_eq (congrArg (fun c => some (b2, Obj.cells c 121 (0, 0)) :: _) (sched_step0 (bg bs) (by omega))) ?_
    refine XR.nil ?_
    refine XQ.block_normal ?_
    refine XQ.then_normal ?_
    refine XC.region ?_
    refine XO.rd rfl rfl rfl (Reads.add rfl rfl (by omega)) ?_
    refine XO.rd rfl rfl rfl (Reads.move rfl) ?_
    refine XO.nil ?_
    refine XQ.back (k + 1) (by omega) (by omega) ⟨rfl, rfl, rfl, trivial⟩ rfl (List.Perm.refl _)
  · skip
    simp only [cmpInt, decide_eq_false_iff_not] at h1
    have hk16 : k = 16 := by omega
    subst hk16
    refine XC.exit ?_
    refine XQ.then_exit ?_
    refine XQ.then_exit ?_
    refine XQ.block_exit ?_
    refine XQ.then_normal ?_
    refine XC.seq ?_
    refine XC.seq ?_
    refine XC.region ?_
    refine XO.rd rfl rfl rfl (Reads.assign rfl) ?_
    refine XO.nil ?_
    refine XQ.then_normal ?_
    refine XC.block ?_
    refine XC.loop (ι := Nat) (fun q => [(2, .pointer (some ⟨b2, 0, none⟩)), (4, .int .i64 ((16 + q : Nat) : Int))]) (fun q => I) (fun q => some (b2, .cells (fillC (schA (bg bs) q) 64).toArray 121 (0, 0)) :: ([] ++ Lf)) (fun q => q ≤ 48) (fun q => 48 - q) 0 (Nat.zero_le _) ⟨rfl, rfl, trivial⟩ rfl (List.Perm.refl _) (fun k hk => ?_)
    have hw := schA_ws (b := bg bs) (fun i => bg_lt _ _) k
    refine XC.seq ?_
    refine XC.seq ?_
    refine XC.region ?_
    refine XO.rd rfl rfl rfl (Reads.move rfl) ?_
    refine XO.rd rfl rfl rfl (Reads.cmp rfl rfl rfl) ?_
    refine XO.nil ?_
    refine XQ.then_normal ?_
    refine XC.cond rfl (fun h2 => ?_) (fun h2 => ?_)
    · skip
      simp only [cmpInt, decide_eq_true_eq] at h2
      refine XC.skip ?_
      refine XQ.then_normal ?_
      refine XC.seq ?_
      refine XC.block ?_
      refine XC.seq ?_
      refine XC.draw m_mixed none (.pure 0 (.pure 1 (.pure 2 (.pure 3 (.pure 4 (.pure 5 (.pure 6 (.pure 7 (.pure 8 (.pure 9 (.done))))))))))) _ (by kernel_rfl) (List.Sublist.refl _) ?_
      refine XR.rd rfl rfl rfl (Reads.move rfl) ?_
      refine XR.rd rfl rfl rfl (Reads.sub rfl rfl (by omega)) ?_
      refine XR.rd rfl rfl rfl (Reads.index_arr_own (q := 16 + k - 15) Tryd.underlying121 z83 rfl rfl (by omega) (by omega)) ?_
      refine XR.rd rfl rfl rfl (Reads.load_own (v := .int .u32 ((g (schA (bg bs) k) (16 + k - 15) : Nat) : Int)) k83 rfl (by first | exact OwnAt.of 0 rfl (fillC_g (by rw [schA_len]; omega)) | exact OwnAt.of 1 rfl (fillC_g (by rw [schA_len]; omega)) | exact OwnAt.of 2 rfl (fillC_g (by rw [schA_len]; omega)))) ?_
      refine XR.rd rfl rfl rfl (Reads.move rfl) ?_
      refine XR.rd rfl rfl rfl (Reads.sub rfl rfl (by omega)) ?_
      refine XR.rd rfl rfl rfl (Reads.index_arr_own (q := 16 + k - 2) Tryd.underlying121 z83 rfl rfl (by omega) (by omega)) ?_
      refine XR.rd rfl rfl rfl (Reads.load_own (v := .int .u32 ((g (schA (bg bs) k) (16 + k - 2) : Nat) : Int)) k83 rfl (by first | exact OwnAt.of 0 rfl (fillC_g (by rw [schA_len]; omega)) | exact OwnAt.of 1 rfl (fillC_g (by rw [schA_len]; omega)) | exact OwnAt.of 2 rfl (fillC_g (by rw [schA_len]; omega)))) ?_
      refine XR.rd rfl rfl rfl (Reads.assign rfl) ?_
      refine XR.rd rfl rfl rfl (Reads.assign rfl) ?_
      refine XR.nil ?_
      refine XQ.then_normal ?_
      refine XC.join (ι := Unit) (fun q => [(2, .pointer (some ⟨b2, 0, none⟩)), (4, .int .i64 ((16 + k : Nat) : Int))]) (fun q => I) (fun q => some (b2, .cells (fillC (schA (bg bs) (k + 1)) 64).toArray 121 (0, 0)) :: ([] ++ Lf)) (fun q => True) ?_ (fun q hq => ?_)
      · skip
        refine XC.draw m_mixed (some 25) (.pure 0 (.pure 1 (.pure 2 (.pure 3 (.pure 4 (.pure 5 (.pure 8 (.pure 9 (.pure 12 (.pure 13 (.pure 14 (.pure 15 (.pure 17 (.pure 20 (.pure 21 (.alt 6 (.alt 7 (.pure 10 (.pure 11 (.pure 16 (.eff 18 (.eff 19 (.pure 22 (.pure 23 (.pure 24 (.eff 25 (.done)))))))))) (.eff 18 (.eff 7 (.pure 10 (.pure 11 (.pure 16 (.eff 19 (.pure 22 (.pure 23 (.pure 24 (.eff 25 (.done)))))))))))) (.eff 18 (.eff 6 (.eff 7 (.pure 10 (.pure 11 (.pure 16 (.eff 19 (.pure 22 (.pure 23 (.pure 24 (.eff 25 (.done)))))))))))))))))))))))))))) _ (by kernel_rfl) (List.Sublist.refl _) ?_
        refine XR.rd rfl rfl rfl (Reads.move rfl) ?_
        refine XR.rd rfl rfl rfl (Reads.move rfl) ?_
        refine XR.rd rfl rfl rfl (Reads.sub rfl rfl (by omega)) ?_
        refine XR.rd rfl rfl rfl (Reads.index_arr_own (q := 16 + k - 16) Tryd.underlying121 z83 rfl rfl (by omega) (by omega)) ?_
        refine XR.rd rfl rfl rfl (Reads.load_own (v := .int .u32 ((g (schA (bg bs) k) (16 + k - 16) : Nat) : Int)) k83 rfl (by first | exact OwnAt.of 0 rfl (fillC_g (by rw [schA_len]; omega)) | exact OwnAt.of 1 rfl (fillC_g (by rw [schA_len]; omega)) | exact OwnAt.of 2 rfl (fillC_g (by rw [schA_len]; omega)))) ?_
        refine XR.rd rfl rfl rfl (Reads.move rfl) ?_
        refine XR.rd rfl rfl rfl (Reads.move rfl) ?_
        refine XR.rd rfl rfl rfl (Reads.shrn (s := 3) rfl rfl (by decide)) ?_
        refine XR.rd rfl rfl rfl (Reads.move rfl) ?_
        refine XR.rd rfl rfl rfl (Reads.sub rfl rfl (by omega)) ?_
        refine XR.rd rfl rfl rfl (Reads.index_arr_own (q := 16 + k - 7) Tryd.underlying121 z83 rfl rfl (by omega) (by omega)) ?_
        refine XR.rd rfl rfl rfl (Reads.load_own (v := .int .u32 ((g (schA (bg bs) k) (16 + k - 7) : Nat) : Int)) k83 rfl (by first | exact OwnAt.of 0 rfl (fillC_g (by rw [schA_len]; omega)) | exact OwnAt.of 1 rfl (fillC_g (by rw [schA_len]; omega)) | exact OwnAt.of 2 rfl (fillC_g (by rw [schA_len]; omega)))) ?_
        refine XR.rd rfl rfl rfl (Reads.move rfl) ?_
        refine XR.rd rfl rfl rfl (Reads.move rfl) ?_
        refine XR.rd rfl rfl rfl (Reads.shrn (s := 10) rfl rfl (by decide)) ?_
        refine XR.alt ?_ ?_
        · skip
          refine XR.buildL [.int .i64 7, .int .i64 18] [.int .i64 7, .int .i64 18] rfl rfl rfl Tryd.underlying52 el3 rfl (by simp) ⟨rfl, rfl, rfl, rfl, trivial⟩ rfl rfl (List.Sublist.refl _) (fun b64 => ?_)
          refine XR.alt ?_ ?_
          · skip
            refine XR.callo (vs := [_, _]) rfl rfl rfl rfl en82 ⟨rfl, rfl, trivial⟩ (mixed_any _ [7, 18] _ 2 _ (hw _) (by decide) rfl (by decide)) (List.Perm.refl _) ?_
            rintro v I' L' _ ⟨rfl, hI', rfl⟩
            replace hI' := hI'.symm
            subst hI'
            refine ⟨.inr (List.Sublist.cons _ (List.Sublist.refl _)), ?_⟩
            refine XR.rd rfl rfl rfl (Reads.uxor rfl rfl rfl (by repeat' first | assumption | with_reducible exact hw _ | with_reducible exact Go.Sh.mod_lt' _ | with_reducible apply Go.Sh.mix_lt | with_reducible apply Go.Sh.rotr_lt | with_reducible apply Go.Sh.xor_lt | with_reducible apply Go.Sh.and_lt | with_reducible apply Go.Sh.or_lt | with_reducible apply Go.Sh.div_lt' | with_reducible exact Nat.lt_of_lt_of_le (UInt8.toNat_lt _) (by decide) | with_reducible exact Nat.lt_of_lt_of_le (Go.Sh.bg_lt _ _) (by decide) | decide | omega) (by repeat' first | assumption | with_reducible exact hw _ | with_reducible exact Go.Sh.mod_lt' _ | with_reducible apply Go.Sh.mix_lt | with_reducible apply Go.Sh.rotr_lt | with_reducible apply Go.Sh.xor_lt | with_reducible apply Go.Sh.and_lt | with_reducible apply Go.Sh.or_lt | with_reducible apply Go.Sh.div_lt' | with_reducible exact Nat.lt_of_lt_of_le (UInt8.toNat_lt _) (by decide) | with_reducible exact Nat.lt_of_lt_of_le (Go.Sh.bg_lt _ _) (by decide) | decide | omega)) ?_
            refine XR.rd rfl rfl rfl (Reads.uadd rfl rfl rfl) ?_
            refine XR.rd rfl rfl rfl (Reads.uadd rfl rfl rfl) ?_
            refine XR.buildL [.int .i64 17, .int .i64 19] [.int .i64 17, .int .i64 19] rfl rfl rfl Tryd.underlying52 el3 rfl (by simp) ⟨rfl, rfl, rfl, rfl, trivial⟩ rfl rfl (List.Sublist.cons _ (List.Sublist.refl _)) (fun b76 => ?_)
            refine XR.callo (vs := [_, _]) rfl rfl rfl rfl en82 ⟨rfl, rfl, trivial⟩ (mixed_any _ [17, 19] _ 2 _ (hw _) (by decide) rfl (by decide)) (List.Perm.refl _) ?_
            rintro v I' L' _ ⟨rfl, hI', rfl⟩
            replace hI' := hI'.symm
            subst hI'
            refine ⟨.inr (List.Sublist.cons _ (List.Sublist.cons _ (List.Sublist.refl _))), ?_⟩
            refine XR.rd rfl rfl rfl (Reads.uxor rfl rfl rfl (by repeat' first | assumption | with_reducible exact hw _ | with_reducible exact Go.Sh.mod_lt' _ | with_reducible apply Go.Sh.mix_lt | with_reducible apply Go.Sh.rotr_lt | with_reducible apply Go.Sh.xor_lt | with_reducible apply Go.Sh.and_lt | with_reducible apply Go.Sh.or_lt | with_reducible apply Go.Sh.div_lt' | with_reducible exact Nat.lt_of_lt_of_le (UInt8.toNat_lt _) (by decide) | with_reducible exact Nat.lt_of_lt_of_le (Go.Sh.bg_lt _ _) (by decide) | decide | omega) (by repeat' first | assumption | with_reducible exact hw _ | with_reducible exact Go.Sh.mod_lt' _ | with_reducible apply Go.Sh.mix_lt | with_reducible apply Go.Sh.rotr_lt | with_reducible apply Go.Sh.xor_lt | with_reducible apply Go.Sh.and_lt | with_reducible apply Go.Sh.or_lt | with_reducible apply Go.Sh.div_lt' | with_reducible exact Nat.lt_of_lt_of_le (UInt8.toNat_lt _) (by decide) | with_reducible exact Nat.lt_of_lt_of_le (Go.Sh.bg_lt _ _) (by decide) | decide | omega)) ?_
            refine XR.rd rfl rfl rfl (Reads.uadd rfl rfl rfl) ?_
            refine XR.rd rfl rfl rfl (Reads.index_arr_own (q := 16 + k) Tryd.underlying121 z83 rfl rfl (by omega) (by omega)) ?_
            refine XR.store 2 rfl rfl z83 rfl rfl rfl rfl (by simp [fillC, wC_len, schA_len]; omega) (.inl rfl) ?_
            refine XR.own_eq (congrArg (fun c => _ :: _ :: some (b2, Obj.cells c 121 (0, 0)) :: _) (sched_step (bg bs) (by omega))) ?_
            refine XR.nil ?_
            refine XQ.dropn 2 ?_
            refine XQ.joined () trivial ⟨rfl, rfl, trivial⟩ rfl (List.Perm.refl _)
          · skip
            refine XR.buildL [.int .i64 17, .int .i64 19] [.int .i64 17, .int .i64 19] rfl rfl rfl Tryd.underlying52 el3 rfl (by simp) ⟨rfl, rfl, rfl, rfl, trivial⟩ rfl rfl (List.Sublist.cons _ (List.Sublist.refl _)) (fun b76 => ?_)
            refine XR.callo (vs := [_, _]) rfl rfl rfl rfl en82 ⟨rfl, rfl, trivial⟩ (mixed_any _ [7, 18] _ 2 _ (hw _) (by decide) rfl (by decide)) (perm_take [1]) ?_
            rintro v I' L' _ ⟨rfl, hI', rfl⟩
            replace hI' := hI'.symm
            subst hI'
            refine ⟨.inr (List.Sublist.cons _ (List.Sublist.cons _ (List.Sublist.refl _))), ?_⟩
            refine XR.rd rfl rfl rfl (Reads.uxor rfl rfl rfl (by repeat' first | assumption | with_reducible exact hw _ | with_reducible exact Go.Sh.mod_lt' _ | with_reducible apply Go.Sh.mix_lt | with_reducible apply Go.Sh.rotr_lt | with_reducible apply Go.Sh.xor_lt | with_reducible apply Go.Sh.and_lt | with_reducible apply Go.Sh.or_lt | with_reducible apply Go.Sh.div_lt' | with_reducible exact Nat.lt_of_lt_of_le (UInt8.toNat_lt _) (by decide) | with_reducible exact Nat.lt_of_lt_of_le (Go.Sh.bg_lt _ _) (by decide) | decide | omega) (by repeat' first | assumption | with_reducible exact hw _ | with_reducible exact Go.Sh.mod_lt' _ | with_reducible apply Go.Sh.mix_lt | with_reducible apply Go.Sh.rotr_lt | with_reducible apply Go.Sh.xor_lt | with_reducible apply Go.Sh.and_lt | with_reducible apply Go.Sh.or_lt | with_reducible apply Go.Sh.div_lt' | with_reducible exact Nat.lt_of_lt_of_le (UInt8.toNat_lt _) (by decide) | with_reducible exact Nat.lt_of_lt_of_le (Go.Sh.bg_lt _ _) (by decide) | decide | omega)) ?_
            refine XR.rd rfl rfl rfl (Reads.uadd rfl rfl rfl) ?_
            refine XR.rd rfl rfl rfl (Reads.uadd rfl rfl rfl) ?_
            refine XR.callo (vs := [_, _]) rfl rfl rfl rfl en82 ⟨rfl, rfl, trivial⟩ (mixed_any _ [17, 19] _ 2 _ (hw _) (by decide) rfl (by decide)) (perm_take [1]) ?_
            rintro v I' L' _ ⟨rfl, hI', rfl⟩
            replace hI' := hI'.symm
            subst hI'
            refine ⟨.inr (List.Sublist.cons _ (List.Sublist.cons _ (List.Sublist.refl _))), ?_⟩
            refine XR.rd rfl rfl rfl (Reads.uxor rfl rfl rfl (by repeat' first | assumption | with_reducible exact hw _ | with_reducible exact Go.Sh.mod_lt' _ | with_reducible apply Go.Sh.mix_lt | with_reducible apply Go.Sh.rotr_lt | with_reducible apply Go.Sh.xor_lt | with_reducible apply Go.Sh.and_lt | with_reducible apply Go.Sh.or_lt | with_reducible apply Go.Sh.div_lt' | with_reducible exact Nat.lt_of_lt_of_le (UInt8.toNat_lt _) (by decide) | with_reducible exact Nat.lt_of_lt_of_le (Go.Sh.bg_lt _ _) (by decide) | decide | omega) (by repeat' first | assumption | with_reducible exact hw _ | with_reducible exact Go.Sh.mod_lt' _ | with_reducible apply Go.Sh.mix_lt | with_reducible apply Go.Sh.rotr_lt | with_reducible apply Go.Sh.xor_lt | with_reducible apply Go.Sh.and_lt | with_reducible apply Go.Sh.or_lt | with_reducible apply Go.Sh.div_lt' | with_reducible exact Nat.lt_of_lt_of_le (UInt8.toNat_lt _) (by decide) | with_reducible exact Nat.lt_of_lt_of_le (Go.Sh.bg_lt _ _) (by decide) | decide | omega)) ?_
            refine XR.rd rfl rfl rfl (Reads.uadd rfl rfl rfl) ?_
            refine XR.rd rfl rfl rfl (Reads.index_arr_own (q := 16 + k) Tryd.underlying121 z83 rfl rfl (by omega) (by omega)) ?_
            refine XR.store 2 rfl rfl z83 rfl rfl rfl rfl (by simp [fillC, wC_len, schA_len]; omega) (.inl rfl) ?_
            refine XR.own_eq (congrArg (fun c => _ :: _ :: some (b2, Obj.cells c 121 (0, 0)) :: _) (sched_step (bg bs) (by omega))) ?_
            refine XR.nil ?_
            refine XQ.dropn 2 ?_
            refine XQ.joined () trivial ⟨rfl, rfl, trivial⟩ rfl (List.Perm.refl _)
        · skip
          refine XR.buildL [.int .i64 17, .int .i64 19] [.int .i64 17, .int .i64 19] rfl rfl rfl Tryd.underlying52 el3 rfl (by simp) ⟨rfl, rfl, rfl, rfl, trivial⟩ rfl rfl (List.Sublist.refl _) (fun b76 => ?_)
          refine XR.buildL [.int .i64 7, .int .i64 18] [.int .i64 7, .int .i64 18] rfl rfl rfl Tryd.underlying52 el3 rfl (by simp) ⟨rfl, rfl, rfl, rfl, trivial⟩ rfl rfl (List.Sublist.cons _ (List.Sublist.refl _)) (fun b64 => ?_)
          refine XR.callo (vs := [_, _]) rfl rfl rfl rfl en82 ⟨rfl, rfl, trivial⟩ (mixed_any _ [7, 18] _ 2 _ (hw _) (by decide) rfl (by decide)) (List.Perm.refl _) ?_
          rintro v I' L' _ ⟨rfl, hI', rfl⟩
          replace hI' := hI'.symm
          subst hI'
          refine ⟨.inr (List.Sublist.cons _ (List.Sublist.cons _ (List.Sublist.refl _))), ?_⟩
          refine XR.rd rfl rfl rfl (Reads.uxor rfl rfl rfl (by repeat' first | assumption | with_reducible exact hw _ | with_reducible exact Go.Sh.mod_lt' _ | with_reducible apply Go.Sh.mix_lt | with_reducible apply Go.Sh.rotr_lt | with_reducible apply Go.Sh.xor_lt | with_reducible apply Go.Sh.and_lt | with_reducible apply Go.Sh.or_lt | with_reducible apply Go.Sh.div_lt' | with_reducible exact Nat.lt_of_lt_of_le (UInt8.toNat_lt _) (by decide) | with_reducible exact Nat.lt_of_lt_of_le (Go.Sh.bg_lt _ _) (by decide) | decide | omega) (by repeat' first | assumption | with_reducible exact hw _ | with_reducible exact Go.Sh.mod_lt' _ | with_reducible apply Go.Sh.mix_lt | with_reducible apply Go.Sh.rotr_lt | with_reducible apply Go.Sh.xor_lt | with_reducible apply Go.Sh.and_lt | with_reducible apply Go.Sh.or_lt | with_reducible apply Go.Sh.div_lt' | with_reducible exact Nat.lt_of_lt_of_le (UInt8.toNat_lt _) (by decide) | with_reducible exact Nat.lt_of_lt_of_le (Go.Sh.bg_lt _ _) (by decide) | decide | omega)) ?_
          refine XR.rd rfl rfl rfl (Reads.uadd rfl rfl rfl) ?_
          refine XR.rd rfl rfl rfl (Reads.uadd rfl rfl rfl) ?_
          refine XR.callo (vs := [_, _]) rfl rfl rfl rfl en82 ⟨rfl, rfl, trivial⟩ (mixed_any _ [17, 19] _ 2 _ (hw _) (by decide) rfl (by decide)) (perm_take [1]) ?_
          rintro v I' L' _ ⟨rfl, hI', rfl⟩
          replace hI' := hI'.symm
          subst hI'
          refine ⟨.inr (List.Sublist.cons _ (List.Sublist.cons _ (List.Sublist.refl _))), ?_⟩
          refine XR.rd rfl rfl rfl (Reads.uxor rfl rfl rfl (by repeat' first | assumption | with_reducible exact hw _ | with_reducible exact Go.Sh.mod_lt' _ | with_reducible apply Go.Sh.mix_lt | with_reducible apply Go.Sh.rotr_lt | with_reducible apply Go.Sh.xor_lt | with_reducible apply Go.Sh.and_lt | with_reducible apply Go.Sh.or_lt | with_reducible apply Go.Sh.div_lt' | with_reducible exact Nat.lt_of_lt_of_le (UInt8.toNat_lt _) (by decide) | with_reducible exact Nat.lt_of_lt_of_le (Go.Sh.bg_lt _ _) (by decide) | decide | omega) (by repeat' first | assumption | with_reducible exact hw _ | with_reducible exact Go.Sh.mod_lt' _ | with_reducible apply Go.Sh.mix_lt | with_reducible apply Go.Sh.rotr_lt | with_reducible apply Go.Sh.xor_lt | with_reducible apply Go.Sh.and_lt | with_reducible apply Go.Sh.or_lt | with_reducible apply Go.Sh.div_lt' | with_reducible exact Nat.lt_of_lt_of_le (UInt8.toNat_lt _) (by decide) | with_reducible exact Nat.lt_of_lt_of_le (Go.Sh.bg_lt _ _) (by decide) | decide | omega)) ?_
          refine XR.rd rfl rfl rfl (Reads.uadd rfl rfl rfl) ?_
          refine XR.rd rfl rfl rfl (Reads.index_arr_own (q := 16 + k) Tryd.underlying121 z83 rfl rfl (by omega) (by omega)) ?_
          refine XR.store 2 rfl rfl z83 rfl rfl rfl rfl (by simp [fillC, wC_len, schA_len]; omega) (.inl rfl) ?_
          refine XR.own_eq (congrArg (fun c => _ :: _ :: some (b2, Obj.cells c 121 (0, 0)) :: _) (sched_step (bg bs) (by omega))) ?_
          refine XR.nil ?_
          refine XQ.dropn 2 ?_
          refine XQ.joined () trivial ⟨rfl, rfl, trivial⟩ rfl (List.Perm.refl _)
      · skip
        refine XQ.block_normal ?_
        refine XQ.then_normal ?_
        refine XC.region ?_
        refine XO.rd rfl rfl rfl (Reads.move rfl) ?_
        refine XO.rd rfl rfl rfl (Reads.add rfl rfl (by omega)) ?_
        refine XO.rd rfl rfl rfl (Reads.assign rfl) ?_
        refine XO.nil ?_
        rw [show ((16 + k : Nat) : Int) + 1 = ((16 + (k + 1) : Nat) : Int) by omega]
        refine XQ.back (k + 1) (by omega) (by omega) ⟨rfl, rfl, trivial⟩ rfl (List.Perm.refl _)
    · skip
      simp only [cmpInt, decide_eq_false_iff_not] at h2
      have hk48 : k = 48 := by omega
      subst hk48
      refine XC.own_eq (congrArg (fun c => some (b2, Obj.cells c 121 (0, 0)) :: _) (congrArg List.toArray (fillC_full (l := sch (bg bs)) (sch_len _)))) ?_
      refine XC.exit ?_
      refine XQ.then_exit ?_
      refine XQ.then_exit ?_
      refine XQ.block_exit ?_
      refine XQ.then_normal ?_
      refine XC.seq ?_
      refine XC.region ?_
      refine XO.rd rfl rfl rfl (Reads.load_whole (c := (wC (sch (bg bs))).toArray) k121 z121 rfl (WholeAt.of 0 rfl) (by simp [wC_len, sch_len])) ?_
      refine XO.store_agg (vs := wC (sch (bg bs))) 0 rfl (by rw [wC_len]; rw [sch_len]; exact z121) rfl rfl (wC_one _) rfl (by simp [wC_len]) ?_
      refine XO.own_eq (L' := some (b2, .cells (wC (sch (bg bs))).toArray 121 (0, 0)) :: ([] ++ Lf)) (by simp [wC_len, sch_len]) ?_
      refine XO.nil ?_
      refine XQ.then_normal ?_
      refine XC.ret ?_
      refine XQ.done1ca [] 1 rfl k121 z121 rfl (WholeAt.of 0 rfl) (by simp [wC_len, sch_len]) rfl (Im.le_refl _) ?_
      exact ⟨rfl, rfl, rfl⟩

end Go.Proofs.YtkjhhifhgcihpaaDoor
