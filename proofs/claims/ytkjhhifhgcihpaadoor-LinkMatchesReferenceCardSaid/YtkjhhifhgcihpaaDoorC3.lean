/- Walks: one block of the digest. -/
import Derived.Test.YtkjhhifhgcihpaaDoorC2
namespace Go.Proofs.YtkjhhifhgcihpaaDoor
open Go.Xe Go.Sh Go

theorem wadd_any (bh : Nat) (h : List Nat) (p : Option Addr) (cap : Nat) (bs : List UInt8) (I : Im) (hA : Arr I p bs) (hb : bs.length = 64) (hh : h.length = 8) (hw : Ws h) (hG : ∃ e fr, I 0 = some (.cells (wC KR).toArray e fr)) : FSo Tryd.prog 75 [.pointer (some ⟨bh, 0, none⟩), .slice p 64 cap] I [some (bh, .cells (wC h).toArray 105 (0, 0))] (fun u I' L' => I' = I ∧ L' = [some (bh, .cells (wC (comp h (bg bs))).toArray 105 (0, 0))]) := by
  have hkr := KR_ws
  have hsw : Ws (sch (bg bs)) := schA_ws (fun i => bg_lt _ _) 48
  have hv64 := rnds_len (b := bg bs) hh 64
  have hvw64 := rnds_ws (b := bg bs) hw 64
  refine FSo.intro (n := 97) Tryd.func75 rfl rfl rfl (fun K Lf => ?_)
  refine XC.seq ?_
  refine XC.region ?_
  refine XO.rd rfl rfl rfl (Reads.move rfl) ?_
  refine XO.callp rfl rfl en81 (sched_any p cap bs _ hA hb) ⟨rfl, trivial⟩ ?_
  refine XO.alloc (cs := #[.int .u32 0, .int .u32 0, .int .u32 0, .int .u32 0, .int .u32 0, .int .u32 0, .int .u32 0, .int .u32 0, .int .u32 0, .int .u32 0, .int .u32 0, .int .u32 0, .int .u32 0, .int .u32 0, .int .u32 0, .int .u32 0, .int .u32 0, .int .u32 0, .int .u32 0, .int .u32 0, .int .u32 0, .int .u32 0, .int .u32 0, .int .u32 0, .int .u32 0, .int .u32 0, .int .u32 0, .int .u32 0, .int .u32 0, .int .u32 0, .int .u32 0, .int .u32 0, .int .u32 0, .int .u32 0, .int .u32 0, .int .u32 0, .int .u32 0, .int .u32 0, .int .u32 0, .int .u32 0, .int .u32 0, .int .u32 0, .int .u32 0, .int .u32 0, .int .u32 0, .int .u32 0, .int .u32 0, .int .u32 0, .int .u32 0, .int .u32 0, .int .u32 0, .int .u32 0, .int .u32 0, .int .u32 0, .int .u32 0, .int .u32 0, .int .u32 0, .int .u32 0, .int .u32 0, .int .u32 0, .int .u32 0, .int .u32 0, .int .u32 0, .int .u32 0]) rfl rfl zo121 rfl (fun b4 => ?_)
  refine XO.store_agg (vs := wC (sch (bg bs))) 0 rfl (by rw [wC_len]; rw [sch_len]; exact z121) rfl rfl (wC_one _) rfl (by simp [wC_len, sch_len]) ?_
  refine XO.own_eq (congrArg (fun c => some (b4, Obj.cells c 121 (0, 0)) :: _) (own_fill _ _ (by simp [wC_len, sch_len]))) ?_
  refine XO.nil ?_
  refine XQ.then_normal ?_
  refine XC.seq ?_
  refine XC.region ?_
  refine XO.rd rfl rfl rfl (Reads.move rfl) ?_
  refine XO.rd rfl rfl rfl (Reads.nilCheck rfl) ?_
  refine XO.rd rfl rfl rfl (Reads.load_whole (c := (wC h).toArray) k105 z105 rfl (WholeAt.of 1 rfl) (by simp [wC_len, hh])) ?_
  refine XO.alloc (cs := #[.int .u32 0, .int .u32 0, .int .u32 0, .int .u32 0, .int .u32 0, .int .u32 0, .int .u32 0, .int .u32 0]) rfl rfl zo105 rfl (fun b5 => ?_)
  refine XO.store_agg (vs := wC h) 0 rfl (by rw [wC_len]; rw [hh]; exact z105) rfl rfl (wC_one _) rfl (by simp [wC_len, hh]) ?_
  refine XO.own_eq (congrArg (fun c => some (b5, Obj.cells c 105 (0, 0)) :: _) (own_fill _ _ (by simp [wC_len, hh]))) ?_
  refine XO.nil ?_
  refine XQ.then_normal ?_
  refine XC.seq ?_
  refine XC.seq ?_
  refine XC.region ?_
  refine XO.rd rfl rfl rfl (Reads.load_glob (vs := wC KR) k121 z121 rfl hG) ?_
  refine XO.rd rfl rfl rfl (Reads.move rfl) ?_
  refine XO.nil ?_
  refine XQ.then_normal ?_
  refine XC.block ?_
  refine XC.loop (ι := Nat) (fun q => [(0, .pointer (some ⟨bh, 0, none⟩)), (4, .pointer (some ⟨b4, 0, none⟩)), (5, .pointer (some ⟨b5, 0, none⟩)), (18, .agg (wC KR).toArray), (19, .int .i64 q)]) (fun q => I) (fun q => some (b5, .cells (wC (rnds (bg bs) h q)).toArray 105 (0, 0)) :: some (b4, .cells (wC (sch (bg bs))).toArray 121 (0, 0)) :: some (bh, .cells (wC h).toArray 105 (0, 0)) :: ([] ++ Lf)) (fun q => q ≤ 64) (fun q => 64 - q) 0 (Nat.zero_le _) ⟨rfl, rfl, rfl, rfl, rfl, trivial⟩ rfl (List.Perm.refl _) (fun k hk => ?_)
  have hv8 := rnds_len (b := bg bs) hh k
  have hvw := rnds_ws (b := bg bs) hw k
  generalize hvv : rnds (bg bs) h k = v at hv8 hvw ⊢
  refine XC.seq ?_
  refine XC.region ?_
  refine XO.rd rfl rfl rfl (Reads.cmp rfl rfl rfl) ?_
  refine XO.nil ?_
  refine XQ.then_normal ?_
  refine XC.seq ?_
  refine XC.cond rfl (fun h1 => ?_) (fun h1 => ?_)
  · skip
    simp only [cmpInt, decide_eq_true_eq] at h1
    refine XC.skip ?_
    refine XQ.then_normal ?_
    refine XC.seq ?_
    refine XC.block ?_
    refine XC.seq ?_
    refine XC.region ?_
    refine XO.rd rfl rfl rfl (Reads.move rfl) ?_
    refine XO.rd rfl rfl rfl (Reads.index_agg (v := .int .u32 ((g KR k : Nat) : Int)) Tryd.underlying121 k83 z83 rfl rfl (by omega) (wC_g (by rw [KR_len]; omega))) ?_
    refine XO.rd rfl rfl rfl (Reads.assign rfl) ?_
    refine XO.rd rfl rfl rfl (Reads.assign rfl) ?_
    refine XO.nil ?_
    refine XQ.then_normal ?_
    refine XC.seq ?_
    refine XC.draw m_mixed none (.pure 0 (.pure 1 (.pure 2 (.pure 3 (.pure 4 (.pure 5 (.done))))))) _ (by kernel_rfl) (List.Sublist.refl _) ?_
    refine XR.rd rfl rfl rfl (Reads.index_arr_own (q := 0) Tryd.underlying105 z83 rfl rfl (by decide) (by decide)) ?_
    refine XR.rd rfl rfl rfl (Reads.load_own (v := .int .u32 ((g v 0 : Nat) : Int)) k83 rfl (by first | exact OwnAt.of 0 rfl (wC_g (by omega)) | exact OwnAt.of 1 rfl (wC_g (by omega)) | exact OwnAt.of 2 rfl (wC_g (by omega)))) ?_
    refine XR.rd rfl rfl rfl (Reads.index_arr_own (q := 4) Tryd.underlying105 z83 rfl rfl (by decide) (by decide)) ?_
    refine XR.rd rfl rfl rfl (Reads.load_own (v := .int .u32 ((g v 4 : Nat) : Int)) k83 rfl (by first | exact OwnAt.of 0 rfl (wC_g (by omega)) | exact OwnAt.of 1 rfl (wC_g (by omega)) | exact OwnAt.of 2 rfl (wC_g (by omega)))) ?_
    refine XR.rd rfl rfl rfl (Reads.assign rfl) ?_
    refine XR.rd rfl rfl rfl (Reads.assign rfl) ?_
    refine XR.nil ?_
    refine XQ.then_normal ?_
    refine XC.seq ?_
    refine XC.draw m_mixed none (.pure 0 (.pure 1 (.pure 2 (.pure 6 (.pure 7 (.pure 8 (.pure 9 (.pure 10 (.pure 11 (.pure 12 (.pure 13 (.pure 14 (.pure 15 (.pure 17 (.pure 19 (.pure 20 (.pure 21 (.eff 3 (.eff 4 (.pure 5 (.pure 16 (.pure 18 (.pure 22 (.pure 23 (.done))))))))))))))))))))))))) _ (by kernel_rfl) (List.Sublist.refl _) ?_
    refine XR.rd rfl rfl rfl (Reads.index_arr_own (q := 7) Tryd.underlying105 z83 rfl rfl (by decide) (by decide)) ?_
    refine XR.rd rfl rfl rfl (Reads.load_own (v := .int .u32 ((g v 7 : Nat) : Int)) k83 rfl (by first | exact OwnAt.of 0 rfl (wC_g (by omega)) | exact OwnAt.of 1 rfl (wC_g (by omega)) | exact OwnAt.of 2 rfl (wC_g (by omega)))) ?_
    refine XR.rd rfl rfl rfl (Reads.move rfl) ?_
    refine XR.rd rfl rfl rfl (Reads.move rfl) ?_
    refine XR.rd rfl rfl rfl (Reads.index_arr_own (q := 5) Tryd.underlying105 z83 rfl rfl (by decide) (by decide)) ?_
    refine XR.rd rfl rfl rfl (Reads.load_own (v := .int .u32 ((g v 5 : Nat) : Int)) k83 rfl (by first | exact OwnAt.of 0 rfl (wC_g (by omega)) | exact OwnAt.of 1 rfl (wC_g (by omega)) | exact OwnAt.of 2 rfl (wC_g (by omega)))) ?_
    refine XR.rd rfl rfl rfl (Reads.uand rfl rfl rfl (by repeat' first | assumption | with_reducible exact hvw _ | with_reducible exact hkr _ | with_reducible exact hsw _ | with_reducible exact hw _ | with_reducible exact hvw64 _ | with_reducible exact Go.Sh.mod_lt' _ | with_reducible apply Go.Sh.mix_lt | with_reducible apply Go.Sh.rotr_lt | with_reducible apply Go.Sh.xor_lt | with_reducible apply Go.Sh.and_lt | with_reducible apply Go.Sh.or_lt | with_reducible apply Go.Sh.div_lt' | with_reducible exact Nat.lt_of_lt_of_le (UInt8.toNat_lt _) (by decide) | with_reducible exact Nat.lt_of_lt_of_le (Go.Sh.bg_lt _ _) (by decide) | decide | omega) (by repeat' first | assumption | with_reducible exact hvw _ | with_reducible exact hkr _ | with_reducible exact hsw _ | with_reducible exact hw _ | with_reducible exact hvw64 _ | with_reducible exact Go.Sh.mod_lt' _ | with_reducible apply Go.Sh.mix_lt | with_reducible apply Go.Sh.rotr_lt | with_reducible apply Go.Sh.xor_lt | with_reducible apply Go.Sh.and_lt | with_reducible apply Go.Sh.or_lt | with_reducible apply Go.Sh.div_lt' | with_reducible exact Nat.lt_of_lt_of_le (UInt8.toNat_lt _) (by decide) | with_reducible exact Nat.lt_of_lt_of_le (Go.Sh.bg_lt _ _) (by decide) | decide | omega)) ?_
    refine XR.rd rfl rfl rfl (Reads.move rfl) ?_
    refine XR.rd rfl rfl rfl (Reads.unot rfl rfl (by repeat' first | assumption | with_reducible exact hvw _ | with_reducible exact hkr _ | with_reducible exact hsw _ | with_reducible exact hw _ | with_reducible exact hvw64 _ | with_reducible exact Go.Sh.mod_lt' _ | with_reducible apply Go.Sh.mix_lt | with_reducible apply Go.Sh.rotr_lt | with_reducible apply Go.Sh.xor_lt | with_reducible apply Go.Sh.and_lt | with_reducible apply Go.Sh.or_lt | with_reducible apply Go.Sh.div_lt' | with_reducible exact Nat.lt_of_lt_of_le (UInt8.toNat_lt _) (by decide) | with_reducible exact Nat.lt_of_lt_of_le (Go.Sh.bg_lt _ _) (by decide) | decide | omega)) ?_
    refine XR.rd rfl rfl rfl (Reads.index_arr_own (q := 6) Tryd.underlying105 z83 rfl rfl (by decide) (by decide)) ?_
    refine XR.rd rfl rfl rfl (Reads.load_own (v := .int .u32 ((g v 6 : Nat) : Int)) k83 rfl (by first | exact OwnAt.of 0 rfl (wC_g (by omega)) | exact OwnAt.of 1 rfl (wC_g (by omega)) | exact OwnAt.of 2 rfl (wC_g (by omega)))) ?_
    refine XR.rd rfl rfl rfl (Reads.uand rfl rfl rfl (by repeat' first | assumption | with_reducible exact hvw _ | with_reducible exact hkr _ | with_reducible exact hsw _ | with_reducible exact hw _ | with_reducible exact hvw64 _ | with_reducible exact Go.Sh.mod_lt' _ | with_reducible apply Go.Sh.mix_lt | with_reducible apply Go.Sh.rotr_lt | with_reducible apply Go.Sh.xor_lt | with_reducible apply Go.Sh.and_lt | with_reducible apply Go.Sh.or_lt | with_reducible apply Go.Sh.div_lt' | with_reducible exact Nat.lt_of_lt_of_le (UInt8.toNat_lt _) (by decide) | with_reducible exact Nat.lt_of_lt_of_le (Go.Sh.bg_lt _ _) (by decide) | decide | omega) (by repeat' first | assumption | with_reducible exact hvw _ | with_reducible exact hkr _ | with_reducible exact hsw _ | with_reducible exact hw _ | with_reducible exact hvw64 _ | with_reducible exact Go.Sh.mod_lt' _ | with_reducible apply Go.Sh.mix_lt | with_reducible apply Go.Sh.rotr_lt | with_reducible apply Go.Sh.xor_lt | with_reducible apply Go.Sh.and_lt | with_reducible apply Go.Sh.or_lt | with_reducible apply Go.Sh.div_lt' | with_reducible exact Nat.lt_of_lt_of_le (UInt8.toNat_lt _) (by decide) | with_reducible exact Nat.lt_of_lt_of_le (Go.Sh.bg_lt _ _) (by decide) | decide | omega)) ?_
    refine XR.rd rfl rfl rfl (Reads.uxor rfl rfl rfl (by repeat' first | assumption | with_reducible exact hvw _ | with_reducible exact hkr _ | with_reducible exact hsw _ | with_reducible exact hw _ | with_reducible exact hvw64 _ | with_reducible exact Go.Sh.mod_lt' _ | with_reducible apply Go.Sh.mix_lt | with_reducible apply Go.Sh.rotr_lt | with_reducible apply Go.Sh.xor_lt | with_reducible apply Go.Sh.and_lt | with_reducible apply Go.Sh.or_lt | with_reducible apply Go.Sh.div_lt' | with_reducible exact Nat.lt_of_lt_of_le (UInt8.toNat_lt _) (by decide) | with_reducible exact Nat.lt_of_lt_of_le (Go.Sh.bg_lt _ _) (by decide) | decide | omega) (by repeat' first | assumption | with_reducible exact hvw _ | with_reducible exact hkr _ | with_reducible exact hsw _ | with_reducible exact hw _ | with_reducible exact hvw64 _ | with_reducible exact Go.Sh.mod_lt' _ | with_reducible apply Go.Sh.mix_lt | with_reducible apply Go.Sh.rotr_lt | with_reducible apply Go.Sh.xor_lt | with_reducible apply Go.Sh.and_lt | with_reducible apply Go.Sh.or_lt | with_reducible apply Go.Sh.div_lt' | with_reducible exact Nat.lt_of_lt_of_le (UInt8.toNat_lt _) (by decide) | with_reducible exact Nat.lt_of_lt_of_le (Go.Sh.bg_lt _ _) (by decide) | decide | omega)) ?_
    refine XR.rd rfl rfl rfl (Reads.move rfl) ?_
    refine XR.rd rfl rfl rfl (Reads.move rfl) ?_
    refine XR.rd rfl rfl rfl (Reads.index_arr_own (q := k) Tryd.underlying121 z83 rfl rfl (by omega) (by omega)) ?_
    refine XR.rd rfl rfl rfl (Reads.load_own (v := .int .u32 ((g (sch (bg bs)) k : Nat) : Int)) k83 rfl (by first | exact OwnAt.of 1 rfl (wC_g (by rw [sch_len]; omega)) | exact OwnAt.of 2 rfl (wC_g (by rw [sch_len]; omega)))) ?_
    refine XR.buildL [.int .i64 6, .int .i64 11, .int .i64 25] [.int .i64 6, .int .i64 11, .int .i64 25] rfl rfl rfl Tryd.underlying52 el3 rfl (by simp) ⟨rfl, rfl, rfl, rfl, rfl, rfl, trivial⟩ rfl rfl (List.Sublist.refl _) (fun b30 => ?_)
    refine XR.callo (vs := [_, _]) rfl rfl rfl rfl en82 ⟨rfl, rfl, trivial⟩ (mixed_any _ [6, 11, 25] _ 3 _ (hvw _) (by decide) rfl (by decide)) (List.Perm.refl _) ?_
    rintro v I' L' _ ⟨rfl, hI', rfl⟩
    replace hI' := hI'.symm
    subst hI'
    refine ⟨.inr (List.Sublist.cons _ (List.Sublist.refl _)), ?_⟩
    refine XR.rd rfl rfl rfl (Reads.uadd rfl rfl rfl) ?_
    refine XR.rd rfl rfl rfl (Reads.uadd rfl rfl rfl) ?_
    refine XR.rd rfl rfl rfl (Reads.uadd rfl rfl rfl) ?_
    refine XR.rd rfl rfl rfl (Reads.uadd rfl rfl rfl) ?_
    show XR _ _ _ _ _ _ _ _ _ ((49, .int .u32 ((t1 v (g KR k) (g (sch (bg bs)) k) : Nat) : Int)) :: _) _ _ _
    refine XR.rd rfl rfl rfl (Reads.assign rfl) ?_
    refine XR.nil ?_
    refine XQ.then_normal ?_
    refine XC.seq ?_
    refine XC.weaken (E' := [(0, _), (4, _), (5, _), (8, _), (10, _), (18, _), (19, _)]) ⟨rfl, rfl, rfl, rfl, rfl, rfl, rfl, trivial⟩ ?_
    refine XC.draw m_mixed none (.pure 0 (.pure 3 (.pure 4 (.pure 5 (.pure 6 (.pure 7 (.pure 8 (.pure 9 (.pure 10 (.pure 11 (.pure 12 (.pure 13 (.pure 14 (.pure 15 (.pure 16 (.pure 17 (.eff 1 (.eff 2 (.pure 18 (.pure 19 (.done))))))))))))))))))))) _ (by kernel_rfl) (List.Sublist.refl _) ?_
    refine XR.rd rfl rfl rfl (Reads.move rfl) ?_
    refine XR.rd rfl rfl rfl (Reads.move rfl) ?_
    refine XR.rd rfl rfl rfl (Reads.index_arr_own (q := 1) Tryd.underlying105 z83 rfl rfl (by decide) (by decide)) ?_
    refine XR.rd rfl rfl rfl (Reads.load_own (v := .int .u32 ((g v 1 : Nat) : Int)) k83 rfl (by first | exact OwnAt.of 0 rfl (wC_g (by omega)) | exact OwnAt.of 1 rfl (wC_g (by omega)) | exact OwnAt.of 2 rfl (wC_g (by omega)))) ?_
    refine XR.rd rfl rfl rfl (Reads.uand rfl rfl rfl (by repeat' first | assumption | with_reducible exact hvw _ | with_reducible exact hkr _ | with_reducible exact hsw _ | with_reducible exact hw _ | with_reducible exact hvw64 _ | with_reducible exact Go.Sh.mod_lt' _ | with_reducible apply Go.Sh.mix_lt | with_reducible apply Go.Sh.rotr_lt | with_reducible apply Go.Sh.xor_lt | with_reducible apply Go.Sh.and_lt | with_reducible apply Go.Sh.or_lt | with_reducible apply Go.Sh.div_lt' | with_reducible exact Nat.lt_of_lt_of_le (UInt8.toNat_lt _) (by decide) | with_reducible exact Nat.lt_of_lt_of_le (Go.Sh.bg_lt _ _) (by decide) | decide | omega) (by repeat' first | assumption | with_reducible exact hvw _ | with_reducible exact hkr _ | with_reducible exact hsw _ | with_reducible exact hw _ | with_reducible exact hvw64 _ | with_reducible exact Go.Sh.mod_lt' _ | with_reducible apply Go.Sh.mix_lt | with_reducible apply Go.Sh.rotr_lt | with_reducible apply Go.Sh.xor_lt | with_reducible apply Go.Sh.and_lt | with_reducible apply Go.Sh.or_lt | with_reducible apply Go.Sh.div_lt' | with_reducible exact Nat.lt_of_lt_of_le (UInt8.toNat_lt _) (by decide) | with_reducible exact Nat.lt_of_lt_of_le (Go.Sh.bg_lt _ _) (by decide) | decide | omega)) ?_
    refine XR.rd rfl rfl rfl (Reads.move rfl) ?_
    refine XR.rd rfl rfl rfl (Reads.index_arr_own (q := 2) Tryd.underlying105 z83 rfl rfl (by decide) (by decide)) ?_
    refine XR.rd rfl rfl rfl (Reads.load_own (v := .int .u32 ((g v 2 : Nat) : Int)) k83 rfl (by first | exact OwnAt.of 0 rfl (wC_g (by omega)) | exact OwnAt.of 1 rfl (wC_g (by omega)) | exact OwnAt.of 2 rfl (wC_g (by omega)))) ?_
    refine XR.rd rfl rfl rfl (Reads.uand rfl rfl rfl (by repeat' first | assumption | with_reducible exact hvw _ | with_reducible exact hkr _ | with_reducible exact hsw _ | with_reducible exact hw _ | with_reducible exact hvw64 _ | with_reducible exact Go.Sh.mod_lt' _ | with_reducible apply Go.Sh.mix_lt | with_reducible apply Go.Sh.rotr_lt | with_reducible apply Go.Sh.xor_lt | with_reducible apply Go.Sh.and_lt | with_reducible apply Go.Sh.or_lt | with_reducible apply Go.Sh.div_lt' | with_reducible exact Nat.lt_of_lt_of_le (UInt8.toNat_lt _) (by decide) | with_reducible exact Nat.lt_of_lt_of_le (Go.Sh.bg_lt _ _) (by decide) | decide | omega) (by repeat' first | assumption | with_reducible exact hvw _ | with_reducible exact hkr _ | with_reducible exact hsw _ | with_reducible exact hw _ | with_reducible exact hvw64 _ | with_reducible exact Go.Sh.mod_lt' _ | with_reducible apply Go.Sh.mix_lt | with_reducible apply Go.Sh.rotr_lt | with_reducible apply Go.Sh.xor_lt | with_reducible apply Go.Sh.and_lt | with_reducible apply Go.Sh.or_lt | with_reducible apply Go.Sh.div_lt' | with_reducible exact Nat.lt_of_lt_of_le (UInt8.toNat_lt _) (by decide) | with_reducible exact Nat.lt_of_lt_of_le (Go.Sh.bg_lt _ _) (by decide) | decide | omega)) ?_
    refine XR.rd rfl rfl rfl (Reads.uxor rfl rfl rfl (by repeat' first | assumption | with_reducible exact hvw _ | with_reducible exact hkr _ | with_reducible exact hsw _ | with_reducible exact hw _ | with_reducible exact hvw64 _ | with_reducible exact Go.Sh.mod_lt' _ | with_reducible apply Go.Sh.mix_lt | with_reducible apply Go.Sh.rotr_lt | with_reducible apply Go.Sh.xor_lt | with_reducible apply Go.Sh.and_lt | with_reducible apply Go.Sh.or_lt | with_reducible apply Go.Sh.div_lt' | with_reducible exact Nat.lt_of_lt_of_le (UInt8.toNat_lt _) (by decide) | with_reducible exact Nat.lt_of_lt_of_le (Go.Sh.bg_lt _ _) (by decide) | decide | omega) (by repeat' first | assumption | with_reducible exact hvw _ | with_reducible exact hkr _ | with_reducible exact hsw _ | with_reducible exact hw _ | with_reducible exact hvw64 _ | with_reducible exact Go.Sh.mod_lt' _ | with_reducible apply Go.Sh.mix_lt | with_reducible apply Go.Sh.rotr_lt | with_reducible apply Go.Sh.xor_lt | with_reducible apply Go.Sh.and_lt | with_reducible apply Go.Sh.or_lt | with_reducible apply Go.Sh.div_lt' | with_reducible exact Nat.lt_of_lt_of_le (UInt8.toNat_lt _) (by decide) | with_reducible exact Nat.lt_of_lt_of_le (Go.Sh.bg_lt _ _) (by decide) | decide | omega)) ?_
    refine XR.rd rfl rfl rfl (Reads.index_arr_own (q := 1) Tryd.underlying105 z83 rfl rfl (by decide) (by decide)) ?_
    refine XR.rd rfl rfl rfl (Reads.load_own (v := .int .u32 ((g v 1 : Nat) : Int)) k83 rfl (by first | exact OwnAt.of 0 rfl (wC_g (by omega)) | exact OwnAt.of 1 rfl (wC_g (by omega)) | exact OwnAt.of 2 rfl (wC_g (by omega)))) ?_
    refine XR.rd rfl rfl rfl (Reads.index_arr_own (q := 2) Tryd.underlying105 z83 rfl rfl (by decide) (by decide)) ?_
    refine XR.rd rfl rfl rfl (Reads.load_own (v := .int .u32 ((g v 2 : Nat) : Int)) k83 rfl (by first | exact OwnAt.of 0 rfl (wC_g (by omega)) | exact OwnAt.of 1 rfl (wC_g (by omega)) | exact OwnAt.of 2 rfl (wC_g (by omega)))) ?_
    refine XR.rd rfl rfl rfl (Reads.uand rfl rfl rfl (by repeat' first | assumption | with_reducible exact hvw _ | with_reducible exact hkr _ | with_reducible exact hsw _ | with_reducible exact hw _ | with_reducible exact hvw64 _ | with_reducible exact Go.Sh.mod_lt' _ | with_reducible apply Go.Sh.mix_lt | with_reducible apply Go.Sh.rotr_lt | with_reducible apply Go.Sh.xor_lt | with_reducible apply Go.Sh.and_lt | with_reducible apply Go.Sh.or_lt | with_reducible apply Go.Sh.div_lt' | with_reducible exact Nat.lt_of_lt_of_le (UInt8.toNat_lt _) (by decide) | with_reducible exact Nat.lt_of_lt_of_le (Go.Sh.bg_lt _ _) (by decide) | decide | omega) (by repeat' first | assumption | with_reducible exact hvw _ | with_reducible exact hkr _ | with_reducible exact hsw _ | with_reducible exact hw _ | with_reducible exact hvw64 _ | with_reducible exact Go.Sh.mod_lt' _ | with_reducible apply Go.Sh.mix_lt | with_reducible apply Go.Sh.rotr_lt | with_reducible apply Go.Sh.xor_lt | with_reducible apply Go.Sh.and_lt | with_reducible apply Go.Sh.or_lt | with_reducible apply Go.Sh.div_lt' | with_reducible exact Nat.lt_of_lt_of_le (UInt8.toNat_lt _) (by decide) | with_reducible exact Nat.lt_of_lt_of_le (Go.Sh.bg_lt _ _) (by decide) | decide | omega)) ?_
    refine XR.rd rfl rfl rfl (Reads.uxor rfl rfl rfl (by repeat' first | assumption | with_reducible exact hvw _ | with_reducible exact hkr _ | with_reducible exact hsw _ | with_reducible exact hw _ | with_reducible exact hvw64 _ | with_reducible exact Go.Sh.mod_lt' _ | with_reducible apply Go.Sh.mix_lt | with_reducible apply Go.Sh.rotr_lt | with_reducible apply Go.Sh.xor_lt | with_reducible apply Go.Sh.and_lt | with_reducible apply Go.Sh.or_lt | with_reducible apply Go.Sh.div_lt' | with_reducible exact Nat.lt_of_lt_of_le (UInt8.toNat_lt _) (by decide) | with_reducible exact Nat.lt_of_lt_of_le (Go.Sh.bg_lt _ _) (by decide) | decide | omega) (by repeat' first | assumption | with_reducible exact hvw _ | with_reducible exact hkr _ | with_reducible exact hsw _ | with_reducible exact hw _ | with_reducible exact hvw64 _ | with_reducible exact Go.Sh.mod_lt' _ | with_reducible apply Go.Sh.mix_lt | with_reducible apply Go.Sh.rotr_lt | with_reducible apply Go.Sh.xor_lt | with_reducible apply Go.Sh.and_lt | with_reducible apply Go.Sh.or_lt | with_reducible apply Go.Sh.div_lt' | with_reducible exact Nat.lt_of_lt_of_le (UInt8.toNat_lt _) (by decide) | with_reducible exact Nat.lt_of_lt_of_le (Go.Sh.bg_lt _ _) (by decide) | decide | omega)) ?_
    refine XR.buildL [.int .i64 2, .int .i64 13, .int .i64 22] [.int .i64 2, .int .i64 13, .int .i64 22] rfl rfl rfl Tryd.underlying52 el3 rfl (by simp) ⟨rfl, rfl, rfl, rfl, rfl, rfl, trivial⟩ rfl rfl (List.Sublist.refl _) (fun b51 => ?_)
    refine XR.callo (vs := [_, _]) rfl rfl rfl rfl en82 ⟨rfl, rfl, trivial⟩ (mixed_any _ [2, 13, 22] _ 3 _ (hvw _) (by decide) rfl (by decide)) (List.Perm.refl _) ?_
    rintro v I' L' _ ⟨rfl, hI', rfl⟩
    replace hI' := hI'.symm
    subst hI'
    refine ⟨.inr (List.Sublist.cons _ (List.Sublist.refl _)), ?_⟩
    refine XR.rd rfl rfl rfl (Reads.uadd rfl rfl rfl) ?_
    show XR _ _ _ _ _ _ _ _ _ ((68, .int .u32 ((t2 v : Nat) : Int)) :: _) _ _ _
    refine XR.rd rfl rfl rfl (Reads.assign rfl) ?_
    refine XR.nil ?_
    refine XQ.then_normal ?_
    refine XC.seq ?_
    refine XC.draw m_mixed (some 2) (.pure 0 (.pure 1 (.eff 2 (.done)))) _ (by kernel_rfl) (List.Sublist.refl _) ?_
    refine XR.rd rfl rfl rfl (Reads.slice_arr 1 8 Tryd.underlying105 z83 rfl ⟨_, rfl⟩ rfl (by decide) (by decide) (by decide)) ?_
    refine XR.rd rfl rfl rfl (Reads.slice_arr 0 7 Tryd.underlying105 z83 rfl rfl ⟨_, rfl⟩ (by decide) (by decide) (by decide)) ?_
    refine XR.copy_at (news := wC (v.take 7)) 2 rfl rfl rfl Tryd.underlying84 el83 rfl rfl rfl (.slice Tryd.underlying84 (.inr (.inr ⟨b5, 0, rfl, fun j x hj => ⟨(wC v).toArray, 105, (0, 0), by simp, by
          rw [Nat.zero_add, List.getElem?_toArray]
          have h7 : wC (v.take 7) = (wC v).take 7 := by simp [wC]
          rw [h7, List.getElem?_take] at hj
          split at hj
          · exact hj
          · cases hj⟩⟩)) (by simp [wC_len, hv8]) (wC_one _)) rfl (by simp [wC_len, hv8]) (.inl rfl) ?_
    refine XR.own_eq (congrArg (fun c => _ :: _ :: some (b5, Obj.cells c 105 (0, 0)) :: _) (shift8 hv8)) ?_
    refine XR.nil ?_
    refine XQ.then_normal ?_
    refine XC.region ?_
    refine XO.rd rfl rfl rfl (Reads.move rfl) ?_
    refine XO.rd rfl rfl rfl (Reads.move rfl) ?_
    refine XO.rd rfl rfl rfl (Reads.uadd rfl rfl rfl) ?_
    refine XO.rd rfl rfl rfl (Reads.index_arr_own (q := 4) Tryd.underlying105 z83 rfl rfl (by decide) (by decide)) ?_
    refine XO.rd rfl rfl rfl (Reads.load_own (v := .int .u32 ((g v 3 : Nat) : Int)) k83 rfl (OwnAt.of 2 rfl rfl)) ?_
    refine XO.rd rfl rfl rfl (Reads.move rfl) ?_
    refine XO.rd rfl rfl rfl (Reads.uadd rfl rfl rfl) ?_
    refine XO.rd rfl rfl rfl (Reads.index_arr_own (q := 0) Tryd.underlying105 z83 rfl rfl (by decide) (by decide)) ?_
    refine XO.store 2 rfl z83 rfl rfl rfl rfl (by simp [wC]) ?_
    refine XO.rd rfl rfl rfl (Reads.index_arr_own (q := 4) Tryd.underlying105 z83 rfl rfl (by decide) (by decide)) ?_
    refine XO.store 2 rfl z83 rfl rfl rfl rfl (by simp [wC]) ?_
    refine XO.own_eq (congrArg (fun c => _ :: _ :: some (b5, Obj.cells c 105 (0, 0)) :: _) (rnd_store v (g KR k) (g (sch (bg bs)) k))) ?_
    refine XO.nil ?_
    refine XQ.block_normal ?_
    refine XQ.then_normal ?_
    refine XC.region ?_
    refine XO.rd rfl rfl rfl (Reads.add rfl rfl (by omega)) ?_
    refine XO.rd rfl rfl rfl (Reads.move rfl) ?_
    refine XO.nil ?_
    refine XQ.dropn 2 ?_
    rw [← hvv, ← rnds_succ]
    refine XQ.back (k + 1) (by omega) (by omega) ⟨rfl, rfl, rfl, rfl, rfl, trivial⟩ rfl (List.Perm.refl _)
  · skip
    simp only [cmpInt, decide_eq_false_iff_not] at h1
    have hk64 : k = 64 := by omega
    subst hk64
    subst hvv
    refine XC.exit ?_
    refine XQ.then_exit ?_
    refine XQ.then_exit ?_
    refine XQ.block_exit ?_
    refine XQ.then_normal ?_
    refine XC.seq ?_
    refine XC.region ?_
    refine XO.rd rfl rfl rfl (Reads.move rfl) ?_
    refine XO.nil ?_
    refine XQ.then_normal ?_
    refine XC.block ?_
    refine XC.own_eq (congrArg (fun c => _ :: _ :: some (bh, Obj.cells (wC c).toArray 105 (0, 0)) :: _) (compP_zero (v := rnds (bg bs) h 64) hh).symm) ?_
    refine XC.loop (ι := Nat) (fun q => [(0, .pointer (some ⟨bh, 0, none⟩)), (5, .pointer (some ⟨b5, 0, none⟩)), (82, .int .i64 q)]) (fun q => I) (fun q => some (b5, .cells (wC (rnds (bg bs) h 64)).toArray 105 (0, 0)) :: some (b4, .cells (wC (sch (bg bs))).toArray 121 (0, 0)) :: some (bh, .cells (wC (compP h (rnds (bg bs) h 64) q)).toArray 105 (0, 0)) :: ([] ++ Lf)) (fun q => q ≤ 8) (fun q => 8 - q) 0 (Nat.zero_le _) ⟨rfl, rfl, rfl, trivial⟩ rfl (List.Perm.refl _) (fun i hi => ?_)
    refine XC.seq ?_
    refine XC.region ?_
    refine XO.rd rfl rfl rfl (Reads.cmp rfl rfl rfl) ?_
    refine XO.nil ?_
    refine XQ.then_normal ?_
    refine XC.seq ?_
    refine XC.cond rfl (fun h2 => ?_) (fun h2 => ?_)
    · skip
      simp only [cmpInt, decide_eq_true_eq] at h2
      have hi8 : i < 8 := by omega
      refine XC.skip ?_
      refine XQ.then_normal ?_
      refine XC.seq ?_
      refine XC.block ?_
      refine XC.seq ?_
      refine XC.region ?_
      refine XO.rd rfl rfl rfl (Reads.move rfl) ?_
      refine XO.rd rfl rfl rfl (Reads.assign rfl) ?_
      refine XO.nil ?_
      refine XQ.then_normal ?_
      refine XC.draw m_mixed (some 11) (.pure 0 (.pure 1 (.pure 2 (.pure 3 (.pure 4 (.pure 5 (.pure 6 (.pure 7 (.pure 8 (.pure 9 (.pure 10 (.eff 11 (.done))))))))))))) _ (by kernel_rfl) (List.Sublist.refl _) ?_
      refine XR.rd rfl rfl rfl (Reads.move rfl) ?_
      refine XR.rd rfl rfl rfl (Reads.move rfl) ?_
      refine XR.rd rfl rfl rfl (Reads.nilCheck rfl) ?_
      refine XR.rd rfl rfl rfl (Reads.index_arr_own (q := i) Tryd.underlying105 z83 rfl rfl (by omega) (by omega)) ?_
      refine XR.rd rfl rfl rfl (Reads.load_own (v := .int .u32 ((g (compP h (rnds (bg bs) h 64) i) i : Nat) : Int)) k83 rfl (OwnAt.of 2 rfl (wC_g (by rw [compP_len]; omega)))) ?_
      rw [compP_g hi8]
      refine XR.rd rfl rfl rfl (Reads.move rfl) ?_
      refine XR.rd rfl rfl rfl (Reads.index_arr_own (q := i) Tryd.underlying105 z83 rfl rfl (by omega) (by omega)) ?_
      refine XR.rd rfl rfl rfl (Reads.load_own (v := .int .u32 ((g (rnds (bg bs) h 64) i : Nat) : Int)) k83 rfl (OwnAt.of 0 rfl (wC_g (by omega)))) ?_
      refine XR.rd rfl rfl rfl (Reads.uadd rfl rfl rfl) ?_
      refine XR.rd rfl rfl rfl (Reads.nilCheck rfl) ?_
      refine XR.rd rfl rfl rfl (Reads.index_arr_own (q := i) Tryd.underlying105 z83 rfl rfl (by omega) (by omega)) ?_
      refine XR.store 2 rfl rfl z83 rfl rfl rfl rfl (by simp [wC_len, compP_len]; omega) (.inl rfl) ?_
      refine XR.own_eq (congrArg (fun c => _ :: _ :: some (bh, Obj.cells c 105 (0, 0)) :: _) (compP_set hi8)) ?_
      refine XR.nil ?_
      refine XQ.block_normal ?_
      refine XQ.then_normal ?_
      refine XC.region ?_
      refine XO.rd rfl rfl rfl (Reads.add rfl rfl (by omega)) ?_
      refine XO.rd rfl rfl rfl (Reads.move rfl) ?_
      refine XO.nil ?_
      refine XQ.back (i + 1) (by omega) (by omega) ⟨rfl, rfl, rfl, trivial⟩ rfl (List.Perm.refl _)
    · skip
      simp only [cmpInt, decide_eq_false_iff_not] at h2
      have hi8 : i = 8 := by omega
      subst hi8
      refine XC.own_eq (congrArg (fun c => _ :: _ :: some (bh, Obj.cells (wC c).toArray 105 (0, 0)) :: _) (compP_all h (bg bs))) ?_
      refine XC.exit ?_
      refine XQ.then_exit ?_
      refine XQ.then_exit ?_
      refine XQ.block_exit ?_
      refine XQ.done_normal ?_
      refine XQ.dropn 2 ?_
      refine XQ.done0 (L := [some (bh, .cells (wC (comp h (bg bs))).toArray 105 (0, 0))]) rfl (Im.le_refl _) ?_
      exact ⟨rfl, rfl⟩

end Go.Proofs.YtkjhhifhgcihpaaDoor
