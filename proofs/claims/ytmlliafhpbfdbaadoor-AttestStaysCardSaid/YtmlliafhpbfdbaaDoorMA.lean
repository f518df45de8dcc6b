/- Walks: rotations. Walks: the schedule. Walks: one block of the digest. Walks: the words as bytes; parts of 64 bytes. Walks: the digest. -/
import Derived.Test.YtmlliafhpbfdbaaDoorT
import Derived.Test.YtmlliafhpbfdbaaDoorXh
import Derived.Test.YtmlliafhpbfdbaaDoorXw
namespace Go.Proofs.YtmlliafhpbfdbaaDoor
open Go.Xe Go.Sh Go

theorem rotl_any (x n : Nat) (I : Im) (hx : x < 4294967296) (hn : 0 < n ∧ n < 32) : FC Tryd.prog 112 [.int .u32 ((x : Nat) : Int), .int .i64 (-(n : Int))] I (fun u I' => u = .int .u32 ((rotr x n : Nat) : Int) ∧ I' = I) := by
  refine FSo.intro (n := 17) Tryd.func112 rfl rfl rfl (fun K Lf => ?_)
  refine XC.seq ?_
  refine XC.region ?_
  refine XO.rd rfl rfl rfl (Reads.assign rfl) ?_
  refine XO.nil ?_
  refine XQ.then_normal ?_
  refine XC.seq ?_
  refine XC.region ?_
  refine XO.rd rfl rfl rfl (Reads.move rfl) ?_
  refine XO.rd rfl rfl rfl (Reads.conv Tryd.underlying3 rfl Tryd.underlying124 rfl) ?_
  rw [show IntKind.u64.wrap (-(n : Int)) = ((18446744073709551616 - n : Nat) : Int) by rw [IntKind.wrap_u64]; omega]
  refine XO.rd rfl rfl rfl (Reads.uand (n := 31) rfl rfl rfl (by omega) (by decide)) ?_
  rw [show ((18446744073709551616 - n) &&& 31 : Nat) = 32 - n by rw [show (31 : Nat) = 2 ^ 5 - 1 from rfl, Nat.and_two_pow_sub_one_eq_mod]; omega]
  refine XO.rd rfl rfl rfl (Reads.assign rfl) ?_
  refine XO.nil ?_
  refine XQ.then_normal ?_
  refine XC.seq ?_
  refine XC.region ?_
  refine XO.rd rfl rfl rfl (Reads.move rfl) ?_
  refine XO.rd rfl rfl rfl (Reads.move rfl) ?_
  refine XO.rd rfl rfl rfl (Reads.ushl rfl rfl rfl (by show 32 - n ≤ 32; omega)) ?_
  refine XO.rd rfl rfl rfl (Reads.move rfl) ?_
  refine XO.rd rfl rfl rfl (Reads.move rfl) ?_
  refine XO.rd rfl rfl rfl (Reads.usub (m := 32) rfl rfl rfl (by omega) (by decide)) ?_
  rw [show 32 - (32 - n) = n by omega]
  refine XO.rd rfl rfl rfl (Reads.shrn rfl rfl (by show n ≤ 32; omega)) ?_
  refine XO.rd rfl rfl rfl (Reads.uor rfl rfl rfl (by repeat' first | assumption | with_reducible exact Go.Sh.mod_lt' _ | with_reducible apply Go.Sh.mix_lt | with_reducible apply Go.Sh.rotr_lt | with_reducible apply Go.Sh.xor_lt | with_reducible apply Go.Sh.and_lt | with_reducible apply Go.Sh.or_lt | with_reducible apply Go.Sh.div_lt' | with_reducible exact Nat.lt_of_lt_of_le (UInt8.toNat_lt _) (by decide) | with_reducible exact Nat.lt_of_lt_of_le (Go.Sh.bg_lt _ _) (by decide) | decide | omega) (by repeat' first | assumption | with_reducible exact Go.Sh.mod_lt' _ | with_reducible apply Go.Sh.mix_lt | with_reducible apply Go.Sh.rotr_lt | with_reducible apply Go.Sh.xor_lt | with_reducible apply Go.Sh.and_lt | with_reducible apply Go.Sh.or_lt | with_reducible apply Go.Sh.div_lt' | with_reducible exact Nat.lt_of_lt_of_le (UInt8.toNat_lt _) (by decide) | with_reducible exact Nat.lt_of_lt_of_le (Go.Sh.bg_lt _ _) (by decide) | decide | omega)) ?_
  refine XO.rd rfl rfl rfl (Reads.assign rfl) ?_
  refine XO.nil ?_
  refine XQ.then_normal ?_
  refine XC.ret ?_
  refine XQ.done1 rfl rfl (Im.le_refl _) ?_
  exact ⟨rfl, rfl, rfl⟩

theorem mixed_any (x : Nat) (l : List Nat) (b n : Nat) (I : Im) (hx : x < 4294967296) (hl : ∀ y ∈ l, 0 < y ∧ y < 32) (hn : n = l.length) (hn9 : n ≤ 100) : FSo Tryd.prog 111 [.int .u32 ((x : Nat) : Int), .slice (some ⟨b, 0, none⟩) n n] I [some (b, .cells ((l.map fun x => Value.int .i64 ((x : Nat) : Int)).toArray) 3 (0, 0))] (fun u I' L' => u = .int .u32 ((mix x l : Nat) : Int) ∧ I' = I ∧ L' = [some (b, .cells ((l.map fun x => Value.int .i64 ((x : Nat) : Int)).toArray) 3 (0, 0))]) := by
  refine FSo.intro (n := 22) Tryd.func111 rfl rfl rfl (fun K Lf => ?_)
  refine XC.seq ?_
  refine XC.region ?_
  refine XO.rd rfl rfl rfl (Reads.assign rfl) ?_
  refine XO.nil ?_
  refine XQ.then_normal ?_
  refine XC.seq ?_
  refine XC.region ?_
  refine XO.rd rfl rfl rfl (Reads.assign rfl) ?_
  refine XO.nil ?_
  refine XQ.then_normal ?_
  refine XC.seq ?_
  refine XC.seq ?_
  refine XC.region ?_
  refine XO.rd rfl rfl rfl (Reads.move rfl) ?_
  refine XO.rd rfl rfl rfl (Reads.len_slice Tryd.underlying23 rfl) ?_
  refine XO.rd rfl rfl rfl (Reads.move rfl) ?_
  refine XO.nil ?_
  refine XQ.then_normal ?_
  refine XC.block ?_
  refine XC.loop (ι := Nat) (fun q => [(0, .int .u32 ((x : Nat) : Int)), (5, .int .u32 ((mix x (l.take q) : Nat) : Int)), (8, .slice (some ⟨b, 0, none⟩) n n), (9, .int .i64 n), (10, .int .i64 q)]) (fun q => I) (fun q => [some (b, .cells ((l.map fun x => Value.int .i64 ((x : Nat) : Int)).toArray) 3 (0, 0))] ++ Lf) (fun q => q ≤ n) (fun q => n - q) 0 (Nat.zero_le _) ⟨rfl, rfl, rfl, rfl, rfl, trivial⟩ rfl (List.Perm.refl _) (fun k hk => ?_)
  refine XC.seq ?_
  refine XC.region ?_
  refine XO.rd rfl rfl rfl (Reads.cmp rfl rfl rfl) ?_
  refine XO.nil ?_
  refine XQ.then_normal ?_
  refine XC.seq ?_
  refine XC.cond rfl (fun h1 => ?_) (fun h1 => ?_)
  · skip
    simp only [cmpInt, decide_eq_true_eq] at h1
    have hk3 : k < l.length := by omega
    refine XC.skip ?_
    refine XQ.then_normal ?_
    refine XC.seq ?_
    refine XC.block ?_
    refine XC.seq ?_
    refine XC.region ?_
    refine XO.rd rfl rfl rfl (Reads.index_own (q := k) Tryd.underlying23 z3 rfl rfl (by omega) (by simp)) ?_
    refine XO.rd rfl rfl rfl (Reads.load_own (v := .int .i64 ((l[k] : Nat) : Int)) k3 rfl (OwnAt.of 0 rfl (by simp [hk3]))) ?_
    refine XO.rd rfl rfl rfl (Reads.assign rfl) ?_
    refine XO.nil ?_
    refine XQ.then_normal ?_
    refine XC.region ?_
    refine XO.rd rfl rfl rfl (Reads.move rfl) ?_
    refine XO.rd rfl rfl rfl (Reads.move rfl) ?_
    refine XO.rd rfl rfl rfl (Reads.move rfl) ?_
    have hlk := hl _ (List.getElem_mem hk3)
    refine XO.rd rfl rfl rfl (Reads.neg rfl (by omega)) ?_
    refine XO.callp rfl rfl en112 (rotl_any x l[k] _ hx (hl _ (List.getElem_mem hk3))) ⟨rfl, rfl, trivial⟩ ?_
    refine XO.rd rfl rfl rfl (Reads.uxor rfl rfl rfl (mix_lt _ hx) (rotr_lt hx)) ?_
    rw [← mix_snoc, ← List.take_succ_eq_append_getElem hk3]
    refine XO.rd rfl rfl rfl (Reads.assign rfl) ?_
    refine XO.nil ?_
    refine XQ.block_normal ?_
    refine XQ.then_normal ?_
    refine XC.region ?_
    refine XO.rd rfl rfl rfl (Reads.add rfl rfl (by omega)) ?_
    refine XO.rd rfl rfl rfl (Reads.move rfl) ?_
    refine XO.nil ?_
    refine XQ.back (k + 1) (by omega) (by omega) ⟨rfl, rfl, rfl, rfl, rfl, trivial⟩ rfl (List.Perm.refl _)
  · skip
    simp only [cmpInt, decide_eq_false_iff_not] at h1
    rw [List.take_of_length_le (by omega)]
    refine XC.exit ?_
    refine XQ.then_exit ?_
    refine XQ.then_exit ?_
    refine XQ.block_exit ?_
    refine XQ.then_normal ?_
    refine XC.seq ?_
    refine XC.region ?_
    refine XO.rd rfl rfl rfl (Reads.move rfl) ?_
    refine XO.rd rfl rfl rfl (Reads.assign rfl) ?_
    refine XO.nil ?_
    refine XQ.then_normal ?_
    refine XC.ret ?_
    refine XQ.done1 rfl rfl (Im.le_refl _) ?_
    exact ⟨rfl, rfl, rfl⟩

end Go.Proofs.YtmlliafhpbfdbaaDoor
namespace Go.Proofs.YtmlliafhpbfdbaaDoor
open Go.Xe Go.Sh Go

theorem sched_any (p : Option Addr) (cap : Nat) (bs : List UInt8) (I : Im) (hA : Arr I p bs) (hb : bs.length = 64) : FC Tryd.prog 110 [.slice p 64 cap] I (fun u I' => u = .agg (wC (sch (bg bs))).toArray ∧ I' = I) := by
  refine FSo.intro (n := 84) Tryd.func110 rfl rfl rfl (fun K Lf => ?_)
  refine XC.seq ?_
  refine XC.region ?_
  refine XO.alloc (cs := #[.int .u32 0, .int .u32 0, .int .u32 0, .int .u32 0, .int .u32 0, .int .u32 0, .int .u32 0, .int .u32 0, .int .u32 0, .int .u32 0, .int .u32 0, .int .u32 0, .int .u32 0, .int .u32 0, .int .u32 0, .int .u32 0, .int .u32 0, .int .u32 0, .int .u32 0, .int .u32 0, .int .u32 0, .int .u32 0, .int .u32 0, .int .u32 0, .int .u32 0, .int .u32 0, .int .u32 0, .int .u32 0, .int .u32 0, .int .u32 0, .int .u32 0, .int .u32 0, .int .u32 0, .int .u32 0, .int .u32 0, .int .u32 0, .int .u32 0, .int .u32 0, .int .u32 0, .int .u32 0, .int .u32 0, .int .u32 0, .int .u32 0, .int .u32 0, .int .u32 0, .int .u32 0, .int .u32 0, .int .u32 0, .int .u32 0, .int .u32 0, .int .u32 0, .int .u32 0, .int .u32 0, .int .u32 0, .int .u32 0, .int .u32 0, .int .u32 0, .int .u32 0, .int .u32 0, .int .u32 0, .int .u32 0, .int .u32 0, .int .u32 0, .int .u32 0]) rfl rfl zo159 rfl (fun b2 => ?_)
  refine XO.nil ?_
  refine XQ.then_normal ?_
  refine XC.seq ?_
  refine XC.seq ?_
  refine XC.region ?_
  refine XO.rd rfl rfl rfl (Reads.move rfl) ?_
  refine XO.nil ?_
  refine XQ.then_normal ?_
  refine XC.block ?_
  refine XC.loop (ι := Nat) (fun q => [(0, .slice p 64 cap), (2, .pointer (some ⟨b2, 0, none⟩)), (7, .int .i64 q)]) (fun q => I) (fun q => some (b2, .cells (fillC (sch0 (bg bs) q) 64).toArray 159 (0, 0)) :: ([] ++ Lf)) (fun q => q ≤ 16) (fun q => 16 - q) 0 (Nat.zero_le _) ⟨rfl, rfl, rfl, trivial⟩ rfl (List.Perm.refl _) (fun k hk => ?_)
  refine XC.seq ?_
  refine XC.region ?_
  refine XO.rd rfl rfl rfl (Reads.cmp rfl rfl rfl) ?_
  refine XO.nil ?_
  refine XQ.then_normal ?_
  refine XC.seq ?_
  refine XC.cond rfl (fun h1 => ?_) (fun h1 => ?_)
  · skip
    simp only [cmpInt, decide_eq_true_eq] at h1
    refine XC.skip ?_
    refine XQ.then_normal ?_
    refine XC.seq ?_
    refine XC.block ?_
    refine XC.seq ?_
    refine XC.region ?_
    refine XO.rd rfl rfl rfl (Reads.move rfl) ?_
    refine XO.rd rfl rfl rfl (Reads.assign rfl) ?_
    refine XO.nil ?_
    refine XQ.then_normal ?_
    refine XC.draw m_mixed (some 35) (.pure 0 (.pure 1 (.pure 2 (.pure 3 (.pure 4 (.pure 5 (.pure 6 (.pure 7 (.pure 8 (.pure 9 (.pure 10 (.pure 11 (.pure 12 (.pure 13 (.pure 14 (.pure 15 (.pure 16 (.pure 17 (.pure 18 (.pure 19 (.pure 20 (.pure 21 (.pure 22 (.pure 23 (.pure 24 (.pure 25 (.pure 26 (.pure 27 (.pure 28 (.pure 29 (.pure 30 (.pure 31 (.pure 32 (.pure 33 (.pure 34 (.eff 35 (.done))))))))))))))))))))))))))))))))))))) _ (by kernel_rfl) (List.Sublist.refl _) ?_
    refine XR.rd rfl rfl rfl (Reads.move rfl) ?_
    refine XR.rd rfl rfl rfl (Reads.move rfl) ?_
    refine XR.rd rfl rfl rfl (Reads.move rfl) ?_
    refine XR.rd rfl rfl rfl (Reads.mul rfl rfl (by omega)) ?_
    refine XR.rd rfl rfl rfl (Reads.index_slot (q := 4 * k) Tryd.underlying98 z5 rfl rfl (by omega) (hA.isSome (by decide) (by omega)) (by omega)) ?_
    refine XR.rd rfl rfl rfl (Reads.load_at k5 rfl (hA.bg_at (j := 4 * k) (by omega) rfl)) ?_
    refine XR.rd rfl rfl rfl (Reads.convl Tryd.underlying5 rfl Tryd.underlying120 rfl rfl (by repeat' first | assumption | with_reducible exact hw _ | with_reducible exact Go.Sh.mod_lt' _ | with_reducible apply Go.Sh.mix_lt | with_reducible apply Go.Sh.rotr_lt | with_reducible apply Go.Sh.xor_lt | with_reducible apply Go.Sh.and_lt | with_reducible apply Go.Sh.or_lt | with_reducible apply Go.Sh.div_lt' | with_reducible exact Nat.lt_of_lt_of_le (UInt8.toNat_lt _) (by decide) | with_reducible exact Nat.lt_of_lt_of_le (Go.Sh.bg_lt _ _) (by decide) | decide | omega)) ?_
    refine XR.rd rfl rfl rfl (Reads.ushl (s := 24) rfl rfl rfl (by decide)) ?_
    refine XR.rd rfl rfl rfl (Reads.move rfl) ?_
    refine XR.rd rfl rfl rfl (Reads.move rfl) ?_
    refine XR.rd rfl rfl rfl (Reads.mul rfl rfl (by omega)) ?_
    refine XR.rd rfl rfl rfl (Reads.add rfl rfl (by omega)) ?_
    refine XR.rd rfl rfl rfl (Reads.index_slot (q := 4 * k + 1) Tryd.underlying98 z5 rfl rfl (by omega) (hA.isSome (by decide) (by omega)) (by omega)) ?_
    refine XR.rd rfl rfl rfl (Reads.load_at k5 rfl (hA.bg_at (j := 4 * k + 1) (by omega) rfl)) ?_
    refine XR.rd rfl rfl rfl (Reads.convl Tryd.underlying5 rfl Tryd.underlying120 rfl rfl (by repeat' first | assumption | with_reducible exact hw _ | with_reducible exact Go.Sh.mod_lt' _ | with_reducible apply Go.Sh.mix_lt | with_reducible apply Go.Sh.rotr_lt | with_reducible apply Go.Sh.xor_lt | with_reducible apply Go.Sh.and_lt | with_reducible apply Go.Sh.or_lt | with_reducible apply Go.Sh.div_lt' | with_reducible exact Nat.lt_of_lt_of_le (UInt8.toNat_lt _) (by decide) | with_reducible exact Nat.lt_of_lt_of_le (Go.Sh.bg_lt _ _) (by decide) | decide | omega)) ?_
    refine XR.rd rfl rfl rfl (Reads.ushl (s := 16) rfl rfl rfl (by decide)) ?_
    refine XR.rd rfl rfl rfl (Reads.uor rfl rfl rfl (by repeat' first | assumption | with_reducible exact hw _ | with_reducible exact Go.Sh.mod_lt' _ | with_reducible apply Go.Sh.mix_lt | with_reducible apply Go.Sh.rotr_lt | with_reducible apply Go.Sh.xor_lt | with_reducible apply Go.Sh.and_lt | with_reducible apply Go.Sh.or_lt | with_reducible apply Go.Sh.div_lt' | with_reducible exact Nat.lt_of_lt_of_le (UInt8.toNat_lt _) (by decide) | with_reducible exact Nat.lt_of_lt_of_le (Go.Sh.bg_lt _ _) (by decide) | decide | omega) (by repeat' first | assumption | with_reducible exact hw _ | with_reducible exact Go.Sh.mod_lt' _ | with_reducible apply Go.Sh.mix_lt | with_reducible apply Go.Sh.rotr_lt | with_reducible apply Go.Sh.xor_lt | with_reducible apply Go.Sh.and_lt | with_reducible apply Go.Sh.or_lt | with_reducible apply Go.Sh.div_lt' | with_reducible exact Nat.lt_of_lt_of_le (UInt8.toNat_lt _) (by decide) | with_reducible exact Nat.lt_of_lt_of_le (Go.Sh.bg_lt _ _) (by decide) | decide | omega)) ?_
    refine XR.rd rfl rfl rfl (Reads.move rfl) ?_
    refine XR.rd rfl rfl rfl (Reads.move rfl) ?_
    refine XR.rd rfl rfl rfl (Reads.mul rfl rfl (by omega)) ?_
    refine XR.rd rfl rfl rfl (Reads.add rfl rfl (by omega)) ?_
    refine XR.rd rfl rfl rfl (Reads.index_slot (q := 4 * k + 2) Tryd.underlying98 z5 rfl rfl (by omega) (hA.isSome (by decide) (by omega)) (by omega)) ?_
    refine XR.rd rfl rfl rfl (Reads.load_at k5 rfl (hA.bg_at (j := 4 * k + 2) (by omega) rfl)) ?_
    refine XR.rd rfl rfl rfl (Reads.convl Tryd.underlying5 rfl Tryd.underlying120 rfl rfl (by repeat' first | assumption | with_reducible exact hw _ | with_reducible exact Go.Sh.mod_lt' _ | with_reducible apply Go.Sh.mix_lt | with_reducible apply Go.Sh.rotr_lt | with_reducible apply Go.Sh.xor_lt | with_reducible apply Go.Sh.and_lt | with_reducible apply Go.Sh.or_lt | with_reducible apply Go.Sh.div_lt' | with_reducible exact Nat.lt_of_lt_of_le (UInt8.toNat_lt _) (by decide) | with_reducible exact Nat.lt_of_lt_of_le (Go.Sh.bg_lt _ _) (by decide) | decide | omega)) ?_
    refine XR.rd rfl rfl rfl (Reads.ushl (s := 8) rfl rfl rfl (by decide)) ?_
    refine XR.rd rfl rfl rfl (Reads.uor rfl rfl rfl (by repeat' first | assumption | with_reducible exact hw _ | with_reducible exact Go.Sh.mod_lt' _ | with_reducible apply Go.Sh.mix_lt | with_reducible apply Go.Sh.rotr_lt | with_reducible apply Go.Sh.xor_lt | with_reducible apply Go.Sh.and_lt | with_reducible apply Go.Sh.or_lt | with_reducible apply Go.Sh.div_lt' | with_reducible exact Nat.lt_of_lt_of_le (UInt8.toNat_lt _) (by decide) | with_reducible exact Nat.lt_of_lt_of_le (Go.Sh.bg_lt _ _) (by decide) | decide | omega) (by repeat' first | assumption | with_reducible exact hw _ | with_reducible exact Go.Sh.mod_lt' _ | with_reducible apply Go.Sh.mix_lt | with_reducible apply Go.Sh.rotr_lt | with_reducible apply Go.Sh.xor_lt | with_reducible apply Go.Sh.and_lt | with_reducible apply Go.Sh.or_lt | with_reducible apply Go.Sh.div_lt' | with_reducible exact Nat.lt_of_lt_of_le (UInt8.toNat_lt _) (by decide) | with_reducible exact Nat.lt_of_lt_of_le (Go.Sh.bg_lt _ _) (by decide) | decide | omega)) ?_
    refine XR.rd rfl rfl rfl (Reads.move rfl) ?_
    refine XR.rd rfl rfl rfl (Reads.move rfl) ?_
    refine XR.rd rfl rfl rfl (Reads.mul rfl rfl (by omega)) ?_
    refine XR.rd rfl rfl rfl (Reads.add rfl rfl (by omega)) ?_
    refine XR.rd rfl rfl rfl (Reads.index_slot (q := 4 * k + 3) Tryd.underlying98 z5 rfl rfl (by omega) (hA.isSome (by decide) (by omega)) (by omega)) ?_
    refine XR.rd rfl rfl rfl (Reads.load_at k5 rfl (hA.bg_at (j := 4 * k + 3) (by omega) rfl)) ?_
    refine XR.rd rfl rfl rfl (Reads.convl Tryd.underlying5 rfl Tryd.underlying120 rfl rfl (by repeat' first | assumption | with_reducible exact hw _ | with_reducible exact Go.Sh.mod_lt' _ | with_reducible apply Go.Sh.mix_lt | with_reducible apply Go.Sh.rotr_lt | with_reducible apply Go.Sh.xor_lt | with_reducible apply Go.Sh.and_lt | with_reducible apply Go.Sh.or_lt | with_reducible apply Go.Sh.div_lt' | with_reducible exact Nat.lt_of_lt_of_le (UInt8.toNat_lt _) (by decide) | with_reducible exact Nat.lt_of_lt_of_le (Go.Sh.bg_lt _ _) (by decide) | decide | omega)) ?_
    refine XR.rd rfl rfl rfl (Reads.uor rfl rfl rfl (by repeat' first | assumption | with_reducible exact hw _ | with_reducible exact Go.Sh.mod_lt' _ | with_reducible apply Go.Sh.mix_lt | with_reducible apply Go.Sh.rotr_lt | with_reducible apply Go.Sh.xor_lt | with_reducible apply Go.Sh.and_lt | with_reducible apply Go.Sh.or_lt | with_reducible apply Go.Sh.div_lt' | with_reducible exact Nat.lt_of_lt_of_le (UInt8.toNat_lt _) (by decide) | with_reducible exact Nat.lt_of_lt_of_le (Go.Sh.bg_lt _ _) (by decide) | decide | omega) (by repeat' first | assumption | with_reducible exact hw _ | with_reducible exact Go.Sh.mod_lt' _ | with_reducible apply Go.Sh.mix_lt | with_reducible apply Go.Sh.rotr_lt | with_reducible apply Go.Sh.xor_lt | with_reducible apply Go.Sh.and_lt | with_reducible apply Go.Sh.or_lt | with_reducible apply Go.Sh.div_lt' | with_reducible exact Nat.lt_of_lt_of_le (UInt8.toNat_lt _) (by decide) | with_reducible exact Nat.lt_of_lt_of_le (Go.Sh.bg_lt _ _) (by decide) | decide | omega)) ?_
    refine XR.rd rfl rfl rfl (Reads.index_arr_own (q := k) Tryd.underlying159 z120 rfl rfl (by omega) (by omega)) ?_
    refine XR.store 0 rfl rfl z120 rfl rfl rfl rfl (by simp [fillC, wC_len, sch0_len]; omega) (.inl rfl) ?_
    refine XR.own_eq (congrArg (fun c => some (b2, Obj.cells c 159 (0, 0)) :: _) (sched_step0 (bg bs) (by omega))) ?_
    refine XR.nil ?_
    refine XQ.block_normal ?_
    refine XQ.then_normal ?_
    refine XC.region ?_
    refine XO.rd rfl rfl rfl (Reads.add rfl rfl (by omega)) ?_
    refine XO.rd rfl rfl rfl (Reads.move rfl) ?_
    refine XO.nil ?_
    refine XQ.back (k + 1) (by omega) (by omega) ⟨rfl, rfl, rfl, trivial⟩ rfl (List.Perm.refl _)
  · skip
    simp only [cmpInt, decide_eq_false_iff_not] at h1
    have hk16 : k = 16 := by omega
    subst hk16
    refine XC.exit ?_
    refine XQ.then_exit ?_
    refine XQ.then_exit ?_
    refine XQ.block_exit ?_
    refine XQ.then_normal ?_
    refine XC.seq ?_
    refine XC.seq ?_
    refine XC.region ?_
    refine XO.rd rfl rfl rfl (Reads.assign rfl) ?_
    refine XO.nil ?_
    refine XQ.then_normal ?_
    refine XC.block ?_
    refine XC.loop (ι := Nat) (fun q => [(2, .pointer (some ⟨b2, 0, none⟩)), (4, .int .i64 ((16 + q : Nat) : Int))]) (fun q => I) (fun q => some (b2, .cells (fillC (schA (bg bs) q) 64).toArray 159 (0, 0)) :: ([] ++ Lf)) (fun q => q ≤ 48) (fun q => 48 - q) 0 (Nat.zero_le _) ⟨rfl, rfl, trivial⟩ rfl (List.Perm.refl _) (fun k hk => ?_)
    have hw := schA_ws (b := bg bs) (fun i => bg_lt _ _) k
    refine XC.seq ?_
    refine XC.seq ?_
    refine XC.region ?_
    refine XO.rd rfl rfl rfl (Reads.move rfl) ?_
    refine XO.rd rfl rfl rfl (Reads.cmp rfl rfl rfl) ?_
    refine XO.nil ?_
    refine XQ.then_normal ?_
    refine XC.cond rfl (fun h2 => ?_) (fun h2 => ?_)
    · skip
      simp only [cmpInt, decide_eq_true_eq] at h2
      refine XC.skip ?_
      refine XQ.then_normal ?_
      refine XC.seq ?_
      refine XC.block ?_
      refine XC.seq ?_
      refine XC.draw m_mixed none (.pure 0 (.pure 1 (.pure 2 (.pure 3 (.pure 4 (.pure 5 (.pure 6 (.pure 7 (.pure 8 (.pure 9 (.done))))))))))) _ (by kernel_rfl) (List.Sublist.refl _) ?_
      refine XR.rd rfl rfl rfl (Reads.move rfl) ?_
      refine XR.rd rfl rfl rfl (Reads.sub rfl rfl (by omega)) ?_
      refine XR.rd rfl rfl rfl (Reads.index_arr_own (q := 16 + k - 15) Tryd.underlying159 z120 rfl rfl (by omega) (by omega)) ?_
      refine XR.rd rfl rfl rfl (Reads.load_own (v := .int .u32 ((g (schA (bg bs) k) (16 + k - 15) : Nat) : Int)) k120 rfl (by first | exact OwnAt.of 0 rfl (fillC_g (by rw [schA_len]; omega)) | exact OwnAt.of 1 rfl (fillC_g (by rw [schA_len]; omega)) | exact OwnAt.of 2 rfl (fillC_g (by rw [schA_len]; omega)))) ?_
      refine XR.rd rfl rfl rfl (Reads.move rfl) ?_
      refine XR.rd rfl rfl rfl (Reads.sub rfl rfl (by omega)) ?_
      refine XR.rd rfl rfl rfl (Reads.index_arr_own (q := 16 + k - 2) Tryd.underlying159 z120 rfl rfl (by omega) (by omega)) ?_
      refine XR.rd rfl rfl rfl (Reads.load_own (v := .int .u32 ((g (schA (bg bs) k) (16 + k - 2) : Nat) : Int)) k120 rfl (by first | exact OwnAt.of 0 rfl (fillC_g (by rw [schA_len]; omega)) | exact OwnAt.of 1 rfl (fillC_g (by rw [schA_len]; omega)) | exact OwnAt.of 2 rfl (fillC_g (by rw [schA_len]; omega)))) ?_
      refine XR.rd rfl rfl rfl (Reads.assign rfl) ?_
      refine XR.rd rfl rfl rfl (Reads.assign rfl) ?_
      refine XR.nil ?_
      refine XQ.then_normal ?_
      refine XC.join (ι := Unit) (fun q => [(2, .pointer (some ⟨b2, 0, none⟩)), (4, .int .i64 ((16 + k : Nat) : Int))]) (fun q => I) (fun q => some (b2, .cells (fillC (schA (bg bs) (k + 1)) 64).toArray 159 (0, 0)) :: ([] ++ Lf)) (fun q => True) ?_ (fun q hq => ?_)
      · skip
        refine XC.draw m_mixed (some 25) (.pure 0 (.pure 1 (.pure 2 (.pure 3 (.pure 4 (.pure 5 (.pure 8 (.pure 9 (.pure 12 (.pure 13 (.pure 14 (.pure 15 (.pure 17 (.pure 20 (.pure 21 (.alt 6 (.alt 7 (.pure 10 (.pure 11 (.pure 16 (.eff 18 (.eff 19 (.pure 22 (.pure 23 (.pure 24 (.eff 25 (.done)))))))))) (.eff 18 (.eff 7 (.pure 10 (.pure 11 (.pure 16 (.eff 19 (.pure 22 (.pure 23 (.pure 24 (.eff 25 (.done)))))))))))) (.eff 18 (.eff 6 (.eff 7 (.pure 10 (.pure 11 (.pure 16 (.eff 19 (.pure 22 (.pure 23 (.pure 24 (.eff 25 (.done)))))))))))))))))))))))))))) _ (by kernel_rfl) (List.Sublist.refl _) ?_
        refine XR.rd rfl rfl rfl (Reads.move rfl) ?_
        refine XR.rd rfl rfl rfl (Reads.move rfl) ?_
        refine XR.rd rfl rfl rfl (Reads.sub rfl rfl (by omega)) ?_
        refine XR.rd rfl rfl rfl (Reads.index_arr_own (q := 16 + k - 16) Tryd.underlying159 z120 rfl rfl (by omega) (by omega)) ?_
        refine XR.rd rfl rfl rfl (Reads.load_own (v := .int .u32 ((g (schA (bg bs) k) (16 + k - 16) : Nat) : Int)) k120 rfl (by first | exact OwnAt.of 0 rfl (fillC_g (by rw [schA_len]; omega)) | exact OwnAt.of 1 rfl (fillC_g (by rw [schA_len]; omega)) | exact OwnAt.of 2 rfl (fillC_g (by rw [schA_len]; omega)))) ?_
        refine XR.rd rfl rfl rfl (Reads.move rfl) ?_
        refine XR.rd rfl rfl rfl (Reads.move rfl) ?_
        refine XR.rd rfl rfl rfl (Reads.shrn (s := 3) rfl rfl (by decide)) ?_
        refine XR.rd rfl rfl rfl (Reads.move rfl) ?_
        refine XR.rd rfl rfl rfl (Reads.sub rfl rfl (by omega)) ?_
        refine XR.rd rfl rfl rfl (Reads.index_arr_own (q := 16 + k - 7) Tryd.underlying159 z120 rfl rfl (by omega) (by omega)) ?_
        refine XR.rd rfl rfl rfl (Reads.load_own (v := .int .u32 ((g (schA (bg bs) k) (16 + k - 7) : Nat) : Int)) k120 rfl (by first | exact OwnAt.of 0 rfl (fillC_g (by rw [schA_len]; omega)) | exact OwnAt.of 1 rfl (fillC_g (by rw [schA_len]; omega)) | exact OwnAt.of 2 rfl (fillC_g (by rw [schA_len]; omega)))) ?_
        refine XR.rd rfl rfl rfl (Reads.move rfl) ?_
        refine XR.rd rfl rfl rfl (Reads.move rfl) ?_
        refine XR.rd rfl rfl rfl (Reads.shrn (s := 10) rfl rfl (by decide)) ?_
        refine XR.alt ?_ ?_
        · skip
          refine XR.buildL [.int .i64 7, .int .i64 18] [.int .i64 7, .int .i64 18] rfl rfl rfl Tryd.underlying23 el3 rfl (by simp) ⟨rfl, rfl, rfl, rfl, trivial⟩ rfl rfl (List.Sublist.refl _) (fun b64 => ?_)
          refine XR.alt ?_ ?_
          · skip
            refine XR.callo (vs := [_, _]) rfl rfl rfl rfl en111 ⟨rfl, rfl, trivial⟩ (mixed_any _ [7, 18] _ 2 _ (hw _) (by decide) rfl (by decide)) (List.Perm.refl _) ?_
            rintro v I' L' _ ⟨rfl, hI', rfl⟩
            replace hI' := hI'.symm
            subst hI'
            refine ⟨.inr (List.Sublist.cons _ (List.Sublist.refl _)), ?_⟩
            refine XR.rd rfl rfl rfl (Reads.uxor rfl rfl rfl (by repeat' first | assumption | with_reducible exact hw _ | with_reducible exact Go.Sh.mod_lt' _ | with_reducible apply Go.Sh.mix_lt | with_reducible apply Go.Sh.rotr_lt | with_reducible apply Go.Sh.xor_lt | with_reducible apply Go.Sh.and_lt | with_reducible apply Go.Sh.or_lt | with_reducible apply Go.Sh.div_lt' | with_reducible exact Nat.lt_of_lt_of_le (UInt8.toNat_lt _) (by decide) | with_reducible exact Nat.lt_of_lt_of_le (Go.Sh.bg_lt _ _) (by decide) | decide | omega) (by repeat' first | assumption | with_reducible exact hw _ | with_reducible exact Go.Sh.mod_lt' _ | with_reducible apply Go.Sh.mix_lt | with_reducible apply Go.Sh.rotr_lt | with_reducible apply Go.Sh.xor_lt | with_reducible apply Go.Sh.and_lt | with_reducible apply Go.Sh.or_lt | with_reducible apply Go.Sh.div_lt' | with_reducible exact Nat.lt_of_lt_of_le (UInt8.toNat_lt _) (by decide) | with_reducible exact Nat.lt_of_lt_of_le (Go.Sh.bg_lt _ _) (by decide) | decide | omega)) ?_
            refine XR.rd rfl rfl rfl (Reads.uadd rfl rfl rfl) ?_
            refine XR.rd rfl rfl rfl (Reads.uadd rfl rfl rfl) ?_
            refine XR.buildL [.int .i64 17, .int .i64 19] [.int .i64 17, .int .i64 19] rfl rfl rfl Tryd.underlying23 el3 rfl (by simp) ⟨rfl, rfl, rfl, rfl, trivial⟩ rfl rfl (List.Sublist.cons _ (List.Sublist.refl _)) (fun b76 => ?_)
            refine XR.callo (vs := [_, _]) rfl rfl rfl rfl en111 ⟨rfl, rfl, trivial⟩ (mixed_any _ [17, 19] _ 2 _ (hw _) (by decide) rfl (by decide)) (List.Perm.refl _) ?_
            rintro v I' L' _ ⟨rfl, hI', rfl⟩
            replace hI' := hI'.symm
            subst hI'
            refine ⟨.inr (List.Sublist.cons _ (List.Sublist.cons _ (List.Sublist.refl _))), ?_⟩
            refine XR.rd rfl rfl rfl (Reads.uxor rfl rfl rfl (by repeat' first | assumption | with_reducible exact hw _ | with_reducible exact Go.Sh.mod_lt' _ | with_reducible apply Go.Sh.mix_lt | with_reducible apply Go.Sh.rotr_lt | with_reducible apply Go.Sh.xor_lt | with_reducible apply Go.Sh.and_lt | with_reducible apply Go.Sh.or_lt | with_reducible apply Go.Sh.div_lt' | with_reducible exact Nat.lt_of_lt_of_le (UInt8.toNat_lt _) (by decide) | with_reducible exact Nat.lt_of_lt_of_le (Go.Sh.bg_lt _ _) (by decide) | decide | omega) (by repeat' first | assumption | with_reducible exact hw _ | with_reducible exact Go.Sh.mod_lt' _ | with_reducible apply Go.Sh.mix_lt | with_reducible apply Go.Sh.rotr_lt | with_reducible apply Go.Sh.xor_lt | with_reducible apply Go.Sh.and_lt | with_reducible apply Go.Sh.or_lt | with_reducible apply Go.Sh.div_lt' | with_reducible exact Nat.lt_of_lt_of_le (UInt8.toNat_lt _) (by decide) | with_reducible exact Nat.lt_of_lt_of_le (Go.Sh.bg_lt _ _) (by decide) | decide | omega)) ?_
            refine XR.rd rfl rfl rfl (Reads.uadd rfl rfl rfl) ?_
            refine XR.rd rfl rfl rfl (Reads.index_arr_own (q := 16 + k) Tryd.underlying159 z120 rfl rfl (by omega) (by omega)) ?_
            refine XR.store 2 rfl rfl z120 rfl rfl rfl rfl (by simp [fillC, wC_len, schA_len]; omega) (.inl rfl) ?_
            refine XR.own_eq (congrArg (fun c => _ :: _ :: some (b2, Obj.cells c 159 (0, 0)) :: _) (sched_step (bg bs) (by omega))) ?_
            refine XR.nil ?_
            refine XQ.dropn 2 ?_
            refine XQ.joined () trivial ⟨rfl, rfl, trivial⟩ rfl (List.Perm.refl _)
          · skip
            refine XR.buildL [.int .i64 17, .int .i64 19] [.int .i64 17, .int .i64 19] rfl rfl rfl Tryd.underlying23 el3 rfl (by simp) ⟨rfl, rfl, rfl, rfl, trivial⟩ rfl rfl (List.Sublist.cons _ (List.Sublist.refl _)) (fun b76 => ?_)
            refine XR.callo (vs := [_, _]) rfl rfl rfl rfl en111 ⟨rfl, rfl, trivial⟩ (mixed_any _ [7, 18] _ 2 _ (hw _) (by decide) rfl (by decide)) (perm_take [1]) ?_
            rintro v I' L' _ ⟨rfl, hI', rfl⟩
            replace hI' := hI'.symm
            subst hI'
            refine ⟨.inr (List.Sublist.cons _ (List.Sublist.cons _ (List.Sublist.refl _))), ?_⟩
            refine XR.rd rfl rfl rfl (Reads.uxor rfl rfl rfl (by repeat' first | assumption | with_reducible exact hw _ | with_reducible exact Go.Sh.mod_lt' _ | with_reducible apply Go.Sh.mix_lt | with_reducible apply Go.Sh.rotr_lt | with_reducible apply Go.Sh.xor_lt | with_reducible apply Go.Sh.and_lt | with_reducible apply Go.Sh.or_lt | with_reducible apply Go.Sh.div_lt' | with_reducible exact Nat.lt_of_lt_of_le (UInt8.toNat_lt _) (by decide) | with_reducible exact Nat.lt_of_lt_of_le (Go.Sh.bg_lt _ _) (by decide) | decide | omega) (by repeat' first | assumption | with_reducible exact hw _ | with_reducible exact Go.Sh.mod_lt' _ | with_reducible apply Go.Sh.mix_lt | with_reducible apply Go.Sh.rotr_lt | with_reducible apply Go.Sh.xor_lt | with_reducible apply Go.Sh.and_lt | with_reducible apply Go.Sh.or_lt | with_reducible apply Go.Sh.div_lt' | with_reducible exact Nat.lt_of_lt_of_le (UInt8.toNat_lt _) (by decide) | with_reducible exact Nat.lt_of_lt_of_le (Go.Sh.bg_lt _ _) (by decide) | decide | omega)) ?_
            refine XR.rd rfl rfl rfl (Reads.uadd rfl rfl rfl) ?_
            refine XR.rd rfl rfl rfl (Reads.uadd rfl rfl rfl) ?_
            refine XR.callo (vs := [_, _]) rfl rfl rfl rfl en111 ⟨rfl, rfl, trivial⟩ (mixed_any _ [17, 19] _ 2 _ (hw _) (by decide) rfl (by decide)) (perm_take [1]) ?_
            rintro v I' L' _ ⟨rfl, hI', rfl⟩
            replace hI' := hI'.symm
            subst hI'
            refine ⟨.inr (List.Sublist.cons _ (List.Sublist.cons _ (List.Sublist.refl _))), ?_⟩
            refine XR.rd rfl rfl rfl (Reads.uxor rfl rfl rfl (by repeat' first | assumption | with_reducible exact hw _ | with_reducible exact Go.Sh.mod_lt' _ | with_reducible apply Go.Sh.mix_lt | with_reducible apply Go.Sh.rotr_lt | with_reducible apply Go.Sh.xor_lt | with_reducible apply Go.Sh.and_lt | with_reducible apply Go.Sh.or_lt | with_reducible apply Go.Sh.div_lt' | with_reducible exact Nat.lt_of_lt_of_le (UInt8.toNat_lt _) (by decide) | with_reducible exact Nat.lt_of_lt_of_le (Go.Sh.bg_lt _ _) (by decide) | decide | omega) (by repeat' first | assumption | with_reducible exact hw _ | with_reducible exact Go.Sh.mod_lt' _ | with_reducible apply Go.Sh.mix_lt | with_reducible apply Go.Sh.rotr_lt | with_reducible apply Go.Sh.xor_lt | with_reducible apply Go.Sh.and_lt | with_reducible apply Go.Sh.or_lt | with_reducible apply Go.Sh.div_lt' | with_reducible exact Nat.lt_of_lt_of_le (UInt8.toNat_lt _) (by decide) | with_reducible exact Nat.lt_of_lt_of_le (Go.Sh.bg_lt _ _) (by decide) | decide | omega)) ?_
            refine XR.rd rfl rfl rfl (Reads.uadd rfl rfl rfl) ?_
            refine XR.rd rfl rfl rfl (Reads.index_arr_own (q := 16 + k) Tryd.underlying159 z120 rfl rfl (by omega) (by omega)) ?_
            refine XR.store 2 rfl rfl z120 rfl rfl rfl rfl (by simp [fillC, wC_len, schA_len]; omega) (.inl rfl) ?_
            refine XR.own_eq (congrArg (fun c => _ :: _ :: some (b2, Obj.cells c 159 (0, 0)) :: _) (sched_step (bg bs) (by omega))) ?_
            refine XR.nil ?_
            refine XQ.dropn 2 ?_
            refine XQ.joined () trivial ⟨rfl, rfl, trivial⟩ rfl (List.Perm.refl _)
        · skip
          refine XR.buildL [.int .i64 17, .int .i64 19] [.int .i64 17, .int .i64 19] rfl rfl rfl Tryd.underlying23 el3 rfl (by simp) ⟨rfl, rfl, rfl, rfl, trivial⟩ rfl rfl (List.Sublist.refl _) (fun b76 => ?_)
          refine XR.buildL [.int .i64 7, .int .i64 18] [.int .i64 7, .int .i64 18] rfl rfl rfl Tryd.underlying23 el3 rfl (by simp) ⟨rfl, rfl, rfl, rfl, trivial⟩ rfl rfl (List.Sublist.cons _ (List.Sublist.refl _)) (fun b64 => ?_)
          refine XR.callo (vs := [_, _]) rfl rfl rfl rfl en111 ⟨rfl, rfl, trivial⟩ (mixed_any _ [7, 18] _ 2 _ (hw _) (by decide) rfl (by decide)) (List.Perm.refl _) ?_
          rintro v I' L' _ ⟨rfl, hI', rfl⟩
          replace hI' := hI'.symm
          subst hI'
          refine ⟨.inr (List.Sublist.cons _ (List.Sublist.cons _ (List.Sublist.refl _))), ?_⟩
          refine XR.rd rfl rfl rfl (Reads.uxor rfl rfl rfl (by repeat' first | assumption | with_reducible exact hw _ | with_reducible exact Go.Sh.mod_lt' _ | with_reducible apply Go.Sh.mix_lt | with_reducible apply Go.Sh.rotr_lt | with_reducible apply Go.Sh.xor_lt | with_reducible apply Go.Sh.and_lt | with_reducible apply Go.Sh.or_lt | with_reducible apply Go.Sh.div_lt' | with_reducible exact Nat.lt_of_lt_of_le (UInt8.toNat_lt _) (by decide) | with_reducible exact Nat.lt_of_lt_of_le (Go.Sh.bg_lt _ _) (by decide) | decide | omega) (by repeat' first | assumption | with_reducible exact hw _ | with_reducible exact Go.Sh.mod_lt' _ | with_reducible apply Go.Sh.mix_lt | with_reducible apply Go.Sh.rotr_lt | with_reducible apply Go.Sh.xor_lt | with_reducible apply Go.Sh.and_lt | with_reducible apply Go.Sh.or_lt | with_reducible apply Go.Sh.div_lt' | with_reducible exact Nat.lt_of_lt_of_le (UInt8.toNat_lt _) (by decide) | with_reducible exact Nat.lt_of_lt_of_le (Go.Sh.bg_lt _ _) (by decide) | decide | omega)) ?_
          refine XR.rd rfl rfl rfl (Reads.uadd rfl rfl rfl) ?_
          refine XR.rd rfl rfl rfl (Reads.uadd rfl rfl rfl) ?_
          refine XR.callo (vs := [_, _]) rfl rfl rfl rfl en111 ⟨rfl, rfl, trivial⟩ (mixed_any _ [17, 19] _ 2 _ (hw _) (by decide) rfl (by decide)) (perm_take [1]) ?_
          rintro v I' L' _ ⟨rfl, hI', rfl⟩
          replace hI' := hI'.symm
          subst hI'
          refine ⟨.inr (List.Sublist.cons _ (List.Sublist.cons _ (List.Sublist.refl _))), ?_⟩
          refine XR.rd rfl rfl rfl (Reads.uxor rfl rfl rfl (by repeat' first | assumption | with_reducible exact hw _ | with_reducible exact Go.Sh.mod_lt' _ | with_reducible apply Go.Sh.mix_lt | with_reducible apply Go.Sh.rotr_lt | with_reducible apply Go.Sh.xor_lt | with_reducible apply Go.Sh.and_lt | with_reducible apply Go.Sh.or_lt | with_reducible apply Go.Sh.div_lt' | with_reducible exact Nat.lt_of_lt_of_le (UInt8.toNat_lt _) (by decide) | with_reducible exact Nat.lt_of_lt_of_le (Go.Sh.bg_lt _ _) (by decide) | decide | omega) (by repeat' first | assumption | with_reducible exact hw _ | with_reducible exact Go.Sh.mod_lt' _ | with_reducible apply Go.Sh.mix_lt | with_reducible apply Go.Sh.rotr_lt | with_reducible apply Go.Sh.xor_lt | with_reducible apply Go.Sh.and_lt | with_reducible apply Go.Sh.or_lt | with_reducible apply Go.Sh.div_lt' | with_reducible exact Nat.lt_of_lt_of_le (UInt8.toNat_lt _) (by decide) | with_reducible exact Nat.lt_of_lt_of_le (Go.Sh.bg_lt _ _) (by decide) | decide | omega)) ?_
          refine XR.rd rfl rfl rfl (Reads.uadd rfl rfl rfl) ?_
          refine XR.rd rfl rfl rfl (Reads.index_arr_own (q := 16 + k) Tryd.underlying159 z120 rfl rfl (by omega) (by omega)) ?_
          refine XR.store 2 rfl rfl z120 rfl rfl rfl rfl (by simp [fillC, wC_len, schA_len]; omega) (.inl rfl) ?_
          refine XR.own_eq (congrArg (fun c => _ :: _ :: some (b2, Obj.cells c 159 (0, 0)) :: _) (sched_step (bg bs) (by omega))) ?_
          refine XR.nil ?_
          refine XQ.dropn 2 ?_
          refine XQ.joined () trivial ⟨rfl, rfl, trivial⟩ rfl (List.Perm.refl _)
      · skip
        refine XQ.block_normal ?_
        refine XQ.then_normal ?_
        refine XC.region ?_
        refine XO.rd rfl rfl rfl (Reads.move rfl) ?_
        refine XO.rd rfl rfl rfl (Reads.add rfl rfl (by omega)) ?_
        refine XO.rd rfl rfl rfl (Reads.assign rfl) ?_
        refine XO.nil ?_
        rw [show ((16 + k : Nat) : Int) + 1 = ((16 + (k + 1) : Nat) : Int) by omega]
        refine XQ.back (k + 1) (by omega) (by omega) ⟨rfl, rfl, trivial⟩ rfl (List.Perm.refl _)
    · skip
      simp only [cmpInt, decide_eq_false_iff_not] at h2
      have hk48 : k = 48 := by omega
      subst hk48
      refine XC.own_eq (congrArg (fun c => some (b2, Obj.cells c 159 (0, 0)) :: _) (congrArg List.toArray (fillC_full (l := sch (bg bs)) (sch_len _)))) ?_
      refine XC.exit ?_
      refine XQ.then_exit ?_
      refine XQ.then_exit ?_
      refine XQ.block_exit ?_
      refine XQ.then_normal ?_
      refine XC.seq ?_
      refine XC.region ?_
      refine XO.rd rfl rfl rfl (Reads.load_whole (c := (wC (sch (bg bs))).toArray) k159 z159 rfl (WholeAt.of 0 rfl) (by simp [wC_len, sch_len])) ?_
      refine XO.store_agg (vs := wC (sch (bg bs))) 0 rfl (by rw [wC_len]; rw [sch_len]; exact z159) rfl rfl (wC_one _) rfl (by simp [wC_len]) ?_
      refine XO.own_eq (L' := some (b2, .cells (wC (sch (bg bs))).toArray 159 (0, 0)) :: ([] ++ Lf)) (by simp [wC_len, sch_len]) ?_
      refine XO.nil ?_
      refine XQ.then_normal ?_
      refine XC.ret ?_
      refine XQ.done1ca [] 1 rfl k159 z159 rfl (WholeAt.of 0 rfl) (by simp [wC_len, sch_len]) rfl (Im.le_refl _) ?_
      exact ⟨rfl, rfl, rfl⟩

end Go.Proofs.YtmlliafhpbfdbaaDoor
namespace Go.Proofs.YtmlliafhpbfdbaaDoor
open Go.Xe Go.Sh Go

theorem wadd_any (bh : Nat) (h : List Nat) (p : Option Addr) (cap : Nat) (bs : List UInt8) (I : Im) (hA : Arr I p bs) (hb : bs.length = 64) (hh : h.length = 8) (hw : Ws h) (hG : ∃ e fr, I 0 = some (.cells (wC KR).toArray e fr)) : FSo Tryd.prog 106 [.pointer (some ⟨bh, 0, none⟩), .slice p 64 cap] I [some (bh, .cells (wC h).toArray 151 (0, 0))] (fun _u I' L' => I' = I ∧ L' = [some (bh, .cells (wC (comp h (bg bs))).toArray 151 (0, 0))]) := by
  have hkr := KR_ws
  have hsw : Ws (sch (bg bs)) := schA_ws (fun i => bg_lt _ _) 48
  have hv64 := rnds_len (b := bg bs) hh 64
  have hvw64 := rnds_ws (b := bg bs) hw 64
  refine FSo.intro (n := 97) Tryd.func106 rfl rfl rfl (fun K Lf => ?_)
  refine XC.seq ?_
  refine XC.region ?_
  refine XO.rd rfl rfl rfl (Reads.move rfl) ?_
  refine XO.callp rfl rfl en110 (sched_any p cap bs _ hA hb) ⟨rfl, trivial⟩ ?_
  refine XO.alloc (cs := #[.int .u32 0, .int .u32 0, .int .u32 0, .int .u32 0, .int .u32 0, .int .u32 0, .int .u32 0, .int .u32 0, .int .u32 0, .int .u32 0, .int .u32 0, .int .u32 0, .int .u32 0, .int .u32 0, .int .u32 0, .int .u32 0, .int .u32 0, .int .u32 0, .int .u32 0, .int .u32 0, .int .u32 0, .int .u32 0, .int .u32 0, .int .u32 0, .int .u32 0, .int .u32 0, .int .u32 0, .int .u32 0, .int .u32 0, .int .u32 0, .int .u32 0, .int .u32 0, .int .u32 0, .int .u32 0, .int .u32 0, .int .u32 0, .int .u32 0, .int .u32 0, .int .u32 0, .int .u32 0, .int .u32 0, .int .u32 0, .int .u32 0, .int .u32 0, .int .u32 0, .int .u32 0, .int .u32 0, .int .u32 0, .int .u32 0, .int .u32 0, .int .u32 0, .int .u32 0, .int .u32 0, .int .u32 0, .int .u32 0, .int .u32 0, .int .u32 0, .int .u32 0, .int .u32 0, .int .u32 0, .int .u32 0, .int .u32 0, .int .u32 0, .int .u32 0]) rfl rfl zo159 rfl (fun b4 => ?_)
  refine XO.store_agg (vs := wC (sch (bg bs))) 0 rfl (by rw [wC_len]; rw [sch_len]; exact z159) rfl rfl (wC_one _) rfl (by simp [wC_len, sch_len]) ?_
  refine XO.own_eq (congrArg (fun c => some (b4, Obj.cells c 159 (0, 0)) :: _) (own_fill _ _ (by simp [wC_len, sch_len]))) ?_
  refine XO.nil ?_
  refine XQ.then_normal ?_
  refine XC.seq ?_
  refine XC.region ?_
  refine XO.rd rfl rfl rfl (Reads.move rfl) ?_
  refine XO.rd rfl rfl rfl (Reads.nilCheck rfl) ?_
  refine XO.rd rfl rfl rfl (Reads.load_whole (c := (wC h).toArray) k151 z151 rfl (WholeAt.of 1 rfl) (by simp [wC_len, hh])) ?_
  refine XO.alloc (cs := #[.int .u32 0, .int .u32 0, .int .u32 0, .int .u32 0, .int .u32 0, .int .u32 0, .int .u32 0, .int .u32 0]) rfl rfl zo151 rfl (fun b5 => ?_)
  refine XO.store_agg (vs := wC h) 0 rfl (by rw [wC_len]; rw [hh]; exact z151) rfl rfl (wC_one _) rfl (by simp [wC_len, hh]) ?_
  refine XO.own_eq (congrArg (fun c => some (b5, Obj.cells c 151 (0, 0)) :: _) (own_fill _ _ (by simp [wC_len, hh]))) ?_
  refine XO.nil ?_
  refine XQ.then_normal ?_
  refine XC.seq ?_
  refine XC.seq ?_
  refine XC.region ?_
  refine XO.rd rfl rfl rfl (Reads.load_glob (vs := wC KR) k159 z159 rfl hG) ?_
  refine XO.rd rfl rfl rfl (Reads.move rfl) ?_
  refine XO.nil ?_
  refine XQ.then_normal ?_
  refine XC.block ?_
  refine XC.loop (ι := Nat) (fun q => [(0, .pointer (some ⟨bh, 0, none⟩)), (4, .pointer (some ⟨b4, 0, none⟩)), (5, .pointer (some ⟨b5, 0, none⟩)), (18, .agg (wC KR).toArray), (19, .int .i64 q)]) (fun q => I) (fun q => some (b5, .cells (wC (rnds (bg bs) h q)).toArray 151 (0, 0)) :: some (b4, .cells (wC (sch (bg bs))).toArray 159 (0, 0)) :: some (bh, .cells (wC h).toArray 151 (0, 0)) :: ([] ++ Lf)) (fun q => q ≤ 64) (fun q => 64 - q) 0 (Nat.zero_le _) ⟨rfl, rfl, rfl, rfl, rfl, trivial⟩ rfl (List.Perm.refl _) (fun k hk => ?_)
  have hv8 := rnds_len (b := bg bs) hh k
  have hvw := rnds_ws (b := bg bs) hw k
  generalize hvv : rnds (bg bs) h k = v at hv8 hvw ⊢
  refine XC.seq ?_
  refine XC.region ?_
  refine XO.rd rfl rfl rfl (Reads.cmp rfl rfl rfl) ?_
  refine XO.nil ?_
  refine XQ.then_normal ?_
  refine XC.seq ?_
  refine XC.cond rfl (fun h1 => ?_) (fun h1 => ?_)
  · skip
    simp only [cmpInt, decide_eq_true_eq] at h1
    refine XC.skip ?_
    refine XQ.then_normal ?_
    refine XC.seq ?_
    refine XC.block ?_
    refine XC.seq ?_
    refine XC.region ?_
    refine XO.rd rfl rfl rfl (Reads.move rfl) ?_
    refine XO.rd rfl rfl rfl (Reads.index_agg (v := .int .u32 ((g KR k : Nat) : Int)) Tryd.underlying159 k120 z120 rfl rfl (by omega) (wC_g (by rw [KR_len]; omega))) ?_
    refine XO.rd rfl rfl rfl (Reads.assign rfl) ?_
    refine XO.rd rfl rfl rfl (Reads.assign rfl) ?_
    refine XO.nil ?_
    refine XQ.then_normal ?_
    refine XC.seq ?_
    refine XC.draw m_mixed none (.pure 0 (.pure 1 (.pure 2 (.pure 3 (.pure 4 (.pure 5 (.done))))))) _ (by kernel_rfl) (List.Sublist.refl _) ?_
    refine XR.rd rfl rfl rfl (Reads.index_arr_own (q := 0) Tryd.underlying151 z120 rfl rfl (by decide) (by decide)) ?_
    refine XR.rd rfl rfl rfl (Reads.load_own (v := .int .u32 ((g v 0 : Nat) : Int)) k120 rfl (by first | exact OwnAt.of 0 rfl (wC_g (by omega)) | exact OwnAt.of 1 rfl (wC_g (by omega)) | exact OwnAt.of 2 rfl (wC_g (by omega)))) ?_
    refine XR.rd rfl rfl rfl (Reads.index_arr_own (q := 4) Tryd.underlying151 z120 rfl rfl (by decide) (by decide)) ?_
    refine XR.rd rfl rfl rfl (Reads.load_own (v := .int .u32 ((g v 4 : Nat) : Int)) k120 rfl (by first | exact OwnAt.of 0 rfl (wC_g (by omega)) | exact OwnAt.of 1 rfl (wC_g (by omega)) | exact OwnAt.of 2 rfl (wC_g (by omega)))) ?_
    refine XR.rd rfl rfl rfl (Reads.assign rfl) ?_
    refine XR.rd rfl rfl rfl (Reads.assign rfl) ?_
    refine XR.nil ?_
    refine XQ.then_normal ?_
    refine XC.seq ?_
    refine XC.draw m_mixed none (.pure 0 (.pure 1 (.pure 2 (.pure 6 (.pure 7 (.pure 8 (.pure 9 (.pure 10 (.pure 11 (.pure 12 (.pure 13 (.pure 14 (.pure 15 (.pure 17 (.pure 19 (.pure 20 (.pure 21 (.eff 3 (.eff 4 (.pure 5 (.pure 16 (.pure 18 (.pure 22 (.pure 23 (.done))))))))))))))))))))))))) _ (by kernel_rfl) (List.Sublist.refl _) ?_
    refine XR.rd rfl rfl rfl (Reads.index_arr_own (q := 7) Tryd.underlying151 z120 rfl rfl (by decide) (by decide)) ?_
    refine XR.rd rfl rfl rfl (Reads.load_own (v := .int .u32 ((g v 7 : Nat) : Int)) k120 rfl (by first | exact OwnAt.of 0 rfl (wC_g (by omega)) | exact OwnAt.of 1 rfl (wC_g (by omega)) | exact OwnAt.of 2 rfl (wC_g (by omega)))) ?_
    refine XR.rd rfl rfl rfl (Reads.move rfl) ?_
    refine XR.rd rfl rfl rfl (Reads.move rfl) ?_
    refine XR.rd rfl rfl rfl (Reads.index_arr_own (q := 5) Tryd.underlying151 z120 rfl rfl (by decide) (by decide)) ?_
    refine XR.rd rfl rfl rfl (Reads.load_own (v := .int .u32 ((g v 5 : Nat) : Int)) k120 rfl (by first | exact OwnAt.of 0 rfl (wC_g (by omega)) | exact OwnAt.of 1 rfl (wC_g (by omega)) | exact OwnAt.of 2 rfl (wC_g (by omega)))) ?_
    refine XR.rd rfl rfl rfl (Reads.uand rfl rfl rfl (by repeat' first | assumption | with_reducible exact hvw _ | with_reducible exact hkr _ | with_reducible exact hsw _ | with_reducible exact hw _ | with_reducible exact hvw64 _ | with_reducible exact Go.Sh.mod_lt' _ | with_reducible apply Go.Sh.mix_lt | with_reducible apply Go.Sh.rotr_lt | with_reducible apply Go.Sh.xor_lt | with_reducible apply Go.Sh.and_lt | with_reducible apply Go.Sh.or_lt | with_reducible apply Go.Sh.div_lt' | with_reducible exact Nat.lt_of_lt_of_le (UInt8.toNat_lt _) (by decide) | with_reducible exact Nat.lt_of_lt_of_le (Go.Sh.bg_lt _ _) (by decide) | decide | omega) (by repeat' first | assumption | with_reducible exact hvw _ | with_reducible exact hkr _ | with_reducible exact hsw _ | with_reducible exact hw _ | with_reducible exact hvw64 _ | with_reducible exact Go.Sh.mod_lt' _ | with_reducible apply Go.Sh.mix_lt | with_reducible apply Go.Sh.rotr_lt | with_reducible apply Go.Sh.xor_lt | with_reducible apply Go.Sh.and_lt | with_reducible apply Go.Sh.or_lt | with_reducible apply Go.Sh.div_lt' | with_reducible exact Nat.lt_of_lt_of_le (UInt8.toNat_lt _) (by decide) | with_reducible exact Nat.lt_of_lt_of_le (Go.Sh.bg_lt _ _) (by decide) | decide | omega)) ?_
    refine XR.rd rfl rfl rfl (Reads.move rfl) ?_
    refine XR.rd rfl rfl rfl (Reads.unot rfl rfl (by repeat' first | assumption | with_reducible exact hvw _ | with_reducible exact hkr _ | with_reducible exact hsw _ | with_reducible exact hw _ | with_reducible exact hvw64 _ | with_reducible exact Go.Sh.mod_lt' _ | with_reducible apply Go.Sh.mix_lt | with_reducible apply Go.Sh.rotr_lt | with_reducible apply Go.Sh.xor_lt | with_reducible apply Go.Sh.and_lt | with_reducible apply Go.Sh.or_lt | with_reducible apply Go.Sh.div_lt' | with_reducible exact Nat.lt_of_lt_of_le (UInt8.toNat_lt _) (by decide) | with_reducible exact Nat.lt_of_lt_of_le (Go.Sh.bg_lt _ _) (by decide) | decide | omega)) ?_
    refine XR.rd rfl rfl rfl (Reads.index_arr_own (q := 6) Tryd.underlying151 z120 rfl rfl (by decide) (by decide)) ?_
    refine XR.rd rfl rfl rfl (Reads.load_own (v := .int .u32 ((g v 6 : Nat) : Int)) k120 rfl (by first | exact OwnAt.of 0 rfl (wC_g (by omega)) | exact OwnAt.of 1 rfl (wC_g (by omega)) | exact OwnAt.of 2 rfl (wC_g (by omega)))) ?_
    refine XR.rd rfl rfl rfl (Reads.uand rfl rfl rfl (by repeat' first | assumption | with_reducible exact hvw _ | with_reducible exact hkr _ | with_reducible exact hsw _ | with_reducible exact hw _ | with_reducible exact hvw64 _ | with_reducible exact Go.Sh.mod_lt' _ | with_reducible apply Go.Sh.mix_lt | with_reducible apply Go.Sh.rotr_lt | with_reducible apply Go.Sh.xor_lt | with_reducible apply Go.Sh.and_lt | with_reducible apply Go.Sh.or_lt | with_reducible apply Go.Sh.div_lt' | with_reducible exact Nat.lt_of_lt_of_le (UInt8.toNat_lt _) (by decide) | with_reducible exact Nat.lt_of_lt_of_le (Go.Sh.bg_lt _ _) (by decide) | decide | omega) (by repeat' first | assumption | with_reducible exact hvw _ | with_reducible exact hkr _ | with_reducible exact hsw _ | with_reducible exact hw _ | with_reducible exact hvw64 _ | with_reducible exact Go.Sh.mod_lt' _ | with_reducible apply Go.Sh.mix_lt | with_reducible apply Go.Sh.rotr_lt | with_reducible apply Go.Sh.xor_lt | with_reducible apply Go.Sh.and_lt | with_reducible apply Go.Sh.or_lt | with_reducible apply Go.Sh.div_lt' | with_reducible exact Nat.lt_of_lt_of_le (UInt8.toNat_lt _) (by decide) | with_reducible exact Nat.lt_of_lt_of_le (Go.Sh.bg_lt _ _) (by decide) | decide | omega)) ?_
    refine XR.rd rfl rfl rfl (Reads.uxor rfl rfl rfl (by repeat' first | assumption | with_reducible exact hvw _ | with_reducible exact hkr _ | with_reducible exact hsw _ | with_reducible exact hw _ | with_reducible exact hvw64 _ | with_reducible exact Go.Sh.mod_lt' _ | with_reducible apply Go.Sh.mix_lt | with_reducible apply Go.Sh.rotr_lt | with_reducible apply Go.Sh.xor_lt | with_reducible apply Go.Sh.and_lt | with_reducible apply Go.Sh.or_lt | with_reducible apply Go.Sh.div_lt' | with_reducible exact Nat.lt_of_lt_of_le (UInt8.toNat_lt _) (by decide) | with_reducible exact Nat.lt_of_lt_of_le (Go.Sh.bg_lt _ _) (by decide) | decide | omega) (by repeat' first | assumption | with_reducible exact hvw _ | with_reducible exact hkr _ | with_reducible exact hsw _ | with_reducible exact hw _ | with_reducible exact hvw64 _ | with_reducible exact Go.Sh.mod_lt' _ | with_reducible apply Go.Sh.mix_lt | with_reducible apply Go.Sh.rotr_lt | with_reducible apply Go.Sh.xor_lt | with_reducible apply Go.Sh.and_lt | with_reducible apply Go.Sh.or_lt | with_reducible apply Go.Sh.div_lt' | with_reducible exact Nat.lt_of_lt_of_le (UInt8.toNat_lt _) (by decide) | with_reducible exact Nat.lt_of_lt_of_le (Go.Sh.bg_lt _ _) (by decide) | decide | omega)) ?_
    refine XR.rd rfl rfl rfl (Reads.move rfl) ?_
    refine XR.rd rfl rfl rfl (Reads.move rfl) ?_
    refine XR.rd rfl rfl rfl (Reads.index_arr_own (q := k) Tryd.underlying159 z120 rfl rfl (by omega) (by omega)) ?_
    refine XR.rd rfl rfl rfl (Reads.load_own (v := .int .u32 ((g (sch (bg bs)) k : Nat) : Int)) k120 rfl (by first | exact OwnAt.of 1 rfl (wC_g (by rw [sch_len]; omega)) | exact OwnAt.of 2 rfl (wC_g (by rw [sch_len]; omega)))) ?_
    refine XR.buildL [.int .i64 6, .int .i64 11, .int .i64 25] [.int .i64 6, .int .i64 11, .int .i64 25] rfl rfl rfl Tryd.underlying23 el3 rfl (by simp) ⟨rfl, rfl, rfl, rfl, rfl, rfl, trivial⟩ rfl rfl (List.Sublist.refl _) (fun b30 => ?_)
    refine XR.callo (vs := [_, _]) rfl rfl rfl rfl en111 ⟨rfl, rfl, trivial⟩ (mixed_any _ [6, 11, 25] _ 3 _ (hvw _) (by decide) rfl (by decide)) (List.Perm.refl _) ?_
    rintro v I' L' _ ⟨rfl, hI', rfl⟩
    replace hI' := hI'.symm
    subst hI'
    refine ⟨.inr (List.Sublist.cons _ (List.Sublist.refl _)), ?_⟩
    refine XR.rd rfl rfl rfl (Reads.uadd rfl rfl rfl) ?_
    refine XR.rd rfl rfl rfl (Reads.uadd rfl rfl rfl) ?_
    refine XR.rd rfl rfl rfl (Reads.uadd rfl rfl rfl) ?_
    refine XR.rd rfl rfl rfl (Reads.uadd rfl rfl rfl) ?_
    show XR _ _ _ _ _ _ _ _ _ ((49, .int .u32 ((t1 v (g KR k) (g (sch (bg bs)) k) : Nat) : Int)) :: _) _ _ _
    refine XR.rd rfl rfl rfl (Reads.assign rfl) ?_
    refine XR.nil ?_
    refine XQ.then_normal ?_
    refine XC.seq ?_
    refine XC.weaken (E' := [(0, _), (4, _), (5, _), (8, _), (10, _), (18, _), (19, _)]) ⟨rfl, rfl, rfl, rfl, rfl, rfl, rfl, trivial⟩ ?_
    refine XC.draw m_mixed none (.pure 0 (.pure 3 (.pure 4 (.pure 5 (.pure 6 (.pure 7 (.pure 8 (.pure 9 (.pure 10 (.pure 11 (.pure 12 (.pure 13 (.pure 14 (.pure 15 (.pure 16 (.pure 17 (.eff 1 (.eff 2 (.pure 18 (.pure 19 (.done))))))))))))))))))))) _ (by kernel_rfl) (List.Sublist.refl _) ?_
    refine XR.rd rfl rfl rfl (Reads.move rfl) ?_
    refine XR.rd rfl rfl rfl (Reads.move rfl) ?_
    refine XR.rd rfl rfl rfl (Reads.index_arr_own (q := 1) Tryd.underlying151 z120 rfl rfl (by decide) (by decide)) ?_
    refine XR.rd rfl rfl rfl (Reads.load_own (v := .int .u32 ((g v 1 : Nat) : Int)) k120 rfl (by first | exact OwnAt.of 0 rfl (wC_g (by omega)) | exact OwnAt.of 1 rfl (wC_g (by omega)) | exact OwnAt.of 2 rfl (wC_g (by omega)))) ?_
    refine XR.rd rfl rfl rfl (Reads.uand rfl rfl rfl (by repeat' first | assumption | with_reducible exact hvw _ | with_reducible exact hkr _ | with_reducible exact hsw _ | with_reducible exact hw _ | with_reducible exact hvw64 _ | with_reducible exact Go.Sh.mod_lt' _ | with_reducible apply Go.Sh.mix_lt | with_reducible apply Go.Sh.rotr_lt | with_reducible apply Go.Sh.xor_lt | with_reducible apply Go.Sh.and_lt | with_reducible apply Go.Sh.or_lt | with_reducible apply Go.Sh.div_lt' | with_reducible exact Nat.lt_of_lt_of_le (UInt8.toNat_lt _) (by decide) | with_reducible exact Nat.lt_of_lt_of_le (Go.Sh.bg_lt _ _) (by decide) | decide | omega) (by repeat' first | assumption | with_reducible exact hvw _ | with_reducible exact hkr _ | with_reducible exact hsw _ | with_reducible exact hw _ | with_reducible exact hvw64 _ | with_reducible exact Go.Sh.mod_lt' _ | with_reducible apply Go.Sh.mix_lt | with_reducible apply Go.Sh.rotr_lt | with_reducible apply Go.Sh.xor_lt | with_reducible apply Go.Sh.and_lt | with_reducible apply Go.Sh.or_lt | with_reducible apply Go.Sh.div_lt' | with_reducible exact Nat.lt_of_lt_of_le (UInt8.toNat_lt _) (by decide) | with_reducible exact Nat.lt_of_lt_of_le (Go.Sh.bg_lt _ _) (by decide) | decide | omega)) ?_
    refine XR.rd rfl rfl rfl (Reads.move rfl) ?_
    refine XR.rd rfl rfl rfl (Reads.index_arr_own (q := 2) Tryd.underlying151 z120 rfl rfl (by decide) (by decide)) ?_
    refine XR.rd rfl rfl rfl (Reads.load_own (v := .int .u32 ((g v 2 : Nat) : Int)) k120 rfl (by first | exact OwnAt.of 0 rfl (wC_g (by omega)) | exact OwnAt.of 1 rfl (wC_g (by omega)) | exact OwnAt.of 2 rfl (wC_g (by omega)))) ?_
    refine XR.rd rfl rfl rfl (Reads.uand rfl rfl rfl (by repeat' first | assumption | with_reducible exact hvw _ | with_reducible exact hkr _ | with_reducible exact hsw _ | with_reducible exact hw _ | with_reducible exact hvw64 _ | with_reducible exact Go.Sh.mod_lt' _ | with_reducible apply Go.Sh.mix_lt | with_reducible apply Go.Sh.rotr_lt | with_reducible apply Go.Sh.xor_lt | with_reducible apply Go.Sh.and_lt | with_reducible apply Go.Sh.or_lt | with_reducible apply Go.Sh.div_lt' | with_reducible exact Nat.lt_of_lt_of_le (UInt8.toNat_lt _) (by decide) | with_reducible exact Nat.lt_of_lt_of_le (Go.Sh.bg_lt _ _) (by decide) | decide | omega) (by repeat' first | assumption | with_reducible exact hvw _ | with_reducible exact hkr _ | with_reducible exact hsw _ | with_reducible exact hw _ | with_reducible exact hvw64 _ | with_reducible exact Go.Sh.mod_lt' _ | with_reducible apply Go.Sh.mix_lt | with_reducible apply Go.Sh.rotr_lt | with_reducible apply Go.Sh.xor_lt | with_reducible apply Go.Sh.and_lt | with_reducible apply Go.Sh.or_lt | with_reducible apply Go.Sh.div_lt' | with_reducible exact Nat.lt_of_lt_of_le (UInt8.toNat_lt _) (by decide) | with_reducible exact Nat.lt_of_lt_of_le (Go.Sh.bg_lt _ _) (by decide) | decide | omega)) ?_
    refine XR.rd rfl rfl rfl (Reads.uxor rfl rfl rfl (by repeat' first | assumption | with_reducible exact hvw _ | with_reducible exact hkr _ | with_reducible exact hsw _ | with_reducible exact hw _ | with_reducible exact hvw64 _ | with_reducible exact Go.Sh.mod_lt' _ | with_reducible apply Go.Sh.mix_lt | with_reducible apply Go.Sh.rotr_lt | with_reducible apply Go.Sh.xor_lt | with_reducible apply Go.Sh.and_lt | with_reducible apply Go.Sh.or_lt | with_reducible apply Go.Sh.div_lt' | with_reducible exact Nat.lt_of_lt_of_le (UInt8.toNat_lt _) (by decide) | with_reducible exact Nat.lt_of_lt_of_le (Go.Sh.bg_lt _ _) (by decide) | decide | omega) (by repeat' first | assumption | with_reducible exact hvw _ | with_reducible exact hkr _ | with_reducible exact hsw _ | with_reducible exact hw _ | with_reducible exact hvw64 _ | with_reducible exact Go.Sh.mod_lt' _ | with_reducible apply Go.Sh.mix_lt | with_reducible apply Go.Sh.rotr_lt | with_reducible apply Go.Sh.xor_lt | with_reducible apply Go.Sh.and_lt | with_reducible apply Go.Sh.or_lt | with_reducible apply Go.Sh.div_lt' | with_reducible exact Nat.lt_of_lt_of_le (UInt8.toNat_lt _) (by decide) | with_reducible exact Nat.lt_of_lt_of_le (Go.Sh.bg_lt _ _) (by decide) | decide | omega)) ?_
    refine XR.rd rfl rfl rfl (Reads.index_arr_own (q := 1) Tryd.underlying151 z120 rfl rfl (by decide) (by decide)) ?_
    refine XR.rd rfl rfl rfl (Reads.load_own (v := .int .u32 ((g v 1 : Nat) : Int)) k120 rfl (by first | exact OwnAt.of 0 rfl (wC_g (by omega)) | exact OwnAt.of 1 rfl (wC_g (by omega)) | exact OwnAt.of 2 rfl (wC_g (by omega)))) ?_
    refine XR.rd rfl rfl rfl (Reads.index_arr_own (q := 2) Tryd.underlying151 z120 rfl rfl (by decide) (by decide)) ?_
    refine XR.rd rfl rfl rfl (Reads.load_own (v := .int .u32 ((g v 2 : Nat) : Int)) k120 rfl (by first | exact OwnAt.of 0 rfl (wC_g (by omega)) | exact OwnAt.of 1 rfl (wC_g (by omega)) | exact OwnAt.of 2 rfl (wC_g (by omega)))) ?_
    refine XR.rd rfl rfl rfl (Reads.uand rfl rfl rfl (by repeat' first | assumption | with_reducible exact hvw _ | with_reducible exact hkr _ | with_reducible exact hsw _ | with_reducible exact hw _ | with_reducible exact hvw64 _ | with_reducible exact Go.Sh.mod_lt' _ | with_reducible apply Go.Sh.mix_lt | with_reducible apply Go.Sh.rotr_lt | with_reducible apply Go.Sh.xor_lt | with_reducible apply Go.Sh.and_lt | with_reducible apply Go.Sh.or_lt | with_reducible apply Go.Sh.div_lt' | with_reducible exact Nat.lt_of_lt_of_le (UInt8.toNat_lt _) (by decide) | with_reducible exact Nat.lt_of_lt_of_le (Go.Sh.bg_lt _ _) (by decide) | decide | omega) (by repeat' first | assumption | with_reducible exact hvw _ | with_reducible exact hkr _ | with_reducible exact hsw _ | with_reducible exact hw _ | with_reducible exact hvw64 _ | with_reducible exact Go.Sh.mod_lt' _ | with_reducible apply Go.Sh.mix_lt | with_reducible apply Go.Sh.rotr_lt | with_reducible apply Go.Sh.xor_lt | with_reducible apply Go.Sh.and_lt | with_reducible apply Go.Sh.or_lt | with_reducible apply Go.Sh.div_lt' | with_reducible exact Nat.lt_of_lt_of_le (UInt8.toNat_lt _) (by decide) | with_reducible exact Nat.lt_of_lt_of_le (Go.Sh.bg_lt _ _) (by decide) | decide | omega)) ?_
    refine XR.rd rfl rfl rfl (Reads.uxor rfl rfl rfl (by repeat' first | assumption | with_reducible exact hvw _ | with_reducible exact hkr _ | with_reducible exact hsw _ | with_reducible exact hw _ | with_reducible exact hvw64 _ | with_reducible exact Go.Sh.mod_lt' _ | with_reducible apply Go.Sh.mix_lt | with_reducible apply Go.Sh.rotr_lt | with_reducible apply Go.Sh.xor_lt | with_reducible apply Go.Sh.and_lt | with_reducible apply Go.Sh.or_lt | with_reducible apply Go.Sh.div_lt' | with_reducible exact Nat.lt_of_lt_of_le (UInt8.toNat_lt _) (by decide) | with_reducible exact Nat.lt_of_lt_of_le (Go.Sh.bg_lt _ _) (by decide) | decide | omega) (by repeat' first | assumption | with_reducible exact hvw _ | with_reducible exact hkr _ | with_reducible exact hsw _ | with_reducible exact hw _ | with_reducible exact hvw64 _ | with_reducible exact Go.Sh.mod_lt' _ | with_reducible apply Go.Sh.mix_lt | with_reducible apply Go.Sh.rotr_lt | with_reducible apply Go.Sh.xor_lt | with_reducible apply Go.Sh.and_lt | with_reducible apply Go.Sh.or_lt | with_reducible apply Go.Sh.div_lt' | with_reducible exact Nat.lt_of_lt_of_le (UInt8.toNat_lt _) (by decide) | with_reducible exact Nat.lt_of_lt_of_le (Go.Sh.bg_lt _ _) (by decide) | decide | omega)) ?_
    refine XR.buildL [.int .i64 2, .int .i64 13, .int .i64 22] [.int .i64 2, .int .i64 13, .int .i64 22] rfl rfl rfl Tryd.underlying23 el3 rfl (by simp) ⟨rfl, rfl, rfl, rfl, rfl, rfl, trivial⟩ rfl rfl (List.Sublist.refl _) (fun b51 => ?_)
    refine XR.callo (vs := [_, _]) rfl rfl rfl rfl en111 ⟨rfl, rfl, trivial⟩ (mixed_any _ [2, 13, 22] _ 3 _ (hvw _) (by decide) rfl (by decide)) (List.Perm.refl _) ?_
    rintro v I' L' _ ⟨rfl, hI', rfl⟩
    replace hI' := hI'.symm
    subst hI'
    refine ⟨.inr (List.Sublist.cons _ (List.Sublist.refl _)), ?_⟩
    refine XR.rd rfl rfl rfl (Reads.uadd rfl rfl rfl) ?_
    show XR _ _ _ _ _ _ _ _ _ ((68, .int .u32 ((t2 v : Nat) : Int)) :: _) _ _ _
    refine XR.rd rfl rfl rfl (Reads.assign rfl) ?_
    refine XR.nil ?_
    refine XQ.then_normal ?_
    refine XC.seq ?_
    refine XC.draw m_mixed (some 2) (.pure 0 (.pure 1 (.eff 2 (.done)))) _ (by kernel_rfl) (List.Sublist.refl _) ?_
    refine XR.rd rfl rfl rfl (Reads.slice_arr 1 8 Tryd.underlying151 z120 rfl ⟨_, rfl⟩ rfl (by decide) (by decide) (by decide)) ?_
    refine XR.rd rfl rfl rfl (Reads.slice_arr 0 7 Tryd.underlying151 z120 rfl rfl ⟨_, rfl⟩ (by decide) (by decide) (by decide)) ?_
    refine XR.copy_at (news := wC (v.take 7)) 2 rfl rfl rfl Tryd.underlying121 el120 rfl rfl rfl (.slice Tryd.underlying121 (.inr (.inr ⟨b5, 0, rfl, fun j x hj => ⟨(wC v).toArray, 151, (0, 0), by simp, by
          rw [Nat.zero_add, List.getElem?_toArray]
          have h7 : wC (v.take 7) = (wC v).take 7 := by simp [wC]
          rw [h7, List.getElem?_take] at hj
          split at hj
          · exact hj
          · cases hj⟩⟩)) (by simp [wC_len, hv8]) (wC_one _)) rfl (by simp [wC_len, hv8]) (.inl rfl) ?_
    refine XR.own_eq (congrArg (fun c => _ :: _ :: some (b5, Obj.cells c 151 (0, 0)) :: _) (shift8 hv8)) ?_
    refine XR.nil ?_
    refine XQ.then_normal ?_
    refine XC.region ?_
    refine XO.rd rfl rfl rfl (Reads.move rfl) ?_
    refine XO.rd rfl rfl rfl (Reads.move rfl) ?_
    refine XO.rd rfl rfl rfl (Reads.uadd rfl rfl rfl) ?_
    refine XO.rd rfl rfl rfl (Reads.index_arr_own (q := 4) Tryd.underlying151 z120 rfl rfl (by decide) (by decide)) ?_
    refine XO.rd rfl rfl rfl (Reads.load_own (v := .int .u32 ((g v 3 : Nat) : Int)) k120 rfl (OwnAt.of 2 rfl rfl)) ?_
    refine XO.rd rfl rfl rfl (Reads.move rfl) ?_
    refine XO.rd rfl rfl rfl (Reads.uadd rfl rfl rfl) ?_
    refine XO.rd rfl rfl rfl (Reads.index_arr_own (q := 0) Tryd.underlying151 z120 rfl rfl (by decide) (by decide)) ?_
    refine XO.store 2 rfl z120 rfl rfl rfl rfl (by simp [wC]) ?_
    refine XO.rd rfl rfl rfl (Reads.index_arr_own (q := 4) Tryd.underlying151 z120 rfl rfl (by decide) (by decide)) ?_
    refine XO.store 2 rfl z120 rfl rfl rfl rfl (by simp [wC]) ?_
    refine XO.own_eq (congrArg (fun c => _ :: _ :: some (b5, Obj.cells c 151 (0, 0)) :: _) (rnd_store v (g KR k) (g (sch (bg bs)) k))) ?_
    refine XO.nil ?_
    refine XQ.block_normal ?_
    refine XQ.then_normal ?_
    refine XC.region ?_
    refine XO.rd rfl rfl rfl (Reads.add rfl rfl (by omega)) ?_
    refine XO.rd rfl rfl rfl (Reads.move rfl) ?_
    refine XO.nil ?_
    refine XQ.dropn 2 ?_
    rw [← hvv, ← rnds_succ]
    refine XQ.back (k + 1) (by omega) (by omega) ⟨rfl, rfl, rfl, rfl, rfl, trivial⟩ rfl (List.Perm.refl _)
  · skip
    simp only [cmpInt, decide_eq_false_iff_not] at h1
    have hk64 : k = 64 := by omega
    subst hk64
    subst hvv
    refine XC.exit ?_
    refine XQ.then_exit ?_
    refine XQ.then_exit ?_
    refine XQ.block_exit ?_
    refine XQ.then_normal ?_
    refine XC.seq ?_
    refine XC.region ?_
    refine XO.rd rfl rfl rfl (Reads.move rfl) ?_
    refine XO.nil ?_
    refine XQ.then_normal ?_
    refine XC.block ?_
    refine XC.own_eq (congrArg (fun c => _ :: _ :: some (bh, Obj.cells (wC c).toArray 151 (0, 0)) :: _) (compP_zero (v := rnds (bg bs) h 64) hh).symm) ?_
    refine XC.loop (ι := Nat) (fun q => [(0, .pointer (some ⟨bh, 0, none⟩)), (5, .pointer (some ⟨b5, 0, none⟩)), (82, .int .i64 q)]) (fun q => I) (fun q => some (b5, .cells (wC (rnds (bg bs) h 64)).toArray 151 (0, 0)) :: some (b4, .cells (wC (sch (bg bs))).toArray 159 (0, 0)) :: some (bh, .cells (wC (compP h (rnds (bg bs) h 64) q)).toArray 151 (0, 0)) :: ([] ++ Lf)) (fun q => q ≤ 8) (fun q => 8 - q) 0 (Nat.zero_le _) ⟨rfl, rfl, rfl, trivial⟩ rfl (List.Perm.refl _) (fun i hi => ?_)
    refine XC.seq ?_
    refine XC.region ?_
    refine XO.rd rfl rfl rfl (Reads.cmp rfl rfl rfl) ?_
    refine XO.nil ?_
    refine XQ.then_normal ?_
    refine XC.seq ?_
    refine XC.cond rfl (fun h2 => ?_) (fun h2 => ?_)
    · skip
      simp only [cmpInt, decide_eq_true_eq] at h2
      have hi8 : i < 8 := by omega
      refine XC.skip ?_
      refine XQ.then_normal ?_
      refine XC.seq ?_
      refine XC.block ?_
      refine XC.seq ?_
      refine XC.region ?_
      refine XO.rd rfl rfl rfl (Reads.move rfl) ?_
      refine XO.rd rfl rfl rfl (Reads.assign rfl) ?_
      refine XO.nil ?_
      refine XQ.then_normal ?_
      refine XC.draw m_mixed (some 11) (.pure 0 (.pure 1 (.pure 2 (.pure 3 (.pure 4 (.pure 5 (.pure 6 (.pure 7 (.pure 8 (.pure 9 (.pure 10 (.eff 11 (.done))))))))))))) _ (by kernel_rfl) (List.Sublist.refl _) ?_
      refine XR.rd rfl rfl rfl (Reads.move rfl) ?_
      refine XR.rd rfl rfl rfl (Reads.move rfl) ?_
      refine XR.rd rfl rfl rfl (Reads.nilCheck rfl) ?_
      refine XR.rd rfl rfl rfl (Reads.index_arr_own (q := i) Tryd.underlying151 z120 rfl rfl (by omega) (by omega)) ?_
      refine XR.rd rfl rfl rfl (Reads.load_own (v := .int .u32 ((g (compP h (rnds (bg bs) h 64) i) i : Nat) : Int)) k120 rfl (OwnAt.of 2 rfl (wC_g (by rw [compP_len]; omega)))) ?_
      rw [compP_g hi8]
      refine XR.rd rfl rfl rfl (Reads.move rfl) ?_
      refine XR.rd rfl rfl rfl (Reads.index_arr_own (q := i) Tryd.underlying151 z120 rfl rfl (by omega) (by omega)) ?_
      refine XR.rd rfl rfl rfl (Reads.load_own (v := .int .u32 ((g (rnds (bg bs) h 64) i : Nat) : Int)) k120 rfl (OwnAt.of 0 rfl (wC_g (by omega)))) ?_
      refine XR.rd rfl rfl rfl (Reads.uadd rfl rfl rfl) ?_
      refine XR.rd rfl rfl rfl (Reads.nilCheck rfl) ?_
      refine XR.rd rfl rfl rfl (Reads.index_arr_own (q := i) Tryd.underlying151 z120 rfl rfl (by omega) (by omega)) ?_
      refine XR.store 2 rfl rfl z120 rfl rfl rfl rfl (by simp [wC_len, compP_len]; omega) (.inl rfl) ?_
      refine XR.own_eq (congrArg (fun c => _ :: _ :: some (bh, Obj.cells c 151 (0, 0)) :: _) (compP_set hi8)) ?_
      refine XR.nil ?_
      refine XQ.block_normal ?_
      refine XQ.then_normal ?_
      refine XC.region ?_
      refine XO.rd rfl rfl rfl (Reads.add rfl rfl (by omega)) ?_
      refine XO.rd rfl rfl rfl (Reads.move rfl) ?_
      refine XO.nil ?_
      refine XQ.back (i + 1) (by omega) (by omega) ⟨rfl, rfl, rfl, trivial⟩ rfl (List.Perm.refl _)
    · skip
      simp only [cmpInt, decide_eq_false_iff_not] at h2
      have hi8 : i = 8 := by omega
      subst hi8
      refine XC.own_eq (congrArg (fun c => _ :: _ :: some (bh, Obj.cells (wC c).toArray 151 (0, 0)) :: _) (compP_all h (bg bs))) ?_
      refine XC.exit ?_
      refine XQ.then_exit ?_
      refine XQ.then_exit ?_
      refine XQ.block_exit ?_
      refine XQ.done_normal ?_
      refine XQ.dropn 2 ?_
      refine XQ.done0 (L := [some (bh, .cells (wC (comp h (bg bs))).toArray 151 (0, 0))]) rfl (Im.le_refl _) ?_
      exact ⟨rfl, rfl⟩

end Go.Proofs.YtmlliafhpbfdbaaDoor
namespace Go.Proofs.YtmlliafhpbfdbaaDoor
open Go.Xe Go.Sh Go

theorem perm_mid (X : List (Option (Nat × Obj))) {a c : Option (Nat × Obj)} (Y : Own) : (a :: c :: (X ++ Y)).Perm (X ++ (a :: c :: Y)) :=
  (List.perm_middle.trans (List.Perm.cons a List.perm_middle)).symm
theorem perm_mid2 (X : List (Option (Nat × Obj))) {a c : Option (Nat × Obj)} (Y : Own) : (X ++ (a :: c :: Y)).Perm (a :: c :: (X ++ Y)) := (perm_mid X Y).symm
theorem wdig_any (h : List Nat) (I : Im) (hh : h.length = 8) (_hw : Ws h) : FC Tryd.prog 107 [.agg (wC h).toArray] I (fun u I' => u = .string ⟨(outB h 8).toArray⟩ ∧ I' = I) := by
  refine FSo.intro (n := 30) Tryd.func107 rfl rfl rfl (fun K Lf => ?_)
  refine XC.seq ?_
  refine XC.region ?_
  refine XO.box_agg rfl rfl rfl (fun b1 => ?_)
  refine XO.rd rfl rfl rfl (Reads.assign rfl) ?_
  refine XO.nil ?_
  refine XQ.then_normal ?_
  refine XC.seq ?_
  refine XC.region ?_
  refine XO.alloc (cs := #[.int .u8 0, .int .u8 0, .int .u8 0, .int .u8 0, .int .u8 0, .int .u8 0, .int .u8 0, .int .u8 0, .int .u8 0, .int .u8 0, .int .u8 0, .int .u8 0, .int .u8 0, .int .u8 0, .int .u8 0, .int .u8 0, .int .u8 0, .int .u8 0, .int .u8 0, .int .u8 0, .int .u8 0, .int .u8 0, .int .u8 0, .int .u8 0, .int .u8 0, .int .u8 0, .int .u8 0, .int .u8 0, .int .u8 0, .int .u8 0, .int .u8 0, .int .u8 0]) rfl rfl zo162 rfl (fun b3 => ?_)
  refine XO.nil ?_
  refine XQ.then_normal ?_
  refine XC.seq ?_
  refine XC.seq ?_
  refine XC.region ?_
  refine XO.rd rfl rfl rfl (Reads.load_whole (c := (wC h).toArray) k151 z151 rfl (WholeAt.of 1 rfl) (by simp [wC_len, hh])) ?_
  refine XO.rd rfl rfl rfl (Reads.move rfl) ?_
  refine XO.nil ?_
  refine XQ.then_normal ?_
  refine XC.block ?_
  refine XC.loop (ι := Nat) (fun q => [(3, .pointer (some ⟨b3, 0, none⟩)), (7, .agg (wC h).toArray), (8, .int .i64 q)]) (fun q => I) (fun q => some (b3, .cells (fillD (outB h q ++ out1 (g h q) 0) 32).toArray 162 (0, 0)) :: some (b1, .cells (wC h).toArray 151 (0, 0)) :: ([] ++ Lf)) (fun q => q ≤ 8) (fun q => 8 - q) 0 (Nat.zero_le _) ⟨rfl, rfl, rfl, trivial⟩ rfl (List.Perm.refl _) (fun i hi => ?_)
  refine XC.seq ?_
  refine XC.region ?_
  refine XO.rd rfl rfl rfl (Reads.cmp rfl rfl rfl) ?_
  refine XO.nil ?_
  refine XQ.then_normal ?_
  refine XC.seq ?_
  refine XC.cond rfl (fun h1 => ?_) (fun h1 => ?_)
  · skip
    simp only [cmpInt, decide_eq_true_eq] at h1
    refine XC.skip ?_
    refine XQ.then_normal ?_
    refine XC.seq ?_
    refine XC.block ?_
    refine XC.seq ?_
    refine XC.region ?_
    refine XO.rd rfl rfl rfl (Reads.move rfl) ?_
    refine XO.rd rfl rfl rfl (Reads.index_agg (v := .int .u32 ((g h i : Nat) : Int)) Tryd.underlying151 k120 z120 rfl rfl (by omega) (wC_g (by omega))) ?_
    refine XO.rd rfl rfl rfl (Reads.assign rfl) ?_
    refine XO.rd rfl rfl rfl (Reads.assign rfl) ?_
    refine XO.nil ?_
    refine XQ.then_normal ?_
    refine XC.seq ?_
    refine XC.region ?_
    refine XO.rd rfl rfl rfl (Reads.move rfl) ?_
    refine XO.nil ?_
    refine XQ.then_normal ?_
    refine XC.block ?_
    refine XC.loop (ι := Nat) (fun q => [(3, .pointer (some ⟨b3, 0, none⟩)), (4, .int .i64 i), (5, .int .u32 ((g h i : Nat) : Int)), (7, .agg (wC h).toArray), (8, .int .i64 i), (12, .int .i64 q)]) (fun q => I) (fun q => some (b3, .cells (fillD (outB h i ++ out1 (g h i) q) 32).toArray 162 (0, 0)) :: some (b1, .cells (wC h).toArray 151 (0, 0)) :: ([] ++ Lf)) (fun q => q ≤ 4) (fun q => 4 - q) 0 (Nat.zero_le _) ⟨rfl, rfl, rfl, rfl, rfl, rfl, trivial⟩ rfl (List.Perm.refl _) (fun k hk => ?_)
    refine XC.seq ?_
    refine XC.region ?_
    refine XO.rd rfl rfl rfl (Reads.cmp rfl rfl rfl) ?_
    refine XO.nil ?_
    refine XQ.then_normal ?_
    refine XC.seq ?_
    refine XC.cond rfl (fun h2 => ?_) (fun h2 => ?_)
    · skip
      simp only [cmpInt, decide_eq_true_eq] at h2
      refine XC.skip ?_
      refine XQ.then_normal ?_
      refine XC.seq ?_
      refine XC.block ?_
      refine XC.seq ?_
      refine XC.region ?_
      refine XO.rd rfl rfl rfl (Reads.move rfl) ?_
      refine XO.rd rfl rfl rfl (Reads.assign rfl) ?_
      refine XO.nil ?_
      refine XQ.then_normal ?_
      refine XC.region ?_
      refine XO.rd rfl rfl rfl (Reads.move rfl) ?_
      refine XO.rd rfl rfl rfl (Reads.mul rfl rfl (by omega)) ?_
      refine XO.rd rfl rfl rfl (Reads.move rfl) ?_
      refine XO.rd rfl rfl rfl (Reads.add rfl rfl (by omega)) ?_
      refine XO.rd rfl rfl rfl (Reads.move rfl) ?_
      refine XO.rd rfl rfl rfl (Reads.move rfl) ?_
      refine XO.rd rfl rfl rfl (Reads.mul rfl rfl (by omega)) ?_
      refine XO.rd rfl rfl rfl (Reads.sub rfl rfl (by omega)) ?_
      rw [show (24 : Int) - 8 * (k : Int) = ((24 - 8 * k : Nat) : Int) by omega]
      refine XO.rd rfl rfl rfl (Reads.shrn rfl rfl (by show 24 - 8 * k ≤ 32; omega)) ?_
      refine XO.rd rfl rfl rfl (Reads.convu Tryd.underlying120 rfl Tryd.underlying5 rfl rfl) ?_
      refine XO.rd rfl rfl rfl (Reads.index_arr_own (q := 4 * i + k) Tryd.underlying162 z5 rfl rfl (by omega) (by omega)) ?_
      refine XO.store 0 rfl z5 rfl rfl rfl rfl (by simp [fillD, byteC_len, outB_len, out1_len]; omega) ?_
      refine XO.own_eq (congrArg (fun c => some (b3, Obj.cells c 162 (0, 0)) :: _) (dig_step (by omega) (by omega))) ?_
      refine XO.nil ?_
      refine XQ.block_normal ?_
      refine XQ.then_normal ?_
      refine XC.region ?_
      refine XO.rd rfl rfl rfl (Reads.add rfl rfl (by omega)) ?_
      refine XO.rd rfl rfl rfl (Reads.move rfl) ?_
      refine XO.nil ?_
      refine XQ.back (k + 1) (by omega) (by omega) ⟨rfl, rfl, rfl, rfl, rfl, rfl, trivial⟩ rfl (List.Perm.refl _)
    · skip
      simp only [cmpInt, decide_eq_false_iff_not] at h2
      have hk4 : k = 4 := by omega
      subst hk4
      refine XC.exit ?_
      refine XQ.then_exit ?_
      refine XQ.then_exit ?_
      refine XQ.block_exit ?_
      refine XQ.block_normal ?_
      refine XQ.then_normal ?_
      refine XC.region ?_
      refine XO.rd rfl rfl rfl (Reads.add rfl rfl (by omega)) ?_
      refine XO.rd rfl rfl rfl (Reads.move rfl) ?_
      refine XO.nil ?_
      rw [show outB h i ++ out1 (g h i) 4 = outB h (i + 1) ++ out1 (g h (i + 1)) 0 by rw [outB_succ]; simp [out1]]
      refine XQ.back (i + 1) (by omega) (by omega) ⟨rfl, rfl, rfl, trivial⟩ rfl (List.Perm.refl _)
  · skip
    simp only [cmpInt, decide_eq_false_iff_not] at h1
    have hi8 : i = 8 := by omega
    subst hi8
    refine XC.exit ?_
    refine XQ.then_exit ?_
    refine XQ.then_exit ?_
    refine XQ.block_exit ?_
    refine XQ.then_normal ?_
    refine XC.seq ?_
    refine XC.region ?_
    refine XO.rd rfl rfl rfl (Reads.slice_arr 0 32 Tryd.underlying162 z5 rfl rfl rfl (by decide) (by decide) (by decide)) ?_
    refine XO.rd rfl rfl rfl (Reads.to_string (bs := outB h 8) Tryd.underlying98 Tryd.underlying5 Tryd.underlying9 rfl (by rw [outB_len]) (readable_row 0 rfl (by rw [List.toList_toArray, fillD_full (by simp [outB_len, out1]), show out1 (g h 8) 0 = [] from rfl, List.append_nil]; exact List.take_of_length_le (by simp)))) ?_
    refine XO.rd rfl rfl rfl (Reads.assign rfl) ?_
    refine XO.nil ?_
    refine XQ.then_normal ?_
    refine XC.ret ?_
    refine XQ.dropn 2 ?_
    refine XQ.done1 (L := []) rfl rfl (Im.le_refl _) ?_
    exact ⟨rfl, rfl, rfl⟩

theorem chunk_any (p : Option Addr) (n cap : Nat) (I : Im) : FSo Tryd.prog 105 [.slice p n cap, .int .i64 64] I [] (fun u I' L' => ∃ b2 b3, u = .func (.func 109) #[] #[.pointer (some ⟨b2, 0, none⟩), .pointer (some ⟨b3, 0, none⟩)] ∧ I' = I ∧ L' = [some (b2, .cells #[.slice p n cap] 98 (0, 0)), some (b3, .cells #[.int .i64 64] 3 (0, 0))]) := by
  refine FSo.intro (n := 9) Tryd.func105 rfl rfl rfl (fun K Lf => ?_)
  refine XC.seq ?_
  refine XC.region ?_
  refine XO.box1 rfl rfl rfl rfl (fun b2 => ?_)
  refine XO.box1 rfl rfl rfl rfl (fun b3 => ?_)
  refine XO.rd rfl rfl rfl (Reads.assign rfl) ?_
  refine XO.nil ?_
  refine XQ.then_normal ?_
  refine XC.seq ?_
  refine XC.seq ?_
  refine XC.region ?_
  refine XO.rd rfl rfl rfl (Reads.load_own k3 rfl (by first | exact OwnAt.of 0 rfl rfl | exact OwnAt.of 1 rfl rfl | exact OwnAt.of 2 rfl rfl | exact OwnAt.of 3 rfl rfl | exact OwnAt.of 4 rfl rfl | exact OwnAt.of 5 rfl rfl)) ?_
  refine XO.rd rfl rfl rfl (Reads.cmp rfl rfl rfl) ?_
  rw [show cmpInt .lss 64 1 = false from rfl]
  refine XO.nil ?_
  refine XQ.then_normal ?_
  refine XC.cond rfl (fun hx => by cases hx) (fun _ => ?_)
  refine XC.skip ?_
  refine XQ.then_normal ?_
  refine XC.seq ?_
  refine XC.region ?_
  refine XO.rd rfl rfl rfl (Reads.makeFunc (fi := []) (fv := []) (ca := [.tmp 2, .tmp 3]) (cv := [_, _]) trivial ⟨rfl, rfl, trivial⟩) ?_
  refine XO.rd rfl rfl rfl (Reads.assign rfl) ?_
  refine XO.nil ?_
  refine XQ.then_normal ?_
  refine XC.ret ?_
  refine XQ.perm (L' := [some (b2, .cells #[.slice p n cap] 98 (0, 0)), some (b3, .cells #[.int .i64 64] 3 (0, 0))] ++ Lf) (List.Perm.swap _ _ _) ?_
  refine XQ.done1 rfl rfl (Im.le_refl _) ?_
  exact ⟨b2, b3, rfl, rfl, rfl⟩

theorem chunk1_any (l b2 b3 : Nat) (p : Option Addr) (_bs : List UInt8) (n cap R : Nat) (I : Im) (J : Nat → Own) (hn : n = 64 * R) (hcap : n ≤ cap) (hR : R ≤ 100000000) (hy : ∀ j, j < R → YS Tryd.prog l [.slice (cutA p (64 * j + 64) (64 * j) 1) 64 64] I (J j) (fun b I' L' => b = true ∧ I' = I ∧ L' = J (j + 1))) : FSo Tryd.prog 109 [.func (.yield l) #[] #[], .pointer (some ⟨b2, 0, none⟩), .pointer (some ⟨b3, 0, none⟩)] I (some (b2, .cells #[.slice p n cap] 98 (0, 0)) :: some (b3, .cells #[.int .i64 64] 3 (0, 0)) :: J 0) (fun _u I' L' => I' = I ∧ L' = some (b2, .cells #[.slice p n cap] 98 (0, 0)) :: some (b3, .cells #[.int .i64 64] 3 (0, 0)) :: J R) := by
  refine FSo.intro (n := 31) Tryd.func109 rfl rfl rfl (fun K Lf => ?_)
  refine XC.seq ?_
  refine XC.region ?_
  refine XO.rd rfl rfl rfl (Reads.assign rfl) ?_
  refine XO.nil ?_
  refine XQ.then_normal ?_
  refine XC.block ?_
  refine XC.loop (ι := Nat) (fun q => [(0, .func (.yield l) #[] #[]), (1, .pointer (some ⟨b2, 0, none⟩)), (2, .pointer (some ⟨b3, 0, none⟩)), (4, .int .i64 ((64 * q : Nat) : Int))]) (fun q => I) (fun q => some (b2, .cells #[.slice p n cap] 98 (0, 0)) :: some (b3, .cells #[.int .i64 64] 3 (0, 0)) :: (J q ++ Lf)) (fun q => q ≤ R) (fun q => R - q) 0 (Nat.zero_le _) ⟨rfl, rfl, rfl, rfl, trivial⟩ rfl (List.Perm.refl _) (fun j hj => ?_)
  refine XC.seq ?_
  refine XC.seq ?_
  refine XC.region ?_
  refine XO.rd rfl rfl rfl (Reads.move rfl) ?_
  refine XO.rd rfl rfl rfl (Reads.load_own k98 rfl (by first | exact OwnAt.of 0 rfl rfl | exact OwnAt.of 1 rfl rfl | exact OwnAt.of 2 rfl rfl | exact OwnAt.of 3 rfl rfl)) ?_
  refine XO.rd rfl rfl rfl (Reads.len_slice Tryd.underlying98 rfl) ?_
  refine XO.rd rfl rfl rfl (Reads.cmp rfl rfl rfl) ?_
  refine XO.nil ?_
  refine XQ.then_normal ?_
  refine XC.cond rfl (fun h1 => ?_) (fun h1 => ?_)
  · skip
    simp only [cmpInt, decide_eq_true_eq] at h1
    refine XC.skip ?_
    refine XQ.then_normal ?_
    refine XC.seq ?_
    refine XC.block ?_
    refine XC.seq ?_
    refine XC.draw m_mixed none (.pure 0 (.pure 1 (.pure 2 (.pure 3 (.pure 4 (.pure 5 (.pure 6 (.done)))))))) _ (by kernel_rfl) (List.Sublist.refl _) ?_
    refine XR.rd rfl rfl rfl (Reads.load_own k3 rfl (by first | exact OwnAt.of 0 rfl rfl | exact OwnAt.of 1 rfl rfl | exact OwnAt.of 2 rfl rfl | exact OwnAt.of 3 rfl rfl)) ?_
    refine XR.rd rfl rfl rfl (Reads.load_own k98 rfl (by first | exact OwnAt.of 0 rfl rfl | exact OwnAt.of 1 rfl rfl | exact OwnAt.of 2 rfl rfl | exact OwnAt.of 3 rfl rfl)) ?_
    refine XR.rd rfl rfl rfl (Reads.move rfl) ?_
    refine XR.rd rfl rfl rfl (Reads.slice_gen (64 * j) n cap Tryd.underlying98 z5 rfl ⟨_, rfl⟩ rfl rfl (fun _ => rfl) (by omega) (by omega) (by omega)) ?_
    refine XR.rd rfl rfl rfl (Reads.len_slice Tryd.underlying98 rfl) ?_
    refine XR.rd rfl rfl rfl (Reads.min rfl rfl) ?_
    rw [show min (64 : Int) ((n - 64 * j : Nat) : Int) = 64 by omega]
    refine XR.rd rfl rfl rfl (Reads.assign rfl) ?_
    refine XR.nil ?_
    refine XQ.then_normal ?_
    refine XC.seq ?_
    refine XC.region ?_
    refine XO.rd rfl rfl rfl (Reads.move rfl) ?_
    refine XO.rd rfl rfl rfl (Reads.load_own k98 rfl (by first | exact OwnAt.of 0 rfl rfl | exact OwnAt.of 1 rfl rfl | exact OwnAt.of 2 rfl rfl | exact OwnAt.of 3 rfl rfl)) ?_
    refine XO.rd rfl rfl rfl (Reads.move rfl) ?_
    refine XO.rd rfl rfl rfl (Reads.move rfl) ?_
    refine XO.rd rfl rfl rfl (Reads.move rfl) ?_
    refine XO.rd rfl rfl rfl (Reads.add rfl rfl (by omega)) ?_
    rw [show ((64 * j : Nat) : Int) + 64 = ((64 * j + 64 : Nat) : Int) by omega]
    refine XO.rd rfl rfl rfl (Reads.move rfl) ?_
    refine XO.rd rfl rfl rfl (Reads.move rfl) ?_
    refine XO.rd rfl rfl rfl (Reads.add rfl rfl (by omega)) ?_
    rw [show ((64 * j : Nat) : Int) + 64 = ((64 * j + 64 : Nat) : Int) by omega]
    refine XO.rd rfl rfl rfl (Reads.slice_gen (64 * j) (64 * j + 64) (64 * j + 64) Tryd.underlying98 z5 rfl ⟨_, rfl⟩ ⟨_, rfl⟩ ⟨_, rfl⟩ (fun h => by cases h) (by omega) (by omega) (by omega)) ?_
    rw [show 64 * j + 64 - 64 * j = 64 by omega]
    refine XO.yield (vs := [_]) (L1 := J j) (Lf := some (b2, .cells #[.slice p n cap] 98 (0, 0)) :: some (b3, .cells #[.int .i64 64] 3 (0, 0)) :: Lf) rfl rfl rfl ⟨rfl, trivial⟩ (hy j (by omega)) (perm_mid _ _) ?_
    rintro y I2 L2 _ ⟨rfl, hI2, rfl⟩
    replace hI2 := hI2.symm
    subst hI2
    refine XO.perm (perm_mid2 _ _) ?_
    refine XO.rd rfl rfl rfl (Reads.not rfl) ?_
    refine XO.nil ?_
    refine XQ.then_normal ?_
    refine XC.cond rfl (fun hx => by cases hx) (fun _ => ?_)
    refine XC.skip ?_
    refine XQ.block_normal ?_
    refine XQ.then_normal ?_
    refine XC.region ?_
    refine XO.rd rfl rfl rfl (Reads.move rfl) ?_
    refine XO.rd rfl rfl rfl (Reads.load_own k3 rfl (by first | exact OwnAt.of 0 rfl rfl | exact OwnAt.of 1 rfl rfl | exact OwnAt.of 2 rfl rfl | exact OwnAt.of 3 rfl rfl)) ?_
    refine XO.rd rfl rfl rfl (Reads.add rfl rfl (by omega)) ?_
    rw [show ((64 * j : Nat) : Int) + 64 = ((64 * (j + 1) : Nat) : Int) by omega]
    refine XO.rd rfl rfl rfl (Reads.assign rfl) ?_
    refine XO.nil ?_
    refine XQ.back (j + 1) (by omega) (by omega) ⟨rfl, rfl, rfl, rfl, trivial⟩ rfl (List.Perm.refl _)
  · skip
    simp only [cmpInt, decide_eq_false_iff_not] at h1
    have hjR : j = R := by omega
    subst hjR
    refine XC.exit ?_
    refine XQ.then_exit ?_
    refine XQ.then_exit ?_
    refine XQ.block_exit ?_
    refine XQ.done_normal ?_
    refine XQ.done0 (L := some (b2, .cells #[.slice p n cap] 98 (0, 0)) :: some (b3, .cells #[.int .i64 64] 3 (0, 0)) :: J j) rfl (Im.le_refl _) ?_
    exact ⟨rfl, rfl⟩

end Go.Proofs.YtmlliafhpbfdbaaDoor
namespace Go.Proofs.YtmlliafhpbfdbaaDoor
open Go.Xe Go.Sh Go

theorem sum_all (s : ByteArray) (I : Im) (hs : s.size ≤ 1000000000) (hG : ∃ e fr, I 0 = some (.cells (wC KR).toArray e fr)) : FC Tryd.prog 98 [.string s] I (fun u _I' => u = .string (sha s)) := by
  have hsz : s.size = s.data.toList.length := by simp
  have hpl := pad_len s.data.toList
  have hpm := pad_mod s.data.toList
  have hzc : zc s.data.toList.length < 64 := Nat.mod_lt _ (by decide)
  refine FSo.introM (n := 40) Tryd.func98 rfl rfl rfl (fun K Lf => ?_)
  refine XC.seq ?_
  refine XC.region ?_
  refine XO.rd rfl rfl rfl (Reads.assign rfl) ?_
  refine XO.nil ?_
  refine XQ.then_normal ?_
  refine XC.seq ?_
  refine XC.region ?_
  refine XO.rd rfl rfl rfl (Reads.build_arr (wC H0) Tryd.underlying151 z120 zo151 rfl ⟨rfl, rfl, rfl, rfl, rfl, rfl, rfl, rfl, rfl, rfl, rfl, rfl, rfl, rfl, rfl, rfl, trivial⟩ rfl rfl) ?_
  refine XO.alloc (cs := #[.int .u32 0, .int .u32 0, .int .u32 0, .int .u32 0, .int .u32 0, .int .u32 0, .int .u32 0, .int .u32 0]) rfl rfl zo151 rfl (fun b3 => ?_)
  refine XO.store_agg (vs := wC H0) 0 rfl z151 rfl rfl (wC_one _) rfl (by decide) ?_
  refine XO.own_eq (congrArg (fun c => some (b3, Obj.cells c 151 (0, 0)) :: _) (own_fill _ _ rfl)) ?_
  refine XO.nil ?_
  refine XQ.then_normal ?_
  refine XC.seq ?_
  refine XC.region ?_
  refine XO.rd rfl rfl rfl (Reads.move rfl) ?_
  refine XO.to_bytes rfl rfl Tryd.underlying9 Tryd.underlying98 Tryd.underlying5 rfl (fun V0 hV0 => ?_)
  refine XO.buildL [.int .u8 128] [.int .u8 128] rfl rfl Tryd.underlying98 el5 rfl (by simp) ⟨rfl, rfl, trivial⟩ rfl rfl (fun b10 => ?_)
  refine XO.appendB (V := V0) (news := [128]) 1 rfl rfl Tryd.underlying98 el5 rfl rfl hV0 rfl (.slice Tryd.underlying98 (readable_row 0 rfl rfl) rfl (byteC_one _)) (by ((try simp only [List.length_append, List.length_replicate, List.length_singleton, lenB_len]); omega)) ?_
  intro V hV
  refine XO.rd rfl rfl rfl (Reads.assign rfl) ?_
  refine XO.nil ?_
  refine XQ.then_normal ?_
  refine XC.seq ?_
  refine XC.block ?_
  refine XC.dropn 1 ?_
  refine XC.loop (ι := Nat × VB) (fun q => [(0, .string s), (3, .pointer (some ⟨b3, 0, none⟩)), (4, q.2.val)]) (fun q => I) (fun q => some (q.2.blk, q.2.obj 5) :: some (b3, .cells (wC H0).toArray 151 (0, 0)) :: ([] ++ Lf)) (fun q => q.1 ≤ zc s.data.toList.length ∧ q.2.Is (s.data.toList ++ [128] ++ List.replicate q.1 0)) (fun q => zc s.data.toList.length - q.1) (0, V) ⟨Nat.zero_le _, by simpa using hV⟩ ⟨rfl, rfl, rfl, trivial⟩ rfl (List.Perm.refl _) (fun q hq => ?_)
  clear hV V
  obtain ⟨j, V⟩ := q
  obtain ⟨hj1, hV⟩ := hq
  simp only at hj1 hV ⊢
  have hVl : V.len = s.data.toList.length + 1 + j := by rw [hV.len]; simp; try omega
  refine XC.seq ?_
  refine XC.seq ?_
  refine XC.region ?_
  refine XO.rd rfl rfl rfl (Reads.move rfl) ?_
  refine XO.rd rfl rfl rfl (Reads.len_slice Tryd.underlying98 rfl) ?_
  rw [hVl]
  refine XO.rd rfl rfl rfl (Reads.rem rfl rfl (by omega) (by omega)) ?_
  refine XO.rd rfl rfl rfl (Reads.cmp rfl rfl rfl) ?_
  refine XO.nil ?_
  refine XQ.then_normal ?_
  refine XC.cond rfl (fun h1 => ?_) (fun h1 => ?_)
  · skip
    simp only [cmpInt, bne_iff_ne, ne_eq] at h1
    have hj : j < zc s.data.toList.length := by unfold zc; unfold zc at hj1; omega
    refine XC.skip ?_
    refine XQ.then_normal ?_
    refine XC.block ?_
    refine XC.region ?_
    refine XO.rd rfl rfl rfl (Reads.move rfl) ?_
    refine XO.buildL [.int .u8 0] [.int .u8 0] rfl rfl Tryd.underlying98 el5 rfl (by simp) ⟨rfl, rfl, trivial⟩ rfl rfl (fun b17 => ?_)
    refine XO.appendB (V := V) (news := [0]) 1 rfl rfl Tryd.underlying98 el5 rfl rfl hV rfl (.slice Tryd.underlying98 (readable_row 0 rfl rfl) rfl (byteC_one _)) (by ((try simp only [List.length_append, List.length_replicate, List.length_singleton]); omega)) ?_
    intro V2 hV2
    refine XO.rd rfl rfl rfl (Reads.assign rfl) ?_
    refine XO.nil ?_
    refine XQ.block_normal ?_
    refine XQ.dropn 1 ?_
    refine XQ.back (j + 1, V2) ⟨by simp only; omega, by rw [List.replicate_succ', ← List.append_assoc]; exact hV2⟩ (by simp only; omega) ⟨rfl, rfl, rfl, trivial⟩ rfl (List.Perm.refl _)
  · skip
    simp only [cmpInt, bne_eq_false_iff_eq] at h1
    have hj : j = zc s.data.toList.length := by unfold zc; unfold zc at hj1; omega
    subst hj
    refine XC.exit ?_
    refine XQ.then_exit ?_
    refine XQ.then_exit ?_
    refine XQ.block_exit ?_
    refine XQ.then_normal ?_
    refine XC.seq ?_
    refine XC.seq ?_
    refine XC.region ?_
    refine XO.rd rfl rfl rfl (Reads.assign rfl) ?_
    refine XO.nil ?_
    refine XQ.then_normal ?_
    refine XC.block ?_
    refine XC.loop (ι := Nat × VB) (fun q => [(0, .string s), (3, .pointer (some ⟨b3, 0, none⟩)), (4, q.2.val), (5, .int .i64 (7 - ((q.1 : Nat) : Int)))]) (fun q => I) (fun q => some (q.2.blk, q.2.obj 5) :: some (b3, .cells (wC H0).toArray 151 (0, 0)) :: ([] ++ Lf)) (fun q => q.1 ≤ 8 ∧ q.2.Is (s.data.toList ++ [128] ++ List.replicate (zc s.data.toList.length) 0 ++ lenB s.data.toList.length q.1)) (fun q => 8 - q.1) (0, V) ⟨Nat.zero_le _, by simpa [lenB] using hV⟩ ⟨rfl, rfl, rfl, rfl, trivial⟩ rfl (List.Perm.refl _) (fun q hq => ?_)
    clear hVl hV V
    obtain ⟨q, V⟩ := q
    obtain ⟨hq1, hV⟩ := hq
    simp only at hq1 hV ⊢
    refine XC.seq ?_
    refine XC.seq ?_
    refine XC.region ?_
    refine XO.rd rfl rfl rfl (Reads.move rfl) ?_
    refine XO.rd rfl rfl rfl (Reads.cmp rfl rfl rfl) ?_
    refine XO.nil ?_
    refine XQ.then_normal ?_
    refine XC.cond rfl (fun h2 => ?_) (fun h2 => ?_)
    · skip
      simp only [cmpInt, decide_eq_true_eq] at h2
      have hq7 : q ≤ 7 := by omega
      refine XC.skip ?_
      refine XQ.then_normal ?_
      refine XC.seq ?_
      refine XC.block ?_
      refine XC.region ?_
      refine XO.rd rfl rfl rfl (Reads.move rfl) ?_
      refine XO.rd rfl rfl rfl (Reads.move rfl) ?_
      refine XO.rd rfl rfl rfl (Reads.len_string Tryd.underlying9 rfl) ?_
      rw [hsz]
      refine XO.rd rfl rfl rfl (Reads.mul rfl rfl (by omega)) ?_
      rw [show (8 : Int) * (s.data.toList.length : Int) = ((8 * s.data.toList.length : Nat) : Int) by omega]
      refine XO.rd rfl rfl rfl (Reads.move rfl) ?_
      refine XO.rd rfl rfl rfl (Reads.mul rfl rfl (by omega)) ?_
      rw [show (8 : Int) * (7 - (q : Int)) = ((8 * (7 - q) : Nat) : Int) by omega]
      refine XO.rd rfl rfl rfl (Reads.shrn rfl rfl (by show 8 * (7 - q) ≤ 64; omega)) ?_
      refine XO.rd rfl rfl rfl (Reads.convu Tryd.underlying3 rfl Tryd.underlying5 rfl rfl) ?_
      rw [u8_nat (8 * s.data.toList.length / 2 ^ (8 * (7 - q)))]
      refine XO.buildL [.int .u8 (((UInt8.ofNat (8 * s.data.toList.length / 2 ^ (8 * (7 - q)) % 256)).toNat : Nat) : Int)] [.int .u8 (((UInt8.ofNat (8 * s.data.toList.length / 2 ^ (8 * (7 - q)) % 256)).toNat : Nat) : Int)] rfl rfl Tryd.underlying98 el5 rfl (by simp) ⟨rfl, rfl, trivial⟩ rfl rfl (fun b31 => ?_)
      refine XO.appendB (V := V) (news := [(UInt8.ofNat (8 * s.data.toList.length / 2 ^ (8 * (7 - q)) % 256))]) 1 rfl rfl Tryd.underlying98 el5 rfl rfl hV rfl (.slice Tryd.underlying98 (readable_row 0 rfl rfl) rfl (byteC_one _)) (by ((try simp only [List.length_append, List.length_replicate, List.length_singleton, lenB_len]); omega)) ?_
      intro V2 hV2
      refine XO.rd rfl rfl rfl (Reads.assign rfl) ?_
      refine XO.nil ?_
      refine XQ.block_normal ?_
      refine XQ.then_normal ?_
      refine XC.region ?_
      refine XO.rd rfl rfl rfl (Reads.move rfl) ?_
      refine XO.rd rfl rfl rfl (Reads.sub rfl rfl (by omega)) ?_
      rw [show (7 : Int) - (q : Int) - 1 = 7 - ((q + 1 : Nat) : Int) by omega]
      refine XO.rd rfl rfl rfl (Reads.assign rfl) ?_
      refine XO.nil ?_
      refine XQ.dropn 1 ?_
      refine XQ.back (q + 1, V2) ⟨by simp only; omega, by rw [lenB_succ, ← List.append_assoc]; exact hV2⟩ (by simp only; omega) ⟨rfl, rfl, rfl, rfl, trivial⟩ rfl (List.Perm.refl _)
    · skip
      simp only [cmpInt, decide_eq_false_iff_not] at h2
      have hq8 : q = 8 := by omega
      subst hq8
      have hVl : V.len = (pad s.data.toList).length := hV.len
      refine XC.exit ?_
      refine XQ.then_exit ?_
      refine XQ.then_exit ?_
      refine XQ.block_exit ?_
      refine XQ.then_normal ?_
      refine XC.seq ?_
      refine XC.seq ?_
      refine XC.region ?_
      refine XO.bytes_done hV (fun J1 hle1 hA => ?_)
      have hG1 : ∃ e fr, J1 0 = some (.cells (wC KR).toArray e fr) := let ⟨e, fr, h⟩ := hG; ⟨e, fr, hle1 _ _ h⟩
      refine XO.rd rfl rfl rfl (Reads.move rfl) ?_
      refine XO.callo (vs := [_, _]) (L1 := []) rfl rfl rfl en105 ⟨rfl, rfl, trivial⟩ (chunk_any _ _ _ _) (List.Perm.refl _) ?_
      rintro v' J' L' _ ⟨c2, c3, rfl, hJ', rfl⟩
      replace hJ' := hJ'.symm
      subst hJ'
      refine XO.nil ?_
      refine XQ.then_normal ?_
      refine XC.block ?_
      refine XC.rangeFunc (f := 109) (fi := #[]) (ca := #[.pointer (some ⟨c2, 0, none⟩), .pointer (some ⟨c3, 0, none⟩)]) (L1 := [some (c2, .cells #[.slice (some ⟨V.blk, 0, none⟩) V.len V.cap] 98 (0, 0)), some (c3, .cells #[.int .i64 64] 3 (0, 0)), some (b3, .cells (wC H0).toArray 151 (0, 0))]) (Lf := Lf) rfl en109 (List.Perm.refl _) (fun l D rc hR => ?_)
      let J : Nat → Own := fun j => [some (l, lp rc .ready none), some (D, .deferred (some [])), some (b3, .cells (wC (blocks (pad s.data.toList) j)).toArray 151 (0, 0))]
      refine ⟨_, FSo.perm (perm_take [2, 2]) (chunk1_any l c2 c3 (some ⟨V.blk, 0, none⟩) (pad s.data.toList) V.len V.cap ((pad s.data.toList).length / 64) J1 J (by rw [hVl]; omega) hV.le (by omega) (fun j hjR => ?_)), ?_⟩
      · skip
        refine YS.intro hR rfl rfl (fun K Lf => ?_)
        refine XC.region ?_
        refine XO.rd rfl rfl rfl (Reads.assign rfl) ?_
        refine XO.nil ?_
        refine XQ.begin ?_
        refine XC.block ?_
        refine XC.region ?_
        refine XO.rd rfl rfl rfl (Reads.move rfl) ?_
        refine XO.callo (vs := [_, _]) rfl rfl rfl en106 ⟨rfl, rfl, trivial⟩ (wadd_any b3 (blocks (pad s.data.toList) j) _ _ (((pad s.data.toList).drop (64 * j)).take 64) _ (hA.part (k := 64) (fun h => by omega)) (by rw [List.length_take, List.length_drop]; omega) (blocks_len _ _) (blocks_ws _ _) hG1) (perm_take [2]) ?_
        rintro v I' L' _ ⟨hI', rfl⟩
        replace hI' := hI'.symm
        subst hI'
        refine XO.nil ?_
        refine XQ.block_normal ?_
        refine XQ.perm (perm_take [1, 1]) ?_
        refine XQ.round_normal (L := [some (D, .deferred (some [])), some (b3, .cells (wC (comp (blocks (pad s.data.toList) j) (bg (((pad s.data.toList).drop (64 * j)).take 64)))).toArray 151 (0, 0))]) (Im.le_refl _) ?_
        exact ⟨rfl, rfl, by rw [← show blocks (pad s.data.toList) (j + 1) = comp (blocks (pad s.data.toList) j) (bg (((pad s.data.toList).drop (64 * j)).take 64)) from blocks_succ _ _]⟩
      · skip
        rintro u I4 L4 _ ⟨hI4, rfl⟩
        replace hI4 := hI4.symm
        subst hI4
        refine ⟨.ready, none, [some (c2, .cells #[.slice (some ⟨V.blk, 0, none⟩) V.len V.cap] 98 (0, 0)), some (c3, .cells #[.int .i64 64] 3 (0, 0)), some (D, .deferred (some [])), some (b3, .cells (wC (blocks (pad s.data.toList) ((pad s.data.toList).length / 64))).toArray 151 (0, 0))], perm_take [2], by simp, ?_⟩
        refine XQ.block_normal ?_
        refine XQ.then_normal ?_
        refine XC.seq ?_
        refine XC.region ?_
        refine XO.rd rfl rfl rfl (Reads.load_whole (c := (wC (blocks (pad s.data.toList) ((pad s.data.toList).length / 64))).toArray) k151 z151 rfl (WholeAt.of 3 rfl) (by simp [wC_len, blocks_len])) ?_
        refine XO.callp rfl rfl en107 (wdig_any _ _ (blocks_len _ _) (blocks_ws _ _)) ⟨rfl, trivial⟩ ?_
        refine XO.rd rfl rfl rfl (Reads.assign rfl) ?_
        refine XO.nil ?_
        refine XQ.then_normal ?_
        refine XC.ret ?_
        refine XQ.unmark 2 rfl ?_
        refine XQ.ofM ?_
        refine XQ.dropn 3 ?_
        refine XQ.done1 (L := []) rfl rfl hle1 ?_
        exact ⟨rfl, rfl⟩

end Go.Proofs.YtmlliafhpbfdbaaDoor
