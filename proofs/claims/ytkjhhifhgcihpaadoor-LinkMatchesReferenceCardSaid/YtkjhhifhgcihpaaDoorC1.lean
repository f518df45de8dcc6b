/- Walks: rotations. -/
import Derived.Test.YtkjhhifhgcihpaaDoorT
import Derived.Test.YtkjhhifhgcihpaaDoorXh
import Derived.Test.YtkjhhifhgcihpaaDoorXw
namespace Go.Proofs.YtkjhhifhgcihpaaDoor
open Go.Xe Go.Sh Go

theorem rotl_any (x n : Nat) (I : Im) (hx : x < 4294967296) (hn : 0 < n ∧ n < 32) : FC Tryd.prog 85 [.int .u32 ((x : Nat) : Int), .int .i64 (-(n : Int))] I (fun u I' => u = .int .u32 ((rotr x n : Nat) : Int) ∧ I' = I) := by
  refine FSo.intro (n := 17) Tryd.func85 rfl rfl rfl (fun K Lf => ?_)
  refine XC.seq ?_
  refine XC.region ?_
  refine XO.rd rfl rfl rfl (Reads.assign rfl) ?_
  refine XO.nil ?_
  refine XQ.then_normal ?_
  refine XC.seq ?_
  refine XC.region ?_
  refine XO.rd rfl rfl rfl (Reads.move rfl) ?_
  refine XO.rd rfl rfl rfl (Reads.conv Tryd.underlying3 rfl Tryd.underlying87 rfl) ?_
  rw [show IntKind.u64.wrap (-(n : Int)) = ((18446744073709551616 - n : Nat) : Int) by rw [IntKind.wrap_u64]; omega]
  refine XO.rd rfl rfl rfl (Reads.uand (n := 31) rfl rfl rfl (by omega) (by decide)) ?_
  rw [show ((18446744073709551616 - n) &&& 31 : Nat) = 32 - n by rw [show (31 : Nat) = 2 ^ 5 - 1 from rfl, Nat.and_two_pow_sub_one_eq_mod]; omega]
  refine XO.rd rfl rfl rfl (Reads.assign rfl) ?_
  refine XO.nil ?_
  refine XQ.then_normal ?_
  refine XC.seq ?_
  refine XC.region ?_
  refine XO.rd rfl rfl rfl (Reads.move rfl) ?_
  refine XO.rd rfl rfl rfl (Reads.move rfl) ?_
  refine XO.rd rfl rfl rfl (Reads.ushl rfl rfl rfl (by show 32 - n ≤ 32; omega)) ?_
  refine XO.rd rfl rfl rfl (Reads.move rfl) ?_
  refine XO.rd rfl rfl rfl (Reads.move rfl) ?_
  refine XO.rd rfl rfl rfl (Reads.usub (m := 32) rfl rfl rfl (by omega) (by decide)) ?_
  rw [show 32 - (32 - n) = n by omega]
  refine XO.rd rfl rfl rfl (Reads.shrn rfl rfl (by show n ≤ 32; omega)) ?_
  refine XO.rd rfl rfl rfl (Reads.uor rfl rfl rfl (by repeat' first | assumption | with_reducible exact Go.Sh.mod_lt' _ | with_reducible apply Go.Sh.mix_lt | with_reducible apply Go.Sh.rotr_lt | with_reducible apply Go.Sh.xor_lt | with_reducible apply Go.Sh.and_lt | with_reducible apply Go.Sh.or_lt | with_reducible apply Go.Sh.div_lt' | with_reducible exact Nat.lt_of_lt_of_le (UInt8.toNat_lt _) (by decide) | with_reducible exact Nat.lt_of_lt_of_le (Go.Sh.bg_lt _ _) (by decide) | decide | omega) (by repeat' first | assumption | with_reducible exact Go.Sh.mod_lt' _ | with_reducible apply Go.Sh.mix_lt | with_reducible apply Go.Sh.rotr_lt | with_reducible apply Go.Sh.xor_lt | with_reducible apply Go.Sh.and_lt | with_reducible apply Go.Sh.or_lt | with_reducible apply Go.Sh.div_lt' | with_reducible exact Nat.lt_of_lt_of_le (UInt8.toNat_lt _) (by decide) | with_reducible exact Nat.lt_of_lt_of_le (Go.Sh.bg_lt _ _) (by decide) | decide | omega)) ?_
  refine XO.rd rfl rfl rfl (Reads.assign rfl) ?_
  refine XO.nil ?_
  refine XQ.then_normal ?_
  refine XC.ret ?_
  refine XQ.done1 rfl rfl (Im.le_refl _) ?_
  exact ⟨rfl, rfl, rfl⟩

theorem mixed_any (x : Nat) (l : List Nat) (b n : Nat) (I : Im) (hx : x < 4294967296) (hl : ∀ y ∈ l, 0 < y ∧ y < 32) (hn : n = l.length) (hn9 : n ≤ 100) : FSo Tryd.prog 82 [.int .u32 ((x : Nat) : Int), .slice (some ⟨b, 0, none⟩) n n] I [some (b, .cells ((l.map fun x => Value.int .i64 ((x : Nat) : Int)).toArray) 3 (0, 0))] (fun u I' L' => u = .int .u32 ((mix x l : Nat) : Int) ∧ I' = I ∧ L' = [some (b, .cells ((l.map fun x => Value.int .i64 ((x : Nat) : Int)).toArray) 3 (0, 0))]) := by
  refine FSo.intro (n := 22) Tryd.func82 rfl rfl rfl (fun K Lf => ?_)
  refine XC.seq ?_
  refine XC.region ?_
  refine XO.rd rfl rfl rfl (Reads.assign rfl) ?_
  refine XO.nil ?_
  refine XQ.then_normal ?_
  refine XC.seq ?_
  refine XC.region ?_
  refine XO.rd rfl rfl rfl (Reads.assign rfl) ?_
  refine XO.nil ?_
  refine XQ.then_normal ?_
  refine XC.seq ?_
  refine XC.seq ?_
  refine XC.region ?_
  refine XO.rd rfl rfl rfl (Reads.move rfl) ?_
  refine XO.rd rfl rfl rfl (Reads.len_slice Tryd.underlying52 rfl) ?_
  refine XO.rd rfl rfl rfl (Reads.move rfl) ?_
  refine XO.nil ?_
  refine XQ.then_normal ?_
  refine XC.block ?_
  refine XC.loop (ι := Nat) (fun q => [(0, .int .u32 ((x : Nat) : Int)), (5, .int .u32 ((mix x (l.take q) : Nat) : Int)), (8, .slice (some ⟨b, 0, none⟩) n n), (9, .int .i64 n), (10, .int .i64 q)]) (fun q => I) (fun q => [some (b, .cells ((l.map fun x => Value.int .i64 ((x : Nat) : Int)).toArray) 3 (0, 0))] ++ Lf) (fun q => q ≤ n) (fun q => n - q) 0 (Nat.zero_le _) ⟨rfl, rfl, rfl, rfl, rfl, trivial⟩ rfl (List.Perm.refl _) (fun k hk => ?_)
  refine XC.seq ?_
  refine XC.region ?_
  refine XO.rd rfl rfl rfl (Reads.cmp rfl rfl rfl) ?_
  refine XO.nil ?_
  refine XQ.then_normal ?_
  refine XC.seq ?_
  refine XC.cond rfl (fun h1 => ?_) (fun h1 => ?_)
  · skip
    simp only [cmpInt, decide_eq_true_eq] at h1
    have hk3 : k < l.length := by omega
    refine XC.skip ?_
    refine XQ.then_normal ?_
    refine XC.seq ?_
    refine XC.block ?_
    refine XC.seq ?_
    refine XC.region ?_
    refine XO.rd rfl rfl rfl (Reads.index_own (q := k) Tryd.underlying52 z3 rfl rfl (by omega) (by simp)) ?_
    refine XO.rd rfl rfl rfl (Reads.load_own (v := .int .i64 ((l[k] : Nat) : Int)) k3 rfl (OwnAt.of 0 rfl (by simp [hk3]))) ?_
    refine XO.rd rfl rfl rfl (Reads.assign rfl) ?_
    refine XO.nil ?_
    refine XQ.then_normal ?_
    refine XC.region ?_
    refine XO.rd rfl rfl rfl (Reads.move rfl) ?_
    refine XO.rd rfl rfl rfl (Reads.move rfl) ?_
    refine XO.rd rfl rfl rfl (Reads.move rfl) ?_
    have hlk := hl _ (List.getElem_mem hk3)
    refine XO.rd rfl rfl rfl (Reads.neg rfl (by omega)) ?_
    refine XO.callp rfl rfl en85 (rotl_any x l[k] _ hx (hl _ (List.getElem_mem hk3))) ⟨rfl, rfl, trivial⟩ ?_
    refine XO.rd rfl rfl rfl (Reads.uxor rfl rfl rfl (mix_lt _ hx) (rotr_lt hx)) ?_
    rw [← mix_snoc, ← List.take_succ_eq_append_getElem hk3]
    refine XO.rd rfl rfl rfl (Reads.assign rfl) ?_
    refine XO.nil ?_
    refine XQ.block_normal ?_
    refine XQ.then_normal ?_
    refine XC.region ?_
    refine XO.rd rfl rfl rfl (Reads.add rfl rfl (by omega)) ?_
    refine XO.rd rfl rfl rfl (Reads.move rfl) ?_
    refine XO.nil ?_
    refine XQ.back (k + 1) (by omega) (by omega) ⟨rfl, rfl, rfl, rfl, rfl, trivial⟩ rfl (List.Perm.refl _)
  · skip
    simp only [cmpInt, decide_eq_false_iff_not] at h1
    rw [List.take_of_length_le (by omega)]
    refine XC.exit ?_
    refine XQ.then_exit ?_
    refine XQ.then_exit ?_
    refine XQ.block_exit ?_
    refine XQ.then_normal ?_
    refine XC.seq ?_
    refine XC.region ?_
    refine XO.rd rfl rfl rfl (Reads.move rfl) ?_
    refine XO.rd rfl rfl rfl (Reads.assign rfl) ?_
    refine XO.nil ?_
    refine XQ.then_normal ?_
    refine XC.ret ?_
    refine XQ.done1 rfl rfl (Im.le_refl _) ?_
    exact ⟨rfl, rfl, rfl⟩

end Go.Proofs.YtkjhhifhgcihpaaDoor
