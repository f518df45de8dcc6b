/- Walks: the digest. -/
import Derived.Test.YtkjhhifhgcihpaaDoorC4
namespace Go.Proofs.YtkjhhifhgcihpaaDoor
open Go.Xe Go.Sh Go

theorem sum_all (s : ByteArray) (I : Im) (hs : s.size ≤ 1000000000) (hG : ∃ e fr, I 0 = some (.cells (wC KR).toArray e fr)) : FC Tryd.prog 71 [.string s] I (fun u I' => u = .string (sha s)) := by
  have hsz : s.size = s.data.toList.length := by simp
  have hpl := pad_len s.data.toList
  have hpm := pad_mod s.data.toList
  have hzc : zc s.data.toList.length < 64 := Nat.mod_lt _ (by decide)
  refine FSo.introM (n := 40) Tryd.func71 rfl rfl rfl (fun K Lf => ?_)
  refine XC.seq ?_
  refine XC.region ?_
  refine XO.rd rfl rfl rfl (Reads.assign rfl) ?_
  refine XO.nil ?_
  refine XQ.then_normal ?_
  refine XC.seq ?_
  refine XC.region ?_
  refine XO.rd rfl rfl rfl (Reads.build_arr (wC H0) Tryd.underlying105 z83 zo105 rfl ⟨rfl, rfl, rfl, rfl, rfl, rfl, rfl, rfl, rfl, rfl, rfl, rfl, rfl, rfl, rfl, rfl, trivial⟩ rfl rfl) ?_
  refine XO.alloc (cs := #[.int .u32 0, .int .u32 0, .int .u32 0, .int .u32 0, .int .u32 0, .int .u32 0, .int .u32 0, .int .u32 0]) rfl rfl zo105 rfl (fun b3 => ?_)
  refine XO.store_agg (vs := wC H0) 0 rfl z105 rfl rfl (wC_one _) rfl (by decide) ?_
  refine XO.own_eq (congrArg (fun c => some (b3, Obj.cells c 105 (0, 0)) :: _) (own_fill _ _ rfl)) ?_
  refine XO.nil ?_
  refine XQ.then_normal ?_
  refine XC.seq ?_
  refine XC.region ?_
  refine XO.rd rfl rfl rfl (Reads.move rfl) ?_
  refine XO.to_bytes rfl rfl Tryd.underlying9 Tryd.underlying70 Tryd.underlying5 rfl (fun V0 hV0 => ?_)
  refine XO.buildL [.int .u8 128] [.int .u8 128] rfl rfl Tryd.underlying70 el5 rfl (by simp) ⟨rfl, rfl, trivial⟩ rfl rfl (fun b10 => ?_)
  refine XO.appendB (V := V0) (news := [128]) 1 rfl rfl Tryd.underlying70 el5 rfl rfl hV0 rfl (.slice Tryd.underlying70 (readable_row 0 rfl rfl) rfl (byteC_one _)) (by ((try simp only [List.length_append, List.length_replicate, List.length_singleton, lenB_len]); omega)) ?_
  intro V hV
  refine XO.rd rfl rfl rfl (Reads.assign rfl) ?_
  refine XO.nil ?_
  refine XQ.then_normal ?_
  refine XC.seq ?_
  refine XC.block ?_
  refine XC.dropn 1 ?_
  refine XC.loop (ι := Nat × VB) (fun q => [(0, .string s), (3, .pointer (some ⟨b3, 0, none⟩)), (4, q.2.val)]) (fun q => I) (fun q => some (q.2.blk, q.2.obj 5) :: some (b3, .cells (wC H0).toArray 105 (0, 0)) :: ([] ++ Lf)) (fun q => q.1 ≤ zc s.data.toList.length ∧ q.2.Is (s.data.toList ++ [128] ++ List.replicate q.1 0)) (fun q => zc s.data.toList.length - q.1) (0, V) ⟨Nat.zero_le _, by simpa using hV⟩ ⟨rfl, rfl, rfl, trivial⟩ rfl (List.Perm.refl _) (fun q hq => ?_)
  clear hV V
  obtain ⟨j, V⟩ := q
  obtain ⟨hj1, hV⟩ := hq
  simp only at hj1 hV ⊢
  have hVl : V.len = s.data.toList.length + 1 + j := by rw [hV.len]; simp; try omega
  refine XC.seq ?_
  refine XC.seq ?_
  refine XC.region ?_
  refine XO.rd rfl rfl rfl (Reads.move rfl) ?_
  refine XO.rd rfl rfl rfl (Reads.len_slice Tryd.underlying70 rfl) ?_
  rw [hVl]
  refine XO.rd rfl rfl rfl (Reads.rem rfl rfl (by omega) (by omega)) ?_
  refine XO.rd rfl rfl rfl (Reads.cmp rfl rfl rfl) ?_
  refine XO.nil ?_
  refine XQ.then_normal ?_
  refine XC.cond rfl (fun h1 => ?_) (fun h1 => ?_)
  · skip
    simp only [cmpInt, bne_iff_ne, ne_eq] at h1
    have hj : j < zc s.data.toList.length := by unfold zc; unfold zc at hj1; omega
    refine XC.skip ?_
    refine XQ.then_normal ?_
    refine XC.block ?_
    refine XC.region ?_
    refine XO.rd rfl rfl rfl (Reads.move rfl) ?_
    refine XO.buildL [.int .u8 0] [.int .u8 0] rfl rfl Tryd.underlying70 el5 rfl (by simp) ⟨rfl, rfl, trivial⟩ rfl rfl (fun b17 => ?_)
    refine XO.appendB (V := V) (news := [0]) 1 rfl rfl Tryd.underlying70 el5 rfl rfl hV rfl (.slice Tryd.underlying70 (readable_row 0 rfl rfl) rfl (byteC_one _)) (by ((try simp only [List.length_append, List.length_replicate, List.length_singleton, lenB_len]); omega)) ?_
    intro V2 hV2
    refine XO.rd rfl rfl rfl (Reads.assign rfl) ?_
    refine XO.nil ?_
    refine XQ.block_normal ?_
    refine XQ.dropn 1 ?_
    refine XQ.back (j + 1, V2) ⟨by simp only; omega, by rw [List.replicate_succ', ← List.append_assoc]; exact hV2⟩ (by simp only; omega) ⟨rfl, rfl, rfl, trivial⟩ rfl (List.Perm.refl _)
  · skip
    simp only [cmpInt, bne_eq_false_iff_eq] at h1
    have hj : j = zc s.data.toList.length := by unfold zc; unfold zc at hj1; omega
    subst hj
    refine XC.exit ?_
    refine XQ.then_exit ?_
    refine XQ.then_exit ?_
    refine XQ.block_exit ?_
    refine XQ.then_normal ?_
    refine XC.seq ?_
    refine XC.seq ?_
    refine XC.region ?_
    refine XO.rd rfl rfl rfl (Reads.assign rfl) ?_
    refine XO.nil ?_
    refine XQ.then_normal ?_
    refine XC.block ?_
    refine XC.loop (ι := Nat × VB) (fun q => [(0, .string s), (3, .pointer (some ⟨b3, 0, none⟩)), (4, q.2.val), (5, .int .i64 (7 - ((q.1 : Nat) : Int)))]) (fun q => I) (fun q => some (q.2.blk, q.2.obj 5) :: some (b3, .cells (wC H0).toArray 105 (0, 0)) :: ([] ++ Lf)) (fun q => q.1 ≤ 8 ∧ q.2.Is (s.data.toList ++ [128] ++ List.replicate (zc s.data.toList.length) 0 ++ lenB s.data.toList.length q.1)) (fun q => 8 - q.1) (0, V) ⟨Nat.zero_le _, by simpa [lenB] using hV⟩ ⟨rfl, rfl, rfl, rfl, trivial⟩ rfl (List.Perm.refl _) (fun q hq => ?_)
    clear hVl hV V
    obtain ⟨q, V⟩ := q
    obtain ⟨hq1, hV⟩ := hq
    simp only at hq1 hV ⊢
    refine XC.seq ?_
    refine XC.seq ?_
    refine XC.region ?_
    refine XO.rd rfl rfl rfl (Reads.move rfl) ?_
    refine XO.rd rfl rfl rfl (Reads.cmp rfl rfl rfl) ?_
    refine XO.nil ?_
    refine XQ.then_normal ?_
    refine XC.cond rfl (fun h2 => ?_) (fun h2 => ?_)
    · skip
      simp only [cmpInt, decide_eq_true_eq] at h2
      have hq7 : q ≤ 7 := by omega
      refine XC.skip ?_
      refine XQ.then_normal ?_
      refine XC.seq ?_
      refine XC.block ?_
      refine XC.region ?_
      refine XO.rd rfl rfl rfl (Reads.move rfl) ?_
      refine XO.rd rfl rfl rfl (Reads.move rfl) ?_
      refine XO.rd rfl rfl rfl (Reads.len_string Tryd.underlying9 rfl) ?_
      rw [hsz]
      refine XO.rd rfl rfl rfl (Reads.mul rfl rfl (by omega)) ?_
      rw [show (8 : Int) * (s.data.toList.length : Int) = ((8 * s.data.toList.length : Nat) : Int) by omega]
      refine XO.rd rfl rfl rfl (Reads.move rfl) ?_
      refine XO.rd rfl rfl rfl (Reads.mul rfl rfl (by omega)) ?_
      rw [show (8 : Int) * (7 - (q : Int)) = ((8 * (7 - q) : Nat) : Int) by omega]
      refine XO.rd rfl rfl rfl (Reads.shrn rfl rfl (by show 8 * (7 - q) ≤ 64; omega)) ?_
      refine XO.rd rfl rfl rfl (Reads.convu Tryd.underlying3 rfl Tryd.underlying5 rfl rfl) ?_
      rw [u8_nat (8 * s.data.toList.length / 2 ^ (8 * (7 - q)))]
      refine XO.buildL [.int .u8 (((UInt8.ofNat (8 * s.data.toList.length / 2 ^ (8 * (7 - q)) % 256)).toNat : Nat) : Int)] [.int .u8 (((UInt8.ofNat (8 * s.data.toList.length / 2 ^ (8 * (7 - q)) % 256)).toNat : Nat) : Int)] rfl rfl Tryd.underlying70 el5 rfl (by simp) ⟨rfl, rfl, trivial⟩ rfl rfl (fun b31 => ?_)
      refine XO.appendB (V := V) (news := [(UInt8.ofNat (8 * s.data.toList.length / 2 ^ (8 * (7 - q)) % 256))]) 1 rfl rfl Tryd.underlying70 el5 rfl rfl hV rfl (.slice Tryd.underlying70 (readable_row 0 rfl rfl) rfl (byteC_one _)) (by ((try simp only [List.length_append, List.length_replicate, List.length_singleton, lenB_len]); omega)) ?_
      intro V2 hV2
      refine XO.rd rfl rfl rfl (Reads.assign rfl) ?_
      refine XO.nil ?_
      refine XQ.block_normal ?_
      refine XQ.then_normal ?_
      refine XC.region ?_
      refine XO.rd rfl rfl rfl (Reads.move rfl) ?_
      refine XO.rd rfl rfl rfl (Reads.sub rfl rfl (by omega)) ?_
      rw [show (7 : Int) - (q : Int) - 1 = 7 - ((q + 1 : Nat) : Int) by omega]
      refine XO.rd rfl rfl rfl (Reads.assign rfl) ?_
      refine XO.nil ?_
      refine XQ.dropn 1 ?_
      refine XQ.back (q + 1, V2) ⟨by simp only; omega, by rw [lenB_succ, ← List.append_assoc]; exact hV2⟩ (by simp only; omega) ⟨rfl, rfl, rfl, rfl, trivial⟩ rfl (List.Perm.refl _)
    · skip
      simp only [cmpInt, decide_eq_false_iff_not] at h2
      have hq8 : q = 8 := by omega
      subst hq8
      have hVl : V.len = (pad s.data.toList).length := hV.len
      refine XC.exit ?_
      refine XQ.then_exit ?_
      refine XQ.then_exit ?_
      refine XQ.block_exit ?_
      refine XQ.then_normal ?_
      refine XC.seq ?_
      refine XC.seq ?_
      refine XC.region ?_
      refine XO.bytes_done hV (fun J1 hle1 hA => ?_)
      have hG1 : ∃ e fr, J1 0 = some (.cells (wC KR).toArray e fr) := let ⟨e, fr, h⟩ := hG; ⟨e, fr, hle1 _ _ h⟩
      refine XO.rd rfl rfl rfl (Reads.move rfl) ?_
      refine XO.callo (vs := [_, _]) (L1 := []) rfl rfl rfl en74 ⟨rfl, rfl, trivial⟩ (chunk_any _ _ _ _) (List.Perm.refl _) ?_
      rintro v' J' L' _ ⟨c2, c3, rfl, hJ', rfl⟩
      replace hJ' := hJ'.symm
      subst hJ'
      refine XO.nil ?_
      refine XQ.then_normal ?_
      refine XC.block ?_
      refine XC.rangeFunc (f := 80) (fi := #[]) (ca := #[.pointer (some ⟨c2, 0, none⟩), .pointer (some ⟨c3, 0, none⟩)]) (L1 := [some (c2, .cells #[.slice (some ⟨V.blk, 0, none⟩) V.len V.cap] 70 (0, 0)), some (c3, .cells #[.int .i64 64] 3 (0, 0)), some (b3, .cells (wC H0).toArray 105 (0, 0))]) (Lf := Lf) rfl en80 (List.Perm.refl _) (fun l D rc hR => ?_)
      let J : Nat → Own := fun j => [some (l, lp rc .ready none), some (D, .deferred (some [])), some (b3, .cells (wC (blocks (pad s.data.toList) j)).toArray 105 (0, 0))]
      refine ⟨_, FSo.perm (perm_take [2, 2]) (chunk1_any l c2 c3 (some ⟨V.blk, 0, none⟩) (pad s.data.toList) V.len V.cap ((pad s.data.toList).length / 64) J1 J (by rw [hVl]; omega) hV.le (by omega) (fun j hjR => ?_)), ?_⟩
      · skip
        refine YS.intro hR rfl rfl (fun K Lf => ?_)
        refine XC.region ?_
        refine XO.rd rfl rfl rfl (Reads.assign rfl) ?_
        refine XO.nil ?_
        refine XQ.begin ?_
        refine XC.block ?_
        refine XC.region ?_
        refine XO.rd rfl rfl rfl (Reads.move rfl) ?_
        refine XO.callo (vs := [_, _]) rfl rfl rfl en75 ⟨rfl, rfl, trivial⟩ (wadd_any b3 (blocks (pad s.data.toList) j) _ _ (((pad s.data.toList).drop (64 * j)).take 64) _ (hA.part (k := 64) (fun h => by omega)) (by rw [List.length_take, List.length_drop]; omega) (blocks_len _ _) (blocks_ws _ _) hG1) (perm_take [2]) ?_
        rintro v I' L' _ ⟨hI', rfl⟩
        replace hI' := hI'.symm
        subst hI'
        refine XO.nil ?_
        refine XQ.block_normal ?_
        refine XQ.perm (perm_take [1, 1]) ?_
        refine XQ.round_normal (L := [some (D, .deferred (some [])), some (b3, .cells (wC (comp (blocks (pad s.data.toList) j) (bg (((pad s.data.toList).drop (64 * j)).take 64)))).toArray 105 (0, 0))]) (Im.le_refl _) ?_
        exact ⟨rfl, rfl, by rw [← show blocks (pad s.data.toList) (j + 1) = comp (blocks (pad s.data.toList) j) (bg (((pad s.data.toList).drop (64 * j)).take 64)) from blocks_succ _ _]⟩
      · skip
        rintro u I4 L4 _ ⟨hI4, rfl⟩
        replace hI4 := hI4.symm
        subst hI4
        refine ⟨.ready, none, [some (c2, .cells #[.slice (some ⟨V.blk, 0, none⟩) V.len V.cap] 70 (0, 0)), some (c3, .cells #[.int .i64 64] 3 (0, 0)), some (D, .deferred (some [])), some (b3, .cells (wC (blocks (pad s.data.toList) ((pad s.data.toList).length / 64))).toArray 105 (0, 0))], perm_take [2], by simp, ?_⟩
        refine XQ.block_normal ?_
        refine XQ.then_normal ?_
        refine XC.seq ?_
        refine XC.region ?_
        refine XO.rd rfl rfl rfl (Reads.load_whole (c := (wC (blocks (pad s.data.toList) ((pad s.data.toList).length / 64))).toArray) k105 z105 rfl (WholeAt.of 3 rfl) (by simp [wC_len, blocks_len])) ?_
        refine XO.callp rfl rfl en76 (wdig_any _ _ (blocks_len _ _) (blocks_ws _ _)) ⟨rfl, trivial⟩ ?_
        refine XO.rd rfl rfl rfl (Reads.assign rfl) ?_
        refine XO.nil ?_
        refine XQ.then_normal ?_
        refine XC.ret ?_
        refine XQ.unmark 2 rfl ?_
        refine XQ.ofM ?_
        refine XQ.dropn 3 ?_
        refine XQ.done1 (L := []) rfl rfl hle1 ?_
        exact ⟨rfl, rfl⟩

end Go.Proofs.YtkjhhifhgcihpaaDoor
