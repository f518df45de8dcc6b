/- Walks: the words as bytes; parts of 64 bytes. -/
import Derived.Test.YtkjhhifhgcihpaaDoorC3
namespace Go.Proofs.YtkjhhifhgcihpaaDoor
open Go.Xe Go.Sh Go

theorem perm_mid (X : List (Option (Nat × Obj))) {a c : Option (Nat × Obj)} (Y : Own) : (a :: c :: (X ++ Y)).Perm (X ++ (a :: c :: Y)) :=
  (List.perm_middle.trans (List.Perm.cons a List.perm_middle)).symm
theorem perm_mid2 (X : List (Option (Nat × Obj))) {a c : Option (Nat × Obj)} (Y : Own) : (X ++ (a :: c :: Y)).Perm (a :: c :: (X ++ Y)) := (perm_mid X Y).symm
theorem wdig_any (h : List Nat) (I : Im) (hh : h.length = 8) (hw : Ws h) : FC Tryd.prog 76 [.agg (wC h).toArray] I (fun u I' => u = .string ⟨(outB h 8).toArray⟩ ∧ I' = I) := by
  refine FSo.intro (n := 30) Tryd.func76 rfl rfl rfl (fun K Lf => ?_)
  refine XC.seq ?_
  refine XC.region ?_
  refine XO.box_agg rfl rfl rfl (fun b1 => ?_)
  refine XO.rd rfl rfl rfl (Reads.assign rfl) ?_
  refine XO.nil ?_
  refine XQ.then_normal ?_
  refine XC.seq ?_
  refine XC.region ?_
  refine XO.alloc (cs := #[.int .u8 0, .int .u8 0, .int .u8 0, .int .u8 0, .int .u8 0, .int .u8 0, .int .u8 0, .int .u8 0, .int .u8 0, .int .u8 0, .int .u8 0, .int .u8 0, .int .u8 0, .int .u8 0, .int .u8 0, .int .u8 0, .int .u8 0, .int .u8 0, .int .u8 0, .int .u8 0, .int .u8 0, .int .u8 0, .int .u8 0, .int .u8 0, .int .u8 0, .int .u8 0, .int .u8 0, .int .u8 0, .int .u8 0, .int .u8 0, .int .u8 0, .int .u8 0]) rfl rfl zo124 rfl (fun b3 => ?_)
  refine XO.nil ?_
  refine XQ.then_normal ?_
  refine XC.seq ?_
  refine XC.seq ?_
  refine XC.region ?_
  refine XO.rd rfl rfl rfl (Reads.load_whole (c := (wC h).toArray) k105 z105 rfl (WholeAt.of 1 rfl) (by simp [wC_len, hh])) ?_
  refine XO.rd rfl rfl rfl (Reads.move rfl) ?_
  refine XO.nil ?_
  refine XQ.then_normal ?_
  refine XC.block ?_
  refine XC.loop (ι := Nat) (fun q => [(3, .pointer (some ⟨b3, 0, none⟩)), (7, .agg (wC h).toArray), (8, .int .i64 q)]) (fun q => I) (fun q => some (b3, .cells (fillD (outB h q ++ out1 (g h q) 0) 32).toArray 124 (0, 0)) :: some (b1, .cells (wC h).toArray 105 (0, 0)) :: ([] ++ Lf)) (fun q => q ≤ 8) (fun q => 8 - q) 0 (Nat.zero_le _) ⟨rfl, rfl, rfl, trivial⟩ rfl (List.Perm.refl _) (fun i hi => ?_)
  refine XC.seq ?_
  refine XC.region ?_
  refine XO.rd rfl rfl rfl (Reads.cmp rfl rfl rfl) ?_
  refine XO.nil ?_
  refine XQ.then_normal ?_
  refine XC.seq ?_
  refine XC.cond rfl (fun h1 => ?_) (fun h1 => ?_)
  · skip
    simp only [cmpInt, decide_eq_true_eq] at h1
    refine XC.skip ?_
    refine XQ.then_normal ?_
    refine XC.seq ?_
    refine XC.block ?_
    refine XC.seq ?_
    refine XC.region ?_
    refine XO.rd rfl rfl rfl (Reads.move rfl) ?_
    refine XO.rd rfl rfl rfl (Reads.index_agg (v := .int .u32 ((g h i : Nat) : Int)) Tryd.underlying105 k83 z83 rfl rfl (by omega) (wC_g (by omega))) ?_
    refine XO.rd rfl rfl rfl (Reads.assign rfl) ?_
    refine XO.rd rfl rfl rfl (Reads.assign rfl) ?_
    refine XO.nil ?_
    refine XQ.then_normal ?_
    refine XC.seq ?_
    refine XC.region ?_
    refine XO.rd rfl rfl rfl (Reads.move rfl) ?_
    refine XO.nil ?_
    refine XQ.then_normal ?_
    refine XC.block ?_
    refine XC.loop (ι := Nat) (fun q => [(3, .pointer (some ⟨b3, 0, none⟩)), (4, .int .i64 i), (5, .int .u32 ((g h i : Nat) : Int)), (7, .agg (wC h).toArray), (8, .int .i64 i), (12, .int .i64 q)]) (fun q => I) (fun q => some (b3, .cells (fillD (outB h i ++ out1 (g h i) q) 32).toArray 124 (0, 0)) :: some (b1, .cells (wC h).toArray 105 (0, 0)) :: ([] ++ Lf)) (fun q => q ≤ 4) (fun q => 4 - q) 0 (Nat.zero_le _) ⟨rfl, rfl, rfl, rfl, rfl, rfl, trivial⟩ rfl (List.Perm.refl _) (fun k hk => ?_)
    refine XC.seq ?_
    refine XC.region ?_
    refine XO.rd rfl rfl rfl (Reads.cmp rfl rfl rfl) ?_
    refine XO.nil ?_
    refine XQ.then_normal ?_
    refine XC.seq ?_
    refine XC.cond rfl (fun h2 => ?_) (fun h2 => ?_)
    · skip
      simp only [cmpInt, decide_eq_true_eq] at h2
      refine XC.skip ?_
      refine XQ.then_normal ?_
      refine XC.seq ?_
      refine XC.block ?_
      refine XC.seq ?_
      refine XC.region ?_
      refine XO.rd rfl rfl rfl (Reads.move rfl) ?_
      refine XO.rd rfl rfl rfl (Reads.assign rfl) ?_
      refine XO.nil ?_
      refine XQ.then_normal ?_
      refine XC.region ?_
      refine XO.rd rfl rfl rfl (Reads.move rfl) ?_
      refine XO.rd rfl rfl rfl (Reads.mul rfl rfl (by omega)) ?_
      refine XO.rd rfl rfl rfl (Reads.move rfl) ?_
      refine XO.rd rfl rfl rfl (Reads.add rfl rfl (by omega)) ?_
      refine XO.rd rfl rfl rfl (Reads.move rfl) ?_
      refine XO.rd rfl rfl rfl (Reads.move rfl) ?_
      refine XO.rd rfl rfl rfl (Reads.mul rfl rfl (by omega)) ?_
      refine XO.rd rfl rfl rfl (Reads.sub rfl rfl (by omega)) ?_
      rw [show (24 : Int) - 8 * (k : Int) = ((24 - 8 * k : Nat) : Int) by omega]
      refine XO.rd rfl rfl rfl (Reads.shrn rfl rfl (by show 24 - 8 * k ≤ 32; omega)) ?_
      refine XO.rd rfl rfl rfl (Reads.convu Tryd.underlying83 rfl Tryd.underlying5 rfl rfl) ?_
      refine XO.rd rfl rfl rfl (Reads.index_arr_own (q := 4 * i + k) Tryd.underlying124 z5 rfl rfl (by omega) (by omega)) ?_
      refine XO.store 0 rfl z5 rfl rfl rfl rfl (by simp [fillD, byteC_len, outB_len, out1_len]; omega) ?_
      refine XO.own_eq (congrArg (fun c => some (b3, Obj.cells c 124 (0, 0)) :: _) (dig_step (by omega) (by omega))) ?_
      refine XO.nil ?_
      refine XQ.block_normal ?_
      refine XQ.then_normal ?_
      refine XC.region ?_
      refine XO.rd rfl rfl rfl (Reads.add rfl rfl (by omega)) ?_
      refine XO.rd rfl rfl rfl (Reads.move rfl) ?_
      refine XO.nil ?_
      refine XQ.back (k + 1) (by omega) (by omega) ⟨rfl, rfl, rfl, rfl, rfl, rfl, trivial⟩ rfl (List.Perm.refl _)
    · skip
      simp only [cmpInt, decide_eq_false_iff_not] at h2
      have hk4 : k = 4 := by omega
      subst hk4
      refine XC.exit ?_
      refine XQ.then_exit ?_
      refine XQ.then_exit ?_
      refine XQ.block_exit ?_
      refine XQ.block_normal ?_
      refine XQ.then_normal ?_
      refine XC.region ?_
      refine XO.rd rfl rfl rfl (Reads.add rfl rfl (by omega)) ?_
      refine XO.rd rfl rfl rfl (Reads.move rfl) ?_
      refine XO.nil ?_
      rw [show outB h i ++ out1 (g h i) 4 = outB h (i + 1) ++ out1 (g h (i + 1)) 0 by rw [outB_succ]; simp [out1]]
      refine XQ.back (i + 1) (by omega) (by omega) ⟨rfl, rfl, rfl, trivial⟩ rfl (List.Perm.refl _)
  · skip
    simp only [cmpInt, decide_eq_false_iff_not] at h1
    have hi8 : i = 8 := by omega
    subst hi8
    refine XC.exit ?_
    refine XQ.then_exit ?_
    refine XQ.then_exit ?_
    refine XQ.block_exit ?_
    refine XQ.then_normal ?_
    refine XC.seq ?_
    refine XC.region ?_
    refine XO.rd rfl rfl rfl (Reads.slice_arr 0 32 Tryd.underlying124 z5 rfl rfl rfl (by decide) (by decide) (by decide)) ?_
    refine XO.rd rfl rfl rfl (Reads.to_string (bs := outB h 8) Tryd.underlying70 Tryd.underlying5 Tryd.underlying9 rfl (by rw [outB_len]) (readable_row 0 rfl (by rw [List.toList_toArray, fillD_full (by simp [outB_len, out1]), show out1 (g h 8) 0 = [] from rfl, List.append_nil]; exact List.take_of_length_le (by simp)))) ?_
    refine XO.rd rfl rfl rfl (Reads.assign rfl) ?_
    refine XO.nil ?_
    refine XQ.then_normal ?_
    refine XC.ret ?_
    refine XQ.dropn 2 ?_
    refine XQ.done1 (L := []) rfl rfl (Im.le_refl _) ?_
    exact ⟨rfl, rfl, rfl⟩

theorem chunk_any (p : Option Addr) (n cap : Nat) (I : Im) : FSo Tryd.prog 74 [.slice p n cap, .int .i64 64] I [] (fun u I' L' => ∃ b2 b3, u = .func (.func 80) #[] #[.pointer (some ⟨b2, 0, none⟩), .pointer (some ⟨b3, 0, none⟩)] ∧ I' = I ∧ L' = [some (b2, .cells #[.slice p n cap] 70 (0, 0)), some (b3, .cells #[.int .i64 64] 3 (0, 0))]) := by
  refine FSo.intro (n := 9) Tryd.func74 rfl rfl rfl (fun K Lf => ?_)
  refine XC.seq ?_
  refine XC.region ?_
  refine XO.box1 rfl rfl rfl rfl (fun b2 => ?_)
  refine XO.box1 rfl rfl rfl rfl (fun b3 => ?_)
  refine XO.rd rfl rfl rfl (Reads.assign rfl) ?_
  refine XO.nil ?_
  refine XQ.then_normal ?_
  refine XC.seq ?_
  refine XC.seq ?_
  refine XC.region ?_
  refine XO.rd rfl rfl rfl (Reads.load_own k3 rfl (by first | exact OwnAt.of 0 rfl rfl | exact OwnAt.of 1 rfl rfl | exact OwnAt.of 2 rfl rfl | exact OwnAt.of 3 rfl rfl | exact OwnAt.of 4 rfl rfl | exact OwnAt.of 5 rfl rfl)) ?_
  refine XO.rd rfl rfl rfl (Reads.cmp rfl rfl rfl) ?_
  rw [show cmpInt .lss 64 1 = false from rfl]
  refine XO.nil ?_
  refine XQ.then_normal ?_
  refine XC.cond rfl (fun hx => by cases hx) (fun _ => ?_)
  refine XC.skip ?_
  refine XQ.then_normal ?_
  refine XC.seq ?_
  refine XC.region ?_
  refine XO.rd rfl rfl rfl (Reads.makeFunc (fi := []) (fv := []) (ca := [.tmp 2, .tmp 3]) (cv := [_, _]) trivial ⟨rfl, rfl, trivial⟩) ?_
  refine XO.rd rfl rfl rfl (Reads.assign rfl) ?_
  refine XO.nil ?_
  refine XQ.then_normal ?_
  refine XC.ret ?_
  refine XQ.perm (L' := [some (b2, .cells #[.slice p n cap] 70 (0, 0)), some (b3, .cells #[.int .i64 64] 3 (0, 0))] ++ Lf) (List.Perm.swap _ _ _) ?_
  refine XQ.done1 rfl rfl (Im.le_refl _) ?_
  exact ⟨b2, b3, rfl, rfl, rfl⟩

theorem chunk1_any (l b2 b3 : Nat) (p : Option Addr) (bs : List UInt8) (n cap R : Nat) (I : Im) (J : Nat → Own) (hn : n = 64 * R) (hcap : n ≤ cap) (hR : R ≤ 100000000) (hy : ∀ j, j < R → YS Tryd.prog l [.slice (cutA p (64 * j + 64) (64 * j) 1) 64 64] I (J j) (fun b I' L' => b = true ∧ I' = I ∧ L' = J (j + 1))) : FSo Tryd.prog 80 [.func (.yield l) #[] #[], .pointer (some ⟨b2, 0, none⟩), .pointer (some ⟨b3, 0, none⟩)] I (some (b2, .cells #[.slice p n cap] 70 (0, 0)) :: some (b3, .cells #[.int .i64 64] 3 (0, 0)) :: J 0) (fun u I' L' => I' = I ∧ L' = some (b2, .cells #[.slice p n cap] 70 (0, 0)) :: some (b3, .cells #[.int .i64 64] 3 (0, 0)) :: J R) := by
  refine FSo.intro (n := 31) Tryd.func80 rfl rfl rfl (fun K Lf => ?_)
  refine XC.seq ?_
  refine XC.region ?_
  refine XO.rd rfl rfl rfl (Reads.assign rfl) ?_
  refine XO.nil ?_
  refine XQ.then_normal ?_
  refine XC.block ?_
  refine XC.loop (ι := Nat) (fun q => [(0, .func (.yield l) #[] #[]), (1, .pointer (some ⟨b2, 0, none⟩)), (2, .pointer (some ⟨b3, 0, none⟩)), (4, .int .i64 ((64 * q : Nat) : Int))]) (fun q => I) (fun q => some (b2, .cells #[.slice p n cap] 70 (0, 0)) :: some (b3, .cells #[.int .i64 64] 3 (0, 0)) :: (J q ++ Lf)) (fun q => q ≤ R) (fun q => R - q) 0 (Nat.zero_le _) ⟨rfl, rfl, rfl, rfl, trivial⟩ rfl (List.Perm.refl _) (fun j hj => ?_)
  refine XC.seq ?_
  refine XC.seq ?_
  refine XC.region ?_
  refine XO.rd rfl rfl rfl (Reads.move rfl) ?_
  refine XO.rd rfl rfl rfl (Reads.load_own k70 rfl (by first | exact OwnAt.of 0 rfl rfl | exact OwnAt.of 1 rfl rfl | exact OwnAt.of 2 rfl rfl | exact OwnAt.of 3 rfl rfl)) ?_
  refine XO.rd rfl rfl rfl (Reads.len_slice Tryd.underlying70 rfl) ?_
  refine XO.rd rfl rfl rfl (Reads.cmp rfl rfl rfl) ?_
  refine XO.nil ?_
  refine XQ.then_normal ?_
  refine XC.cond rfl (fun h1 => ?_) (fun h1 => ?_)
  · skip
    simp only [cmpInt, decide_eq_true_eq] at h1
    refine XC.skip ?_
    refine XQ.then_normal ?_
    refine XC.seq ?_
    refine XC.block ?_
    refine XC.seq ?_
    refine XC.draw m_mixed none (.pure 0 (.pure 1 (.pure 2 (.pure 3 (.pure 4 (.pure 5 (.pure 6 (.done)))))))) _ (by kernel_rfl) (List.Sublist.refl _) ?_
    refine XR.rd rfl rfl rfl (Reads.load_own k3 rfl (by first | exact OwnAt.of 0 rfl rfl | exact OwnAt.of 1 rfl rfl | exact OwnAt.of 2 rfl rfl | exact OwnAt.of 3 rfl rfl)) ?_
    refine XR.rd rfl rfl rfl (Reads.load_own k70 rfl (by first | exact OwnAt.of 0 rfl rfl | exact OwnAt.of 1 rfl rfl | exact OwnAt.of 2 rfl rfl | exact OwnAt.of 3 rfl rfl)) ?_
    refine XR.rd rfl rfl rfl (Reads.move rfl) ?_
    refine XR.rd rfl rfl rfl (Reads.slice_gen (64 * j) n cap Tryd.underlying70 z5 rfl ⟨_, rfl⟩ rfl rfl (fun _ => rfl) (by omega) (by omega) (by omega)) ?_
    refine XR.rd rfl rfl rfl (Reads.len_slice Tryd.underlying70 rfl) ?_
    refine XR.rd rfl rfl rfl (Reads.min rfl rfl) ?_
    rw [show min (64 : Int) ((n - 64 * j : Nat) : Int) = 64 by omega]
    refine XR.rd rfl rfl rfl (Reads.assign rfl) ?_
    refine XR.nil ?_
    refine XQ.then_normal ?_
    refine XC.seq ?_
    refine XC.region ?_
    refine XO.rd rfl rfl rfl (Reads.move rfl) ?_
    refine XO.rd rfl rfl rfl (Reads.load_own k70 rfl (by first | exact OwnAt.of 0 rfl rfl | exact OwnAt.of 1 rfl rfl | exact OwnAt.of 2 rfl rfl | exact OwnAt.of 3 rfl rfl)) ?_
    refine XO.rd rfl rfl rfl (Reads.move rfl) ?_
    refine XO.rd rfl rfl rfl (Reads.move rfl) ?_
    refine XO.rd rfl rfl rfl (Reads.move rfl) ?_
    refine XO.rd rfl rfl rfl (Reads.add rfl rfl (by omega)) ?_
    rw [show ((64 * j : Nat) : Int) + 64 = ((64 * j + 64 : Nat) : Int) by omega]
    refine XO.rd rfl rfl rfl (Reads.move rfl) ?_
    refine XO.rd rfl rfl rfl (Reads.move rfl) ?_
    refine XO.rd rfl rfl rfl (Reads.add rfl rfl (by omega)) ?_
    rw [show ((64 * j : Nat) : Int) + 64 = ((64 * j + 64 : Nat) : Int) by omega]
    refine XO.rd rfl rfl rfl (Reads.slice_gen (64 * j) (64 * j + 64) (64 * j + 64) Tryd.underlying70 z5 rfl ⟨_, rfl⟩ ⟨_, rfl⟩ ⟨_, rfl⟩ (fun h => by cases h) (by omega) (by omega) (by omega)) ?_
    rw [show 64 * j + 64 - 64 * j = 64 by omega]
    refine XO.yield (vs := [_]) (L1 := J j) (Lf := some (b2, .cells #[.slice p n cap] 70 (0, 0)) :: some (b3, .cells #[.int .i64 64] 3 (0, 0)) :: Lf) rfl rfl rfl ⟨rfl, trivial⟩ (hy j (by omega)) (perm_mid _ _) ?_
    rintro y I2 L2 _ ⟨rfl, hI2, rfl⟩
    replace hI2 := hI2.symm
    subst hI2
    refine XO.perm (perm_mid2 _ _) ?_
    refine XO.rd rfl rfl rfl (Reads.not rfl) ?_
    refine XO.nil ?_
    refine XQ.then_normal ?_
    refine XC.cond rfl (fun hx => by cases hx) (fun _ => ?_)
    refine XC.skip ?_
    refine XQ.block_normal ?_
    refine XQ.then_normal ?_
    refine XC.region ?_
    refine XO.rd rfl rfl rfl (Reads.move rfl) ?_
    refine XO.rd rfl rfl rfl (Reads.load_own k3 rfl (by first | exact OwnAt.of 0 rfl rfl | exact OwnAt.of 1 rfl rfl | exact OwnAt.of 2 rfl rfl | exact OwnAt.of 3 rfl rfl)) ?_
    refine XO.rd rfl rfl rfl (Reads.add rfl rfl (by omega)) ?_
    rw [show ((64 * j : Nat) : Int) + 64 = ((64 * (j + 1) : Nat) : Int) by omega]
    refine XO.rd rfl rfl rfl (Reads.assign rfl) ?_
    refine XO.nil ?_
    refine XQ.back (j + 1) (by omega) (by omega) ⟨rfl, rfl, rfl, rfl, trivial⟩ rfl (List.Perm.refl _)
  · skip
    simp only [cmpInt, decide_eq_false_iff_not] at h1
    have hjR : j = R := by omega
    subst hjR
    refine XC.exit ?_
    refine XQ.then_exit ?_
    refine XQ.then_exit ?_
    refine XQ.block_exit ?_
    refine XQ.done_normal ?_
    refine XQ.done0 (L := some (b2, .cells #[.slice p n cap] 70 (0, 0)) :: some (b3, .cells #[.int .i64 64] 3 (0, 0)) :: J j) rfl (Im.le_refl _) ?_
    exact ⟨rfl, rfl⟩

end Go.Proofs.YtkjhhifhgcihpaaDoor
