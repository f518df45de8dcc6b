/- Walks: the inputs of the laws. -/
import Derived.Test.YtkjhhifhgcihpaaDoorC10
import Derived.Test.YtkjhhifhgcihpaaDoorK1
namespace Go.Proofs.YtkjhhifhgcihpaaDoor
open Go.Xe Go.Sh Go Go.Lk

theorem pickR_any (c n : Int) (I : Im) (hc : -9223372036854775808 ≤ c ∧ c ≤ 9223372036854775807) (hn : 0 < n) : FC Tryd.prog 45 [.int .i64 c, .int .i64 n] I (fun u I' => u = .int .i64 (pickI c n) ∧ I' = I) := by
  refine FSo.intro (n := 13) Tryd.func45 rfl rfl rfl (fun K Lf => ?_)
  refine XC.seq ?_
  refine XC.region ?_
  refine XO.rd rfl rfl rfl (Reads.assign rfl) ?_
  refine XO.nil ?_
  refine XQ.then_normal ?_
  refine XC.seq ?_
  refine XC.seq ?_
  refine XC.region ?_
  refine XO.rd rfl rfl rfl (Reads.move rfl) ?_
  refine XO.rd rfl rfl rfl (Reads.cmp rfl rfl rfl) ?_
  refine XO.nil ?_
  refine XQ.then_normal ?_
  refine XC.cond rfl (fun h1 => ?_) (fun h1 => ?_)
  · skip
    simp [cmpInt] at h1
    refine XC.region ?_
    refine XO.rd rfl rfl rfl (Reads.move rfl) ?_
    refine XO.rd rfl rfl rfl (Reads.add rfl rfl (by omega)) ?_
    refine XO.rd rfl rfl rfl (Reads.neg rfl (by omega)) ?_
    refine XO.rd rfl rfl rfl (Reads.assign rfl) ?_
    refine XO.nil ?_
    refine XQ.then_normal ?_
    refine XC.seq ?_
    refine XC.region ?_
    refine XO.rd rfl rfl rfl (Reads.move rfl) ?_
    refine XO.rd rfl rfl rfl (Reads.move rfl) ?_
    refine XO.rd rfl rfl rfl (Reads.rem rfl rfl (by omega) (by omega)) ?_
    refine XO.rd rfl rfl rfl (Reads.assign rfl) ?_
    refine XO.nil ?_
    refine XQ.then_normal ?_
    refine XC.ret ?_
    refine XQ.done1 rfl rfl (Im.le_refl _) ?_
    exact ⟨rfl, by simp only [pickI]; rw [if_pos (by omega)], rfl⟩
  · skip
    simp [cmpInt] at h1
    refine XC.skip ?_
    refine XQ.then_normal ?_
    refine XC.seq ?_
    refine XC.region ?_
    refine XO.rd rfl rfl rfl (Reads.move rfl) ?_
    refine XO.rd rfl rfl rfl (Reads.move rfl) ?_
    refine XO.rd rfl rfl rfl (Reads.rem rfl rfl (by omega) (by omega)) ?_
    refine XO.rd rfl rfl rfl (Reads.assign rfl) ?_
    refine XO.nil ?_
    refine XQ.then_normal ?_
    refine XC.ret ?_
    refine XQ.done1 rfl rfl (Im.le_refl _) ?_
    exact ⟨rfl, by simp only [pickI]; rw [if_neg (by omega)], rfl⟩

theorem pickL_any (c n : Int) (I : Im) (hc : -9223372036854775808 ≤ c ∧ c ≤ 9223372036854775807) (hn : 0 < n) : FC Tryd.prog 18 [.int .i64 c, .int .i64 n] I (fun u I' => u = .int .i64 (pickI c n) ∧ I' = I) := by
  refine FSo.intro (n := 13) Tryd.func18 rfl rfl rfl (fun K Lf => ?_)
  refine XC.seq ?_
  refine XC.region ?_
  refine XO.rd rfl rfl rfl (Reads.assign rfl) ?_
  refine XO.nil ?_
  refine XQ.then_normal ?_
  refine XC.seq ?_
  refine XC.seq ?_
  refine XC.region ?_
  refine XO.rd rfl rfl rfl (Reads.move rfl) ?_
  refine XO.rd rfl rfl rfl (Reads.cmp rfl rfl rfl) ?_
  refine XO.nil ?_
  refine XQ.then_normal ?_
  refine XC.cond rfl (fun h1 => ?_) (fun h1 => ?_)
  · skip
    simp [cmpInt] at h1
    refine XC.region ?_
    refine XO.rd rfl rfl rfl (Reads.move rfl) ?_
    refine XO.rd rfl rfl rfl (Reads.add rfl rfl (by omega)) ?_
    refine XO.rd rfl rfl rfl (Reads.neg rfl (by omega)) ?_
    refine XO.rd rfl rfl rfl (Reads.assign rfl) ?_
    refine XO.nil ?_
    refine XQ.then_normal ?_
    refine XC.seq ?_
    refine XC.region ?_
    refine XO.rd rfl rfl rfl (Reads.move rfl) ?_
    refine XO.rd rfl rfl rfl (Reads.move rfl) ?_
    refine XO.rd rfl rfl rfl (Reads.rem rfl rfl (by omega) (by omega)) ?_
    refine XO.rd rfl rfl rfl (Reads.assign rfl) ?_
    refine XO.nil ?_
    refine XQ.then_normal ?_
    refine XC.ret ?_
    refine XQ.done1 rfl rfl (Im.le_refl _) ?_
    exact ⟨rfl, by simp only [pickI]; rw [if_pos (by omega)], rfl⟩
  · skip
    simp [cmpInt] at h1
    refine XC.skip ?_
    refine XQ.then_normal ?_
    refine XC.seq ?_
    refine XC.region ?_
    refine XO.rd rfl rfl rfl (Reads.move rfl) ?_
    refine XO.rd rfl rfl rfl (Reads.move rfl) ?_
    refine XO.rd rfl rfl rfl (Reads.rem rfl rfl (by omega) (by omega)) ?_
    refine XO.rd rfl rfl rfl (Reads.assign rfl) ?_
    refine XO.nil ?_
    refine XQ.then_normal ?_
    refine XC.ret ?_
    refine XQ.done1 rfl rfl (Im.le_refl _) ?_
    exact ⟨rfl, by simp only [pickI]; rw [if_neg (by omega)], rfl⟩

theorem key_any (n : Int) (I : Im) (hn : (-9223372036854775808 ≤ n ∧ n ≤ 9223372036854775807)) : FC Tryd.prog 17 [.int .i64 n] I (fun u I' => u = .string (keyB n) ∧ I' = I) := by
  have hp2 := pickI_range (c := n) (n := 2) (by omega)
  refine FSo.intro (n := 9) Tryd.func17 rfl rfl rfl (fun K Lf => ?_)
  refine XC.seq ?_
  refine XC.region ?_
  refine XO.rd rfl rfl rfl (Reads.assign rfl) ?_
  refine XO.nil ?_
  refine XQ.then_normal ?_
  refine XC.seq ?_
  refine XC.region ?_
  refine XO.rd rfl rfl rfl (Reads.move rfl) ?_
  refine XO.callp rfl rfl en45 (pickR_any n 2 _ hn (by decide)) ⟨rfl, rfl, trivial⟩ ?_
  refine XO.rd rfl rfl rfl (Reads.conv Tryd.underlying3 rfl Tryd.underlying5 rfl) ?_
  rw [u8_wrap (z := pickI n 2) (by omega)]
  refine XO.buildL [.int .u8 ((101 : Nat) : Int), .int .u8 (((UInt8.ofNat (pickI n 2).toNat).toNat : Nat) : Int)] [.int .u8 ((101 : Nat) : Int), .int .u8 (((UInt8.ofNat (pickI n 2).toNat).toNat : Nat) : Int)] rfl rfl Tryd.underlying70 el5 rfl (by simp) ⟨rfl, rfl, rfl, rfl, trivial⟩ rfl rfl (fun bu => ?_)
  refine XO.rd rfl rfl rfl (Reads.to_string (bs := [101, (UInt8.ofNat (pickI n 2).toNat)]) Tryd.underlying70 Tryd.underlying5 Tryd.underlying9 rfl rfl (readable_row 0 rfl rfl)) ?_
  refine XO.callp rfl rfl en44 (FC.pure (rsum_all ⟨#[101, (UInt8.ofNat (pickI n 2).toNat)]⟩ _ (by show 2 ≤ _; decide))) ⟨rfl, trivial⟩ ?_
  refine XO.rd rfl rfl rfl (Reads.assign rfl) ?_
  refine XO.nil ?_
  refine XQ.then_normal ?_
  refine XC.ret ?_
  refine XQ.dropn 1 ?_
  refine XQ.done1 (L := []) rfl rfl (Im.le_refl _) ?_
  exact ⟨rfl, rfl, rfl⟩

theorem body_any (n : Int) (I : Im) (hn : (-9223372036854775808 ≤ n ∧ n ≤ 9223372036854775807)) : FC Tryd.prog 19 [.int .i64 n] I (fun u I' => u = .string (bodyB n) ∧ I' = I) := by
  have hp1 := pickI_range (c := n) (n := 26) (by omega)
  have hp2 := pickI_range (c := n.tdiv 26) (n := 26) (by omega)
  have hp3 := pickI_range (c := n.tdiv 7) (n := 3) (by omega)
  have hm1 := in64_tdiv (n := 26) hn (by decide)
  have hm2 := in64_tdiv (n := 7) hn (by decide)
  refine FSo.intro (n := 18) Tryd.func19 rfl rfl rfl (fun K Lf => ?_)
  refine XC.seq ?_
  refine XC.region ?_
  refine XO.rd rfl rfl rfl (Reads.assign rfl) ?_
  refine XO.nil ?_
  refine XQ.then_normal ?_
  refine XC.seq ?_
  refine XC.draw m_mixed none (.pure 0 (.pure 4 (.pure 5 (.pure 11 (.pure 12 (.eff 1 (.pure 2 (.pure 3 (.eff 6 (.pure 7 (.pure 8 (.alt 9 (.alt 10 (.eff 13 (.pure 14 (.pure 15 (.done)))) (.eff 13 (.eff 10 (.pure 14 (.pure 15 (.done)))))) (.eff 13 (.eff 9 (.eff 10 (.pure 14 (.pure 15 (.done)))))))))))))))))) _ (by kernel_rfl) (List.Sublist.refl _) ?_
  refine XR.rd rfl rfl rfl (Reads.move rfl) ?_
  refine XR.rd rfl rfl rfl (Reads.move rfl) ?_
  refine XR.rd rfl rfl rfl (Reads.tdiv rfl rfl hn (by decide)) ?_
  refine XR.rd rfl rfl rfl (Reads.move rfl) ?_
  refine XR.rd rfl rfl rfl (Reads.tdiv rfl rfl hn (by decide)) ?_
  refine XR.callp rfl rfl rfl en45 (pickR_any n 26 _ hn (by decide)) ⟨rfl, rfl, trivial⟩ (List.Sublist.refl _) ?_
  refine XR.rd rfl rfl rfl (Reads.add rfl rfl (by omega)) ?_
  refine XR.rd rfl rfl rfl (Reads.conv Tryd.underlying3 rfl Tryd.underlying5 rfl) ?_
  rw [u8_wrap (z := 97 + pickI n 26) (by omega), show (97 + pickI n 26).toNat = 97 + (pickI n 26).toNat by omega]
  refine XR.callp rfl rfl rfl en45 (pickR_any _ 26 _ hm1 (by decide)) ⟨rfl, rfl, trivial⟩ (List.Sublist.refl _) ?_
  refine XR.rd rfl rfl rfl (Reads.add rfl rfl (by omega)) ?_
  refine XR.rd rfl rfl rfl (Reads.conv Tryd.underlying3 rfl Tryd.underlying5 rfl) ?_
  rw [u8_wrap (z := 97 + pickI (n.tdiv 26) 26) (by omega), show (97 + pickI (n.tdiv 26) 26).toNat = 97 + (pickI (n.tdiv 26) 26).toNat by omega]
  refine XR.alt ?_ ?_
  · skip
    refine XR.buildL [.int .u8 (((UInt8.ofNat (97 + (pickI n 26).toNat)).toNat : Nat) : Int), .int .u8 (((UInt8.ofNat (97 + (pickI (n.tdiv 26) 26).toNat)).toNat : Nat) : Int)] [.int .u8 (((UInt8.ofNat (97 + (pickI n 26).toNat)).toNat : Nat) : Int), .int .u8 (((UInt8.ofNat (97 + (pickI (n.tdiv 26) 26).toNat)).toNat : Nat) : Int)] rfl rfl rfl Tryd.underlying70 el5 rfl (by simp) ⟨rfl, rfl, rfl, rfl, trivial⟩ rfl rfl (List.Sublist.refl _) (fun bu => ?_)
    refine XR.alt ?_ ?_
    · skip
      refine XR.rde rfl rfl rfl rfl (Reads.to_string (bs := [(UInt8.ofNat (97 + (pickI n 26).toNat)), (UInt8.ofNat (97 + (pickI (n.tdiv 26) 26).toNat))]) Tryd.underlying70 Tryd.underlying5 Tryd.underlying9 rfl rfl (readable_row 0 rfl rfl)) (List.Sublist.cons _ (List.Sublist.refl _)) ?_
      refine XR.callp rfl rfl rfl en45 (pickR_any _ 3 _ hm2 (by decide)) ⟨rfl, rfl, trivial⟩ (List.Sublist.cons _ (List.Sublist.refl _)) ?_
      rw [show pickI (n.tdiv 7) 3 = (((pickI (n.tdiv 7) 3).toNat : Nat) : Int) by omega]
      refine XR.rd rfl rfl rfl (Reads.sslice_to Tryd.underlying9 rfl rfl (by show _ ≤ 2; omega)) ?_
      refine XR.rd rfl rfl rfl (Reads.assign rfl) ?_
      refine XR.nil ?_
      refine XQ.then_normal ?_
      refine XC.ret ?_
      refine XQ.dropn 1 ?_
      refine XQ.done1 (L := []) rfl rfl (Im.le_refl _) ?_
      exact ⟨rfl, rfl, rfl⟩
    · skip
      refine XR.callp rfl rfl rfl en45 (pickR_any _ 3 _ hm2 (by decide)) ⟨rfl, rfl, trivial⟩ (List.Sublist.cons _ (List.Sublist.refl _)) ?_
      refine XR.rde rfl rfl rfl rfl (Reads.to_string (bs := [(UInt8.ofNat (97 + (pickI n 26).toNat)), (UInt8.ofNat (97 + (pickI (n.tdiv 26) 26).toNat))]) Tryd.underlying70 Tryd.underlying5 Tryd.underlying9 rfl rfl (readable_row 0 rfl rfl)) (List.Sublist.cons _ (List.Sublist.refl _)) ?_
      rw [show pickI (n.tdiv 7) 3 = (((pickI (n.tdiv 7) 3).toNat : Nat) : Int) by omega]
      refine XR.rd rfl rfl rfl (Reads.sslice_to Tryd.underlying9 rfl rfl (by show _ ≤ 2; omega)) ?_
      refine XR.rd rfl rfl rfl (Reads.assign rfl) ?_
      refine XR.nil ?_
      refine XQ.then_normal ?_
      refine XC.ret ?_
      refine XQ.dropn 1 ?_
      refine XQ.done1 (L := []) rfl rfl (Im.le_refl _) ?_
      exact ⟨rfl, rfl, rfl⟩
  · skip
    refine XR.callp rfl rfl rfl en45 (pickR_any _ 3 _ hm2 (by decide)) ⟨rfl, rfl, trivial⟩ (List.Sublist.refl _) ?_
    refine XR.buildL [.int .u8 (((UInt8.ofNat (97 + (pickI n 26).toNat)).toNat : Nat) : Int), .int .u8 (((UInt8.ofNat (97 + (pickI (n.tdiv 26) 26).toNat)).toNat : Nat) : Int)] [.int .u8 (((UInt8.ofNat (97 + (pickI n 26).toNat)).toNat : Nat) : Int), .int .u8 (((UInt8.ofNat (97 + (pickI (n.tdiv 26) 26).toNat)).toNat : Nat) : Int)] rfl rfl rfl Tryd.underlying70 el5 rfl (by simp) ⟨rfl, rfl, rfl, rfl, trivial⟩ rfl rfl (List.Sublist.refl _) (fun bu => ?_)
    refine XR.rde rfl rfl rfl rfl (Reads.to_string (bs := [(UInt8.ofNat (97 + (pickI n 26).toNat)), (UInt8.ofNat (97 + (pickI (n.tdiv 26) 26).toNat))]) Tryd.underlying70 Tryd.underlying5 Tryd.underlying9 rfl rfl (readable_row 0 rfl rfl)) (List.Sublist.cons _ (List.Sublist.refl _)) ?_
    rw [show pickI (n.tdiv 7) 3 = (((pickI (n.tdiv 7) 3).toNat : Nat) : Int) by omega]
    refine XR.rd rfl rfl rfl (Reads.sslice_to Tryd.underlying9 rfl rfl (by show _ ≤ 2; omega)) ?_
    refine XR.rd rfl rfl rfl (Reads.assign rfl) ?_
    refine XR.nil ?_
    refine XQ.then_normal ?_
    refine XC.ret ?_
    refine XQ.dropn 1 ?_
    refine XQ.done1 (L := []) rfl rfl (Im.le_refl _) ?_
    exact ⟨rfl, rfl, rfl⟩

theorem content_any (p : Pkt) (I : Im) (hp : p.In) : FC Tryd.prog 52 [.agg #[.int .i64 p.ser, .int .i64 p.ack, .string p.body, .string p.sl]] I (fun u I' => u = .string (content p) ∧ I' = I) := by
  have hpb := hp.body
  have h1 := putX_size 8
  have h2 := putX_size p.ser
  have h3 := putX_size p.ack
  have h4 := putS_size p.body
  refine FSo.intro (n := 40) Tryd.func52 rfl rfl rfl (fun K Lf => ?_)
  refine XC.seq ?_
  refine XC.region ?_
  refine XO.box_agg rfl rfl rfl (fun b1 => ?_)
  refine XO.rd rfl rfl rfl (Reads.assign rfl) ?_
  refine XO.nil ?_
  refine XQ.then_normal ?_
  refine XC.seq ?_
  refine XC.region ?_
  refine XO.callp rfl rfl en62 (rputInt_any 8 _) ⟨rfl, trivial⟩ ?_
  refine XO.rd rfl rfl rfl (Reads.move rfl) ?_
  refine XO.rd rfl rfl rfl (Reads.extract rfl rfl) ?_
  refine XO.rd rfl rfl rfl (Reads.extract rfl rfl) ?_
  refine XO.rd rfl rfl rfl (Reads.assign rfl) ?_
  refine XO.rd rfl rfl rfl (Reads.assign rfl) ?_
  refine XO.nil ?_
  refine XQ.then_normal ?_
  refine XC.seq ?_
  refine XC.region ?_
  refine XO.rd rfl rfl rfl (fa24_0 rfl) ?_
  refine XO.rd rfl rfl rfl (Reads.load_own k3 rfl (by first | exact OwnAt.of 0 rfl rfl | exact OwnAt.of 1 rfl rfl | exact OwnAt.of 2 rfl rfl | exact OwnAt.of 3 rfl rfl | exact OwnAt.of 4 rfl rfl | exact OwnAt.of 5 rfl rfl)) ?_
  refine XO.callp rfl rfl en62 (rputInt_any p.ser _) ⟨rfl, trivial⟩ ?_
  refine XO.rd rfl rfl rfl (Reads.move rfl) ?_
  refine XO.rd rfl rfl rfl (Reads.extract rfl rfl) ?_
  refine XO.rd rfl rfl rfl (Reads.extract rfl rfl) ?_
  refine XO.rd rfl rfl rfl (Reads.assign rfl) ?_
  refine XO.rd rfl rfl rfl (Reads.assign rfl) ?_
  refine XO.nil ?_
  refine XQ.then_normal ?_
  refine XC.seq ?_
  refine XC.region ?_
  refine XO.rd rfl rfl rfl (fa24_1 rfl) ?_
  refine XO.rd rfl rfl rfl (Reads.load_own k3 rfl (by first | exact OwnAt.of 0 rfl rfl | exact OwnAt.of 1 rfl rfl | exact OwnAt.of 2 rfl rfl | exact OwnAt.of 3 rfl rfl | exact OwnAt.of 4 rfl rfl | exact OwnAt.of 5 rfl rfl)) ?_
  refine XO.callp rfl rfl en62 (rputInt_any p.ack _) ⟨rfl, trivial⟩ ?_
  refine XO.rd rfl rfl rfl (Reads.move rfl) ?_
  refine XO.rd rfl rfl rfl (Reads.extract rfl rfl) ?_
  refine XO.rd rfl rfl rfl (Reads.extract rfl rfl) ?_
  refine XO.rd rfl rfl rfl (Reads.assign rfl) ?_
  refine XO.rd rfl rfl rfl (Reads.assign rfl) ?_
  refine XO.nil ?_
  refine XQ.then_normal ?_
  refine XC.seq ?_
  refine XC.region ?_
  refine XO.rd rfl rfl rfl (fa24_2 rfl) ?_
  refine XO.rd rfl rfl rfl (Reads.load_own k9 rfl (by first | exact OwnAt.of 0 rfl rfl | exact OwnAt.of 1 rfl rfl | exact OwnAt.of 2 rfl rfl | exact OwnAt.of 3 rfl rfl | exact OwnAt.of 4 rfl rfl | exact OwnAt.of 5 rfl rfl)) ?_
  refine XO.callp rfl rfl en63 (rputString_any p.body _ (by omega)) ⟨rfl, trivial⟩ ?_
  refine XO.rd rfl rfl rfl (Reads.move rfl) ?_
  refine XO.rd rfl rfl rfl (Reads.extract rfl rfl) ?_
  refine XO.rd rfl rfl rfl (Reads.extract rfl rfl) ?_
  refine XO.rd rfl rfl rfl (Reads.assign rfl) ?_
  refine XO.rd rfl rfl rfl (Reads.assign rfl) ?_
  refine XO.nil ?_
  refine XQ.then_normal ?_
  refine XC.seq ?_
  refine XC.region ?_
  refine XO.rd rfl rfl rfl (Reads.move rfl) ?_
  refine XO.rd rfl rfl rfl (Reads.move rfl) ?_
  refine XO.rd rfl rfl rfl (Reads.sadd rfl rfl (by omega)) ?_
  refine XO.rd rfl rfl rfl (Reads.move rfl) ?_
  refine XO.rd rfl rfl rfl (Reads.sadd rfl rfl (by rw [ByteArray.size_append]; omega)) ?_
  refine XO.rd rfl rfl rfl (Reads.move rfl) ?_
  refine XO.rd rfl rfl rfl (Reads.sadd rfl rfl (by rw [ByteArray.size_append, ByteArray.size_append]; omega)) ?_
  refine XO.rd rfl rfl rfl (Reads.assign rfl) ?_
  refine XO.nil ?_
  refine XQ.then_normal ?_
  refine XC.ret ?_
  refine XQ.dropn 1 ?_
  refine XQ.done1 (L := []) rfl rfl (Im.le_refl _) ?_
  exact ⟨rfl, rfl, rfl⟩

theorem rseal_any (key : ByteArray) (p : Pkt) (I : Im) (hk : key.size ≤ 1000000) (hp : p.In) : FC Tryd.prog 41 [.string key, .agg #[.int .i64 p.ser, .int .i64 p.ack, .string p.body, .string p.sl]] I (fun u I' => u = .string (sealF key p) ∧ I' = I) := by
  have hcs := content_size p
  have hpb := hp.body
  refine FSo.intro (n := 10) Tryd.func41 rfl rfl rfl (fun K Lf => ?_)
  refine XC.seq ?_
  refine XC.region ?_
  refine XO.box_agg rfl rfl rfl (fun b3 => ?_)
  refine XO.rd rfl rfl rfl (Reads.assign rfl) ?_
  refine XO.nil ?_
  refine XQ.then_normal ?_
  refine XC.seq ?_
  refine XC.region ?_
  refine XO.rd rfl rfl rfl (Reads.move rfl) ?_
  refine XO.rd rfl rfl rfl (Reads.load_whole k24 z24 rfl (by first | exact WholeAt.of 0 rfl | exact WholeAt.of 1 rfl | exact WholeAt.of 2 rfl | exact WholeAt.of 3 rfl | exact WholeAt.of 4 rfl | exact WholeAt.of 5 rfl) (by rfl)) ?_
  refine XO.callp rfl rfl en52 (content_any p _ hp) ⟨rfl, trivial⟩ ?_
  refine XO.callp rfl rfl en43 (rleaf_all (content p) _ (by omega)) ⟨rfl, trivial⟩ ?_
  refine XO.callp rfl rfl en42 (rnode_all key (leaf (content p)) _ (by omega) (by rw [leaf, sha_size]; decide)) ⟨rfl, rfl, trivial⟩ ?_
  refine XO.rd rfl rfl rfl (Reads.assign rfl) ?_
  refine XO.nil ?_
  refine XQ.then_normal ?_
  refine XC.ret ?_
  refine XQ.dropn 1 ?_
  refine XQ.done1 (L := []) rfl rfl (Im.le_refl _) ?_
  exact ⟨rfl, rfl, rfl⟩

theorem strings_any (a c : Option Addr) (ca cc : Nat) (xs ys : List ByteArray) (I : Im) (hA : Arr I a xs) (hB : Arr I c ys) (hn : xs.length ≤ 1000000000) : FC Tryd.prog 28 [.slice a xs.length ca, .slice c ys.length cc] I (fun u I' => u = .bool (decide (xs = ys)) ∧ I' = I) := by
  refine FSo.intro (n := 26) Tryd.func28 rfl rfl rfl (fun K Lf => ?_)
  refine XC.seq ?_
  refine XC.region ?_
  refine XO.rd rfl rfl rfl (Reads.assign rfl) ?_
  refine XO.nil ?_
  refine XQ.then_normal ?_
  refine XC.seq ?_
  refine XC.seq ?_
  refine XC.region ?_
  refine XO.rd rfl rfl rfl (Reads.move rfl) ?_
  refine XO.rd rfl rfl rfl (Reads.len_slice Tryd.underlying44 rfl) ?_
  refine XO.rd rfl rfl rfl (Reads.move rfl) ?_
  refine XO.rd rfl rfl rfl (Reads.len_slice Tryd.underlying44 rfl) ?_
  refine XO.rd rfl rfl rfl (Reads.cmp rfl rfl rfl) ?_
  refine XO.nil ?_
  refine XQ.then_normal ?_
  refine XC.cond rfl (fun h1 => ?_) (fun h1 => ?_)
  · skip
    simp only [cmpInt, bne_iff_ne] at h1
    have hne : xs ≠ ys := fun hh => by subst hh; omega
    refine XC.seq ?_
    refine XC.region ?_
    refine XO.rd rfl rfl rfl (Reads.assign rfl) ?_
    refine XO.nil ?_
    refine XQ.then_normal ?_
    refine XC.ret ?_
    refine XQ.then_ret ?_
    refine XQ.done1 rfl rfl (Im.le_refl _) ?_
    exact ⟨rfl, congrArg Value.bool (decide_eq_false hne).symm, rfl⟩
  · skip
    simp only [cmpInt, bne_eq_false_iff_eq] at h1
    have hlen : xs.length = ys.length := by omega
    refine XC.skip ?_
    refine XQ.then_normal ?_
    refine XC.seq ?_
    refine XC.seq ?_
    refine XC.region ?_
    refine XO.rd rfl rfl rfl (Reads.assign rfl) ?_
    refine XO.nil ?_
    refine XQ.then_normal ?_
    refine XC.block ?_
    refine XC.loop (ι := Nat) (fun q => [(0, .slice a xs.length ca), (1, .slice c ys.length cc), (5, .int .i64 q)]) (fun q => I) (fun q => [] ++ Lf) (fun q => q ≤ xs.length ∧ ∀ j, j < q → xs.getD j ⟨#[]⟩ = ys.getD j ⟨#[]⟩) (fun q => xs.length - q) 0 ⟨Nat.zero_le _, fun _ h => absurd h (Nat.not_lt_zero _)⟩ ⟨rfl, rfl, rfl, trivial⟩ rfl (List.Perm.refl _) (fun k hk => ?_)
    obtain ⟨hk1, heq⟩ := hk
    refine XC.seq ?_
    refine XC.seq ?_
    refine XC.region ?_
    refine XO.rd rfl rfl rfl (Reads.move rfl) ?_
    refine XO.rd rfl rfl rfl (Reads.move rfl) ?_
    refine XO.rd rfl rfl rfl (Reads.len_slice Tryd.underlying44 rfl) ?_
    refine XO.rd rfl rfl rfl (Reads.cmp rfl rfl rfl) ?_
    refine XO.nil ?_
    refine XQ.then_normal ?_
    refine XC.cond rfl (fun h2 => ?_) (fun h2 => ?_)
    · skip
      simp only [cmpInt, decide_eq_true_eq] at h2
      refine XC.skip ?_
      refine XQ.then_normal ?_
      refine XC.seq ?_
      refine XC.block ?_
      refine XC.seq ?_
      refine XC.draw m_mixed none (.pure 0 (.pure 1 (.pure 2 (.pure 3 (.pure 4 (.pure 5 (.pure 6 (.pure 7 (.pure 8 (.done)))))))))) _ (by kernel_rfl) (List.Sublist.refl _) ?_
      refine XR.rd rfl rfl rfl (Reads.move rfl) ?_
      refine XR.rd rfl rfl rfl (Reads.move rfl) ?_
      refine XR.rd rfl rfl rfl (Reads.index_slot (q := k) Tryd.underlying44 z9 rfl rfl (by omega) (hA.isSome (by decide) (by omega)) (by omega)) ?_
      refine XR.rd rfl rfl rfl (Reads.load_at k9 rfl (hA.str_at (j := k) (by omega) rfl)) ?_
      refine XR.rd rfl rfl rfl (Reads.move rfl) ?_
      refine XR.rd rfl rfl rfl (Reads.move rfl) ?_
      refine XR.rd rfl rfl rfl (Reads.index_slot (q := k) Tryd.underlying44 z9 rfl rfl (by omega) (hB.isSome (by decide) (by omega)) (by omega)) ?_
      refine XR.rd rfl rfl rfl (Reads.load_at k9 rfl (hB.str_at (j := k) (by omega) rfl)) ?_
      refine XR.rd rfl rfl rfl (Reads.sne rfl rfl) ?_
      refine XR.nil ?_
      refine XQ.then_normal ?_
      refine XC.cond rfl (fun h3 => ?_) (fun h3 => ?_)
      · skip
        simp only [Bool.not_eq_true', decide_eq_false_iff_not] at h3
        have hne : xs ≠ ys := fun hh => absurd (by rw [hh]) h3
        refine XC.seq ?_
        refine XC.region ?_
        refine XO.rd rfl rfl rfl (Reads.assign rfl) ?_
        refine XO.nil ?_
        refine XQ.then_normal ?_
        refine XC.ret ?_
        refine XQ.block_ret ?_
        refine XQ.then_ret ?_
        refine XQ.then_ret ?_
        refine XQ.block_ret ?_
        refine XQ.then_ret ?_
        refine XQ.done1 rfl rfl (Im.le_refl _) ?_
        exact ⟨rfl, congrArg Value.bool (decide_eq_false hne).symm, rfl⟩
      · skip
        simp only [Bool.not_eq_false', decide_eq_true_eq] at h3
        refine XC.skip ?_
        refine XQ.block_normal ?_
        refine XQ.then_normal ?_
        refine XC.region ?_
        refine XO.rd rfl rfl rfl (Reads.move rfl) ?_
        refine XO.rd rfl rfl rfl (Reads.add rfl rfl (by omega)) ?_
        refine XO.rd rfl rfl rfl (Reads.assign rfl) ?_
        refine XO.nil ?_
        refine XQ.back (k + 1) ⟨by omega, fun j hj => by rcases Nat.lt_succ_iff_lt_or_eq.1 hj with h | rfl; exact heq j h; assumption⟩ (by omega) ⟨rfl, rfl, rfl, trivial⟩ rfl (List.Perm.refl _)
    · skip
      simp only [cmpInt, decide_eq_false_iff_not] at h2
      have hyes : xs = ys := by
        apply List.ext_getElem hlen
        intro j h1 h2
        have := heq j (by omega)
        simpa [h1, h2] using this
      refine XC.exit ?_
      refine XQ.then_exit ?_
      refine XQ.then_exit ?_
      refine XQ.block_exit ?_
      refine XQ.then_normal ?_
      refine XC.seq ?_
      refine XC.region ?_
      refine XO.rd rfl rfl rfl (Reads.assign rfl) ?_
      refine XO.nil ?_
      refine XQ.then_normal ?_
      refine XC.ret ?_
      refine XQ.done1 rfl rfl (Im.le_refl _) ?_
      exact ⟨rfl, congrArg Value.bool (decide_eq_true hyes).symm, rfl⟩

end Go.Proofs.YtkjhhifhgcihpaaDoor
