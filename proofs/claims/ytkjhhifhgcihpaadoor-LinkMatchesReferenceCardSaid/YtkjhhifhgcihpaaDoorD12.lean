/- Walks: a packet that is changed; the strings that are hashed for its seal. -/
import Derived.Test.YtkjhhifhgcihpaaDoorD11
namespace Go.Proofs.YtkjhhifhgcihpaaDoor
open Go.Xe Go.Sh Go Go.Lk

theorem bent_any (p : Pkt) (how n : Int) (I : Im) (hp : p.In) (hh : (-9223372036854775808 ≤ how ∧ how ≤ 9223372036854775807)) (hn : (-9223372036854775808 ≤ n ∧ n ≤ 9223372036854775807)) : FC Tryd.prog 25 [.agg #[.int .i64 p.ser, .int .i64 p.ack, .string p.body, .string p.sl], .int .i64 how, .int .i64 n] I (fun u I' => u = (bentF p how n).val ∧ I' = I) := by
  have hpb := hp.body
  have hp5 := pickI_range (c := how) (n := 5) (by decide)
  have hp256 := pickI_range (c := n) (n := 256) (by decide)
  refine FSo.intro (n := 37) Tryd.func25 rfl rfl rfl (fun K Lf => ?_)
  refine XC.seq ?_
  refine XC.region ?_
  refine XO.box_agg rfl rfl rfl (fun b3 => ?_)
  refine XO.alloc (cs := #[.int .i64 0, .int .i64 0, .string ⟨#[]⟩, .string ⟨#[]⟩]) rfl rfl zo24 rfl (fun b6 => ?_)
  refine XO.nil ?_
  refine XQ.then_normal ?_
  refine XC.seq ?_
  refine XC.seq ?_
  refine XC.region ?_
  refine XO.rd rfl rfl rfl (Reads.move rfl) ?_
  refine XO.callp rfl rfl en45 (pickR_any how 5 _ hh (by decide)) ⟨rfl, rfl, trivial⟩ ?_
  refine XO.nil ?_
  refine XQ.then_normal ?_
  refine XC.block ?_
  refine XC.seq ?_
  refine XC.region ?_
  refine XO.rd rfl rfl rfl (Reads.cmp rfl rfl rfl) ?_
  refine XO.rd rfl rfl rfl (Reads.assign rfl) ?_
  refine XO.nil ?_
  refine XQ.then_normal ?_
  refine XC.cond rfl (fun h1 => ?_) (fun h1 => ?_)
  · skip
    simp only [cmpInt, beq_iff_eq] at h1
    refine XC.region ?_
    refine XO.rd rfl rfl rfl (Reads.move rfl) ?_
    refine XO.rd rfl rfl rfl (fa24_0 rfl) ?_
    have hbf : bentF p how n = { p with ser := n } := by unfold bentF; rw [if_pos (by omega)]
    refine XO.store 1 rfl z3 rfl rfl rfl rfl (by show 0 < 4; decide) ?_
    refine XO.own_eq (congrArg (fun c => _ :: some (b3, Obj.cells c 24 (0, 0)) :: _) (show _ = (bentF p how n).cells.toArray by rw [hbf]; rfl)) ?_
    refine XO.nil ?_
    refine XQ.block_normal ?_
    refine XQ.then_normal ?_
    refine XC.seq ?_
    refine XC.region ?_
    refine XO.rd rfl rfl rfl (Reads.load_whole k24 z24 rfl (by first | exact WholeAt.of 0 rfl | exact WholeAt.of 1 rfl | exact WholeAt.of 2 rfl | exact WholeAt.of 3 rfl | exact WholeAt.of 4 rfl | exact WholeAt.of 5 rfl) (by rfl)) ?_
    first | refine XO.store_agg (vs := (bentF p how n).cells) 0 rfl z24 rfl rfl (by intro v hv; simp at hv; rcases hv with rfl | rfl | rfl | rfl <;> rfl) rfl (Nat.le_refl 4) ?_ | refine XO.store_agg (vs := (bentF p how n).cells) 1 rfl z24 rfl rfl (by intro v hv; simp at hv; rcases hv with rfl | rfl | rfl | rfl <;> rfl) rfl (Nat.le_refl 4) ?_
    refine XO.nil ?_
    refine XQ.then_normal ?_
    refine XC.ret ?_
    refine XQ.done1ca [] 2 rfl k24 z24 rfl (WholeAt.of 0 rfl) rfl rfl (Im.le_refl _) ?_
    exact ⟨rfl, rfl, rfl⟩
  · skip
    simp only [cmpInt, beq_eq_false_iff_ne] at h1
    refine XC.seq ?_
    refine XC.region ?_
    refine XO.rd rfl rfl rfl (Reads.cmp rfl rfl rfl) ?_
    refine XO.rd rfl rfl rfl (Reads.assign rfl) ?_
    refine XO.nil ?_
    refine XQ.then_normal ?_
    refine XC.cond rfl (fun h2 => ?_) (fun h2 => ?_)
    · skip
      simp only [cmpInt, beq_iff_eq] at h2
      refine XC.region ?_
      refine XO.rd rfl rfl rfl (Reads.move rfl) ?_
      refine XO.rd rfl rfl rfl (fa24_1 rfl) ?_
      have hbf : bentF p how n = { p with ack := n } := by unfold bentF; rw [if_neg (by omega)]; rw [if_pos (by omega)]
      refine XO.store 1 rfl z3 rfl rfl rfl rfl (by show 1 < 4; decide) ?_
      refine XO.own_eq (congrArg (fun c => _ :: some (b3, Obj.cells c 24 (0, 0)) :: _) (show _ = (bentF p how n).cells.toArray by rw [hbf]; rfl)) ?_
      refine XO.nil ?_
      refine XQ.block_normal ?_
      refine XQ.then_normal ?_
      refine XC.seq ?_
      refine XC.region ?_
      refine XO.rd rfl rfl rfl (Reads.load_whole k24 z24 rfl (by first | exact WholeAt.of 0 rfl | exact WholeAt.of 1 rfl | exact WholeAt.of 2 rfl | exact WholeAt.of 3 rfl | exact WholeAt.of 4 rfl | exact WholeAt.of 5 rfl) (by rfl)) ?_
      first | refine XO.store_agg (vs := (bentF p how n).cells) 0 rfl z24 rfl rfl (by intro v hv; simp at hv; rcases hv with rfl | rfl | rfl | rfl <;> rfl) rfl (Nat.le_refl 4) ?_ | refine XO.store_agg (vs := (bentF p how n).cells) 1 rfl z24 rfl rfl (by intro v hv; simp at hv; rcases hv with rfl | rfl | rfl | rfl <;> rfl) rfl (Nat.le_refl 4) ?_
      refine XO.nil ?_
      refine XQ.then_normal ?_
      refine XC.ret ?_
      refine XQ.done1ca [] 2 rfl k24 z24 rfl (WholeAt.of 0 rfl) rfl rfl (Im.le_refl _) ?_
      exact ⟨rfl, rfl, rfl⟩
    · skip
      simp only [cmpInt, beq_eq_false_iff_ne] at h2
      refine XC.seq ?_
      refine XC.region ?_
      refine XO.rd rfl rfl rfl (Reads.cmp rfl rfl rfl) ?_
      refine XO.rd rfl rfl rfl (Reads.assign rfl) ?_
      refine XO.nil ?_
      refine XQ.then_normal ?_
      refine XC.cond rfl (fun h3 => ?_) (fun h3 => ?_)
      · skip
        simp only [cmpInt, beq_iff_eq] at h3
        refine XC.draw m_mixed (some 9) (.pure 0 (.pure 1 (.pure 2 (.eff 3 (.pure 4 (.eff 5 (.eff 6 (.pure 7 (.pure 8 (.eff 9 (.done))))))))))) [some (b3, .cells p.cells.toArray 24 (0, 0))] (by kernel_rfl) (List.Sublist.cons _ (List.Sublist.cons_cons _ (List.nil_sublist _))) ?_
        refine XR.rd rfl rfl rfl (fa24_2 rfl) ?_
        refine XR.rd rfl rfl rfl (Reads.load_own k9 rfl (by first | exact OwnAt.of 0 rfl rfl | exact OwnAt.of 1 rfl rfl | exact OwnAt.of 2 rfl rfl | exact OwnAt.of 3 rfl rfl | exact OwnAt.of 4 rfl rfl | exact OwnAt.of 5 rfl rfl)) ?_
        refine XR.rd rfl rfl rfl (Reads.move rfl) ?_
        refine XR.callp rfl rfl rfl en45 (pickR_any n 256 _ hn (by decide)) ⟨rfl, rfl, trivial⟩ (List.Sublist.cons _ (List.Sublist.cons_cons _ (List.nil_sublist _))) ?_
        refine XR.rd rfl rfl rfl (Reads.conv Tryd.underlying3 rfl Tryd.underlying5 rfl) ?_
        rw [u8_wrap (z := pickI n 256) (by omega)]
        refine XR.buildL [.int .u8 (((UInt8.ofNat (pickI n 256).toNat).toNat : Nat) : Int)] [.int .u8 (((UInt8.ofNat (pickI n 256).toNat).toNat : Nat) : Int)] rfl rfl rfl Tryd.underlying70 el5 rfl (by simp) ⟨rfl, rfl, trivial⟩ rfl rfl (List.Sublist.cons _ (List.Sublist.cons_cons _ (List.nil_sublist _))) (fun bu => ?_)
        refine XR.rde rfl rfl rfl rfl (Reads.to_string (bs := [(UInt8.ofNat (pickI n 256).toNat)]) Tryd.underlying70 Tryd.underlying5 Tryd.underlying9 rfl rfl (readable_row 0 rfl rfl)) (List.Sublist.cons _ (List.Sublist.cons _ (List.Sublist.cons_cons _ (List.nil_sublist _)))) ?_
        refine XR.rd rfl rfl rfl (Reads.sadd rfl rfl (by show p.body.size + 1 ≤ 9223372036854775807; omega)) ?_
        refine XR.rd rfl rfl rfl (fa24_2 rfl) ?_
        have hbf : bentF p how n = { p with body := p.body ++ ⟨#[UInt8.ofNat (pickI n 256).toNat]⟩ } := by unfold bentF; rw [if_neg (by omega)]; rw [if_neg (by omega)]; rw [if_pos (by omega)]
        refine XR.store 2 rfl rfl z9 rfl rfl rfl rfl (by show 2 < 4; decide) (.inl rfl) ?_
        refine XR.own_eq (congrArg (fun c => _ :: _ :: some (b3, Obj.cells c 24 (0, 0)) :: _) (show _ = (bentF p how n).cells.toArray by rw [hbf]; rfl)) ?_
        refine XR.nil ?_
        refine XQ.block_normal ?_
        refine XQ.then_normal ?_
        refine XC.seq ?_
        refine XC.region ?_
        refine XO.rd rfl rfl rfl (Reads.load_whole k24 z24 rfl (by first | exact WholeAt.of 0 rfl | exact WholeAt.of 1 rfl | exact WholeAt.of 2 rfl | exact WholeAt.of 3 rfl | exact WholeAt.of 4 rfl | exact WholeAt.of 5 rfl) (by rfl)) ?_
        first | refine XO.store_agg (vs := (bentF p how n).cells) 0 rfl z24 rfl rfl (by intro v hv; simp at hv; rcases hv with rfl | rfl | rfl | rfl <;> rfl) rfl (Nat.le_refl 4) ?_ | refine XO.store_agg (vs := (bentF p how n).cells) 1 rfl z24 rfl rfl (by intro v hv; simp at hv; rcases hv with rfl | rfl | rfl | rfl <;> rfl) rfl (Nat.le_refl 4) ?_
        refine XO.nil ?_
        refine XQ.then_normal ?_
        refine XC.ret ?_
        refine XQ.done1ca [] 3 rfl k24 z24 rfl (WholeAt.of 1 rfl) rfl rfl (Im.le_refl _) ?_
        exact ⟨rfl, rfl, rfl⟩
      · skip
        simp only [cmpInt, beq_eq_false_iff_ne] at h3
        refine XC.seq ?_
        refine XC.region ?_
        refine XO.rd rfl rfl rfl (Reads.cmp rfl rfl rfl) ?_
        refine XO.rd rfl rfl rfl (Reads.assign rfl) ?_
        refine XO.nil ?_
        refine XQ.then_normal ?_
        refine XC.cond rfl (fun h4 => ?_) (fun h4 => ?_)
        · skip
          simp only [cmpInt, beq_iff_eq] at h4
          refine XC.region ?_
          refine XO.rd rfl rfl rfl (Reads.move rfl) ?_
          refine XO.callp rfl rfl en19 (body_any n _ hn) ⟨rfl, trivial⟩ ?_
          refine XO.rd rfl rfl rfl (fa24_2 rfl) ?_
          have hbf : bentF p how n = { p with body := bodyB n } := by unfold bentF; rw [if_neg (by omega)]; rw [if_neg (by omega)]; rw [if_neg (by omega)]; rw [if_pos (by omega)]
          refine XO.store 1 rfl z9 rfl rfl rfl rfl (by show 2 < 4; decide) ?_
          refine XO.own_eq (congrArg (fun c => _ :: some (b3, Obj.cells c 24 (0, 0)) :: _) (show _ = (bentF p how n).cells.toArray by rw [hbf]; rfl)) ?_
          refine XO.nil ?_
          refine XQ.block_normal ?_
          refine XQ.then_normal ?_
          refine XC.seq ?_
          refine XC.region ?_
          refine XO.rd rfl rfl rfl (Reads.load_whole k24 z24 rfl (by first | exact WholeAt.of 0 rfl | exact WholeAt.of 1 rfl | exact WholeAt.of 2 rfl | exact WholeAt.of 3 rfl | exact WholeAt.of 4 rfl | exact WholeAt.of 5 rfl) (by rfl)) ?_
          first | refine XO.store_agg (vs := (bentF p how n).cells) 0 rfl z24 rfl rfl (by intro v hv; simp at hv; rcases hv with rfl | rfl | rfl | rfl <;> rfl) rfl (Nat.le_refl 4) ?_ | refine XO.store_agg (vs := (bentF p how n).cells) 1 rfl z24 rfl rfl (by intro v hv; simp at hv; rcases hv with rfl | rfl | rfl | rfl <;> rfl) rfl (Nat.le_refl 4) ?_
          refine XO.nil ?_
          refine XQ.then_normal ?_
          refine XC.ret ?_
          refine XQ.done1ca [] 2 rfl k24 z24 rfl (WholeAt.of 0 rfl) rfl rfl (Im.le_refl _) ?_
          exact ⟨rfl, rfl, rfl⟩
        · skip
          simp only [cmpInt, beq_eq_false_iff_ne] at h4
          refine XC.region ?_
          refine XO.rd rfl rfl rfl (Reads.move rfl) ?_
          refine XO.callp rfl rfl en17 (key_any n _ hn) ⟨rfl, trivial⟩ ?_
          refine XO.rd rfl rfl rfl (fa24_3 rfl) ?_
          have hbf : bentF p how n = { p with sl := keyB n } := by unfold bentF; rw [if_neg (by omega)]; rw [if_neg (by omega)]; rw [if_neg (by omega)]; rw [if_neg (by omega)]
          refine XO.store 1 rfl z9 rfl rfl rfl rfl (by show 3 < 4; decide) ?_
          refine XO.own_eq (congrArg (fun c => _ :: some (b3, Obj.cells c 24 (0, 0)) :: _) (show _ = (bentF p how n).cells.toArray by rw [hbf]; rfl)) ?_
          refine XO.nil ?_
          refine XQ.block_normal ?_
          refine XQ.then_normal ?_
          refine XC.seq ?_
          refine XC.region ?_
          refine XO.rd rfl rfl rfl (Reads.load_whole k24 z24 rfl (by first | exact WholeAt.of 0 rfl | exact WholeAt.of 1 rfl | exact WholeAt.of 2 rfl | exact WholeAt.of 3 rfl | exact WholeAt.of 4 rfl | exact WholeAt.of 5 rfl) (by rfl)) ?_
          first | refine XO.store_agg (vs := (bentF p how n).cells) 0 rfl z24 rfl rfl (by intro v hv; simp at hv; rcases hv with rfl | rfl | rfl | rfl <;> rfl) rfl (Nat.le_refl 4) ?_ | refine XO.store_agg (vs := (bentF p how n).cells) 1 rfl z24 rfl rfl (by intro v hv; simp at hv; rcases hv with rfl | rfl | rfl | rfl <;> rfl) rfl (Nat.le_refl 4) ?_
          refine XO.nil ?_
          refine XQ.then_normal ?_
          refine XC.ret ?_
          refine XQ.done1ca [] 2 rfl k24 z24 rfl (WholeAt.of 0 rfl) rfl rfl (Im.le_refl _) ?_
          exact ⟨rfl, rfl, rfl⟩

theorem hashed_any (key : ByteArray) (p : Pkt) (I : Im) (hp : p.In) (hk : key.size ≤ 1000000) : FC Tryd.prog 37 [.string key, .agg #[.int .i64 p.ser, .int .i64 p.ack, .string p.body, .string p.sl]] I (fun u I' => ∃ a, u = .slice a 2 2 ∧ Arr I' a (hashF key p)) := by
  have hI := Im.le_refl I
  have hcs := content_size p
  have hpb := hp.body
  refine FSo.intro (n := 16) Tryd.func37 rfl rfl rfl (fun K Lf => ?_)
  refine XC.seq ?_
  refine XC.region ?_
  refine XO.box_agg rfl rfl rfl (fun b3 => ?_)
  refine XO.rd rfl rfl rfl (Reads.assign rfl) ?_
  refine XO.nil ?_
  refine XQ.then_normal ?_
  refine XC.seq ?_
  refine XC.region ?_
  refine XO.rd rfl rfl rfl (Reads.load_whole (c := p.cells.toArray) k24 z24 rfl (WholeAt.of 0 rfl) rfl) ?_
  refine XO.callp rfl rfl en52 (content_any p _ hp) ⟨rfl, trivial⟩ ?_
  refine XO.rd rfl rfl rfl (Reads.assign rfl) ?_
  refine XO.nil ?_
  refine XQ.then_normal ?_
  refine XC.seq ?_
  refine XC.region ?_
  refine XO.rd rfl rfl rfl (Reads.move rfl) ?_
  refine XO.rd rfl rfl rfl (Reads.sadd rfl rfl (by show 1 + (content p).size ≤ 9223372036854775807; omega)) ?_
  refine XO.rd rfl rfl rfl (Reads.move rfl) ?_
  refine XO.rd rfl rfl rfl (Reads.sadd rfl rfl (by show 1 + key.size ≤ 9223372036854775807; omega)) ?_
  refine XO.rd rfl rfl rfl (Reads.move rfl) ?_
  refine XO.callp rfl rfl en43 (rleaf_all (content p) _ (by omega)) ⟨rfl, trivial⟩ ?_
  refine XO.rd rfl rfl rfl (Reads.sadd rfl rfl (by rw [ByteArray.size_append, leaf, sha_size]; show 1 + key.size + 32 ≤ 9223372036854775807; omega)) ?_
  refine XO.lit (α := ByteArray) (hashF key p) [.string (⟨#[0]⟩ ++ content p), .string (⟨#[1]⟩ ++ key ++ leaf (content p))] [.string (⟨#[0]⟩ ++ content p), .string (⟨#[1]⟩ ++ key ++ leaf (content p))] rfl rfl Tryd.underlying44 el9 rfl (by simp) ⟨rfl, rfl, rfl, rfl, trivial⟩ rfl rfl (by decide) rfl (flat_strs _ (hashF key p)) (fun bl J1 hle1 hs1 => ?_)
  replace hI := Im.le_trans hI hle1
  refine XO.rd rfl rfl rfl (Reads.assign rfl) ?_
  refine XO.nil ?_
  refine XQ.then_normal ?_
  refine XC.ret ?_
  refine XQ.dropn 1 ?_
  refine XQ.done1 (L := []) rfl rfl hI ?_
  exact ⟨rfl, _, rfl, hs1.arr.1⟩

end Go.Proofs.YtkjhhifhgcihpaaDoor
