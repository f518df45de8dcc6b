/- Walks: what goes out. -/
import Derived.Test.YtkjhhifhgcihpaaDoorD4
namespace Go.Proofs.YtkjhhifhgcihpaaDoor
open Go.Xe Go.Sh Go Go.Lk

theorem out_any (b : Nat) (x : LEnd) (h : EH) (I : Im) (hE : EndIs x h) (hG : ∃ e fr, I 0 = some (.cells (wC KR).toArray e fr)) : FSo Tryd.prog 22 [.pointer (some ⟨b, 0, none⟩)] I (endL b x h) (fun u I' L' => ∃ V : Vec, u = V.val ∧ I' = I ∧ L' = V.ent 24 :: endL b x h ∧ V.Is 4 (pktC (outF x)) ∧ V.len = (outF x).length) := by
  have hb4 := bareF_len x
  have hbi := bareF_in hE.ok
  have hke := hE.ok.key
  refine FSo.intro (n := 30) Tryd.func22 rfl rfl rfl (fun K Lf => ?_)
  refine XC.seq ?_
  refine XC.region ?_
  refine XO.rd rfl rfl rfl (Reads.assign rfl) ?_
  refine XO.nil ?_
  refine XQ.then_normal ?_
  refine XC.seq ?_
  refine XC.seq ?_
  refine XC.region ?_
  refine XO.rd rfl rfl rfl (Reads.move rfl) ?_
  refine XO.rd rfl rfl rfl (Reads.ptr_eq_nil Tryd.underlying25 rfl rfl) ?_
  refine XO.nil ?_
  refine XQ.then_normal ?_
  refine XC.cond rfl (fun hx => by cases hx) (fun _ => ?_)
  refine XC.skip ?_
  refine XQ.then_normal ?_
  refine XC.seq ?_
  refine XC.region ?_
  refine XO.rd rfl rfl rfl (Reads.move rfl) ?_
  refine XO.callo (vs := [_]) (L1 := []) rfl rfl rfl en47 ⟨rfl, trivial⟩ (packets_any b _) (List.Perm.refl _) ?_
  rintro v I' L' _ ⟨bx, rfl, hI', rfl⟩
  replace hI' := hI'.symm
  subst hI'
  refine XO.callo (vs := [_]) (L1 := (some (bx, .cells #[.pointer (some ⟨b, 0, none⟩)] 25 (0, 0)) :: endL b x h)) rfl rfl rfl en46 ⟨rfl, trivial⟩ (collect_any bx b x h _ hE) (List.Perm.refl _) ?_
  rintro v I' L' _ ⟨V, rfl, hI', rfl, hV⟩
  replace hI' := hI'.symm
  subst hI'
  have hVl : V.len = (bareF x).length := by have := hV.len; rw [pktC_len] at this; omega
  refine XO.rd rfl rfl rfl (Reads.assign rfl) ?_
  refine XO.nil ?_
  refine XQ.then_normal ?_
  refine XC.seq ?_
  refine XC.seq ?_
  refine XC.region ?_
  refine XO.rd rfl rfl rfl (Reads.move rfl) ?_
  refine XO.rd rfl rfl rfl (Reads.len_slice Tryd.underlying37 rfl) ?_
  refine XO.rd rfl rfl rfl (Reads.move rfl) ?_
  refine XO.nil ?_
  refine XQ.then_normal ?_
  refine XC.block ?_
  refine XC.loop (ι := Nat × Vec) (fun q => [(0, .pointer (some ⟨b, 0, none⟩)), (3, q.2.val), (11, .int .i64 (V.len : Int)), (12, .int .i64 q.1)]) (fun q => I) (fun q => q.2.ent 24 :: (some (bx, .cells #[.pointer (some ⟨b, 0, none⟩)] 25 (0, 0)) :: endL b x h) ++ Lf) (fun q => q.1 ≤ (bareF x).length ∧ q.2.len = V.len ∧ q.2.Is 4 (pktC (partF (sealed x.key) (bareF x) q.1))) (fun q => (bareF x).length - q.1) (0, V) ⟨Nat.zero_le _, rfl, by simpa [partF] using hV⟩ ⟨rfl, rfl, rfl, rfl, trivial⟩ rfl (List.Perm.refl _) (fun q hq => ?_)
  obtain ⟨i, V1⟩ := q
  obtain ⟨hi1, hl1, hV1⟩ := hq
  simp only at hi1 hl1 hV1 ⊢
  refine XC.seq ?_
  refine XC.region ?_
  refine XO.rd rfl rfl rfl (Reads.cmp rfl rfl rfl) ?_
  refine XO.nil ?_
  refine XQ.then_normal ?_
  refine XC.seq ?_
  refine XC.cond rfl (fun h1 => ?_) (fun h1 => ?_)
  · skip
    simp only [cmpInt, decide_eq_true_eq] at h1
    have hi3 : i < (bareF x).length := by omega
    refine XC.skip ?_
    refine XQ.then_normal ?_
    refine XC.seq ?_
    refine XC.block ?_
    refine XC.seq ?_
    refine XC.region ?_
    refine XO.rd rfl rfl rfl (Reads.move rfl) ?_
    refine XO.rd rfl rfl rfl (Reads.assign rfl) ?_
    refine XO.nil ?_
    refine XQ.then_normal ?_
    refine XC.draw m_mixed (some 13) (.pure 0 (.pure 1 (.pure 2 (.pure 3 (.pure 4 (.pure 5 (.pure 6 (.pure 7 (.pure 8 (.pure 9 (.eff 10 (.pure 11 (.pure 12 (.eff 13 (.done))))))))))))))) _ (by kernel_rfl) (List.Sublist.refl _) ?_
    refine XR.rd rfl rfl rfl (Reads.move rfl) ?_
    refine XR.rd rfl rfl rfl (Reads.move rfl) ?_
    refine XR.rd rfl rfl rfl (Reads.move rfl) ?_
    refine XR.rd rfl rfl rfl (Reads.nilCheck rfl) ?_
    refine XR.rd rfl rfl rfl (fa73_0 rfl) ?_
    refine XR.rd rfl rfl rfl (Reads.load_own (v := .string x.key) k9 rfl (OwnAt.of 2 rfl rfl)) ?_
    refine XR.rd rfl rfl rfl (Reads.move rfl) ?_
    refine XR.rd rfl rfl rfl (Reads.move rfl) ?_
    refine XR.rd rfl rfl rfl (Reads.index_slot (q := i * 4) Tryd.underlying37 z24 rfl rfl (by omega) (vec_isSomes (k := i * 4 + 0) hV1 (partF_cell hi3 0 _ rfl)) (by omega)) ?_
    refine XR.rd rfl rfl rfl (Reads.load_agg_vecs (V := V1) (vs := (bareF x)[i].cells) k24 z24 rfl hV1 (e := 24) (List.mem_of_getElem? (i := 0) rfl) (Nat.succ_pos _) (partF_cell hi3)) ?_
    refine XR.callp rfl rfl rfl en48 (FC.pure (seal_all x.key (bareF x)[i] _ (by omega) (hbi _ (List.getElem_mem hi3)) hG)) ⟨rfl, rfl, trivial⟩ (List.Sublist.refl _) ?_
    refine XR.rd rfl rfl rfl (Reads.index_slot (q := i * 4) Tryd.underlying37 z24 rfl rfl (by omega) (vec_isSomes (k := i * 4 + 0) hV1 (partF_cell hi3 0 _ rfl)) (by omega)) ?_
    refine XR.rd rfl rfl rfl (fs24_3 rfl (vec_addr (k := i * 4 + 0) hV1 (partF_cell hi3 0 _ rfl))) ?_
    refine XR.store_vecs (V := V1) (e := 24) 0 rfl rfl z9 rfl rfl rfl hV1 rfl (partF_cell hi3 3 _ rfl) rfl ?_
    intro V' hV' hval
    rw [partF_seal hi3] at hV'
    rw [← hval]
    refine XR.nil ?_
    refine XQ.block_normal ?_
    refine XQ.then_normal ?_
    refine XC.region ?_
    refine XO.rd rfl rfl rfl (Reads.add rfl rfl (by omega)) ?_
    refine XO.rd rfl rfl rfl (Reads.move rfl) ?_
    refine XO.nil ?_
    have hl2 : V'.len = V1.len := by have h1 := hV'.len; have h2 := hV1.len; rw [pktC_len, partF_len] at h1 h2; omega
    refine XQ.back (i + 1, V') ⟨by simp only; omega, by simp only; omega, hV'⟩ (by simp only; omega) ⟨rfl, rfl, rfl, rfl, trivial⟩ rfl (List.Perm.refl _)
  · skip
    simp only [cmpInt, decide_eq_false_iff_not] at h1
    have hie : i = (bareF x).length := by omega
    subst hie
    rw [partF_all] at hV1
    refine XC.exit ?_
    refine XQ.then_exit ?_
    refine XQ.then_exit ?_
    refine XQ.block_exit ?_
    refine XQ.then_normal ?_
    refine XC.seq ?_
    refine XC.region ?_
    refine XO.rd rfl rfl rfl (Reads.move rfl) ?_
    refine XO.rd rfl rfl rfl (Reads.assign rfl) ?_
    refine XO.nil ?_
    refine XQ.then_normal ?_
    refine XC.ret ?_
    refine XQ.drop (L' := V1.ent 24 :: endL b x h ++ Lf) (List.Sublist.cons_cons _ (List.Sublist.cons _ (List.Sublist.refl _))) ?_
    refine XQ.done1 (L := V1.ent 24 :: endL b x h) rfl rfl (Im.le_refl _) ?_
    exact ⟨V1, rfl, rfl, rfl, hV1, by rw [hl1, hVl, outF, List.length_map]⟩

theorem out_nil (I : Im) : FC Tryd.prog 22 [.pointer none] I (fun u I' => u = .slice none 0 0 ∧ I' = I) := by
  refine FSo.intro (n := 30) Tryd.func22 rfl rfl rfl (fun K Lf => ?_)
  refine XC.seq ?_
  refine XC.region ?_
  refine XO.rd rfl rfl rfl (Reads.assign rfl) ?_
  refine XO.nil ?_
  refine XQ.then_normal ?_
  refine XC.seq ?_
  refine XC.seq ?_
  refine XC.region ?_
  refine XO.rd rfl rfl rfl (Reads.move rfl) ?_
  refine XO.rd rfl rfl rfl (Reads.nil_eq_nil Tryd.underlying25 rfl rfl) ?_
  refine XO.nil ?_
  refine XQ.then_normal ?_
  refine XC.cond rfl (fun _ => ?_) (fun hx => by cases hx)
  refine XC.seq ?_
  refine XC.region ?_
  refine XO.rd rfl rfl rfl (Reads.assign rfl) ?_
  refine XO.nil ?_
  refine XQ.then_normal ?_
  refine XC.ret ?_
  refine XQ.then_ret ?_
  refine XQ.done1 rfl rfl (Im.le_refl _) ?_
  exact ⟨rfl, rfl, rfl⟩

end Go.Proofs.YtkjhhifhgcihpaaDoor
