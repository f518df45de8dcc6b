/- Walk: AttestMakesLikeReference. -/
import Derived.Test.YtmlliafhpbfdbaaDoorMJ
import Derived.Test.YtmlliafhpbfdbaaDoorMI
import Derived.Test.YtmlliafhpbfdbaaDoorF13
import Derived.Test.YtmlliafhpbfdbaaDoorF15
import Derived.Test.YtmlliafhpbfdbaaDoorK10
namespace Go.Proofs.YtmlliafhpbfdbaaDoor
open Go.Xe Go.Sh Go Go.At

set_option maxHeartbeats 3200000 in
theorem attestMakes_any (n : Num) (a0 : Option Addr) (c0 : Nat) (bd : Q3) (d : Dial) (ca lv st : Int) (al : Option Addr) (cl : Nat) (l : List ByteArray) (I : Im) (hn : n.In) (hC : Arr I a0 n.cars) (hcl : n.cars.length ≤ 9223372036854775807) (hG : Glob I) (hbd : bd.In) (hca : In64 ca) (hlv : In64 lv) (hst : In64 st) (_hcl2 : l.length ≤ cl) (hL : Arr I al l) (_hls : ∀ y ∈ l, y.size ≤ 9223372036854775807) (hll : l.length ≤ 9223372036854775807) : FC Tryd.prog 6 [.agg (n.cs a0 c0).toArray, .agg bd.cells.toArray, .agg d.cs.toArray, .int .i64 ca, .int .i64 lv, .int .i64 st, .slice al l.length cl] I (fun u _I' => u = .bool true) := by
  have hI := Im.le_refl I
  obtain ⟨s1, hs1, hs9⟩ := pick_nat st (n := 256) (by decide)
  obtain ⟨x, hx⟩ : ∃ x : Att, x = n.made := ⟨_, rfl⟩
  have hch := n.made_chain
  have hml := n.made_len
  rw [← hx] at hch hml
  have hf := hch.f
  have hsz := formed_sz hf
  obtain ⟨y, hy⟩ : ∃ y : Att, y = bent x bd.a bd.b bd.c := ⟨_, rfl⟩
  have hyl := bent_len x bd.a bd.b bd.c
  rw [← hy] at hyl
  obtain ⟨lo, hlo⟩ : ∃ lo, lo = shortF l ++ [mtB] := ⟨_, rfl⟩
  have hlo9 := lo_len l
  have hlos := lo_size l
  rw [← hlo] at hlo9 hlos
  have hlo0 := hlos lo[0] (List.getElem_mem (by omega))
  have hp8c := pickI_range (c := ca) (n := 8) (by decide)
  have hp4l := pickI_range (c := lv) (n := 4) (by decide)
  refine FSo.intro (n := 171) Tryd.func6 rfl rfl rfl (fun K Lf => ?_)
  refine XC.seq ?_
  refine XC.region ?_
  refine XO.box_agg rfl rfl rfl (fun b7 => ?_)
  refine XO.box_agg rfl rfl rfl (fun b8 => ?_)
  refine XO.box_agg rfl rfl rfl (fun b9 => ?_)
  refine XO.rd rfl rfl rfl (Reads.assign rfl) ?_
  refine XO.nil ?_
  refine XQ.then_normal ?_
  refine XC.seq ?_
  refine XC.seq ?_
  refine XC.region ?_
  refine XO.callp rfl rfl en13 (FC.pure (sane_any _ hG)) trivial ?_
  refine XO.rd rfl rfl rfl (Reads.not rfl) ?_
  refine XO.nil ?_
  refine XQ.then_normal ?_
  refine XC.cond rfl (fun hx => by cases hx) (fun _ => ?_)
  refine XC.skip ?_
  refine XQ.then_normal ?_
  refine XC.seq ?_
  refine XC.region ?_
  refine XO.call rfl rfl en15 (all_any _) trivial ?_
  rintro u J106 hle106 hr
  replace hI := Im.le_trans hI hle106
  replace hG := hG.mono hle106
  replace hC := hC.mono hle106
  replace hL := hL.mono hle106
  obtain ⟨ak, ck, rfl, hc_hK, hK⟩ := hr.ex
  refine XO.rd rfl rfl rfl (Reads.assign rfl) ?_
  refine XO.nil ?_
  refine XQ.then_normal ?_
  refine XC.seq ?_
  refine XC.region ?_
  refine XO.rd rfl rfl rfl (Reads.move rfl) ?_
  refine XO.callo (vs := [_]) (L1 := []) rfl rfl rfl en28 ⟨rfl, trivial⟩ (short_own al cl l _ hL hll) (List.Perm.refl _) ?_
  rintro v I' L' _ ⟨V, rfl, hI', rfl, hV⟩
  replace hI' := hI'.symm
  subst hI'
  have hVl : V.len = (shortF l).length := by have h9 := hV.len; rw [strC_len] at h9; omega
  have hsl9 := shortF_len l
  refine XO.buildL [.string mtB] [.string mtB] rfl rfl Tryd.underlying29 el9 rfl (by simp) ⟨rfl, rfl, trivial⟩ rfl rfl (fun bu => ?_)
  refine XO.append (V := V) (news := strC [mtB]) 1 rfl rfl Tryd.underlying29 el9 rfl rfl hV rfl (.slice Tryd.underlying29 (readable_row 0 rfl rfl) rfl (strC_one _)) (by omega) (by omega) ?_
  intro V' hV' hVl'
  have hV4 : V'.Is 1 (strC lo) := by rw [hlo, strC_append]; exact hV'
  refine XO.rd rfl rfl rfl (Reads.assign rfl) ?_
  refine XO.nil ?_
  refine XQ.then_normal ?_
  refine XC.seq ?_
  refine XC.region ?_
  refine XO.dropn 1 ?_
  refine XO.vec_done (α := ByteArray) (by decide) hV4 (flat_strs _ _) (fun J107 hle107 hs9 => ?_)
  replace hI := Im.le_trans hI hle107
  replace hG := hG.mono hle107
  replace hC := hC.mono hle107
  replace hL := hL.mono hle107
  replace hK := hK.mono hle107
  obtain ⟨ao, co, hval2, hc_hO, hO⟩ := hs9.ex
  rw [hval2]
  refine XO.rd rfl rfl rfl (Reads.load_whole k26 z26 rfl (by first | exact WholeAt.of 0 rfl | exact WholeAt.of 1 rfl | exact WholeAt.of 2 rfl | exact WholeAt.of 3 rfl) (by rfl)) ?_
  refine XO.call rfl rfl en18 (made_any n a0 c0 _ hn hC hcl) ⟨rfl, trivial⟩ ?_
  rintro u J108 hle108 hr
  replace hI := Im.le_trans hI hle108
  replace hG := hG.mono hle108
  replace hC := hC.mono hle108
  replace hL := hL.mono hle108
  replace hK := hK.mono hle108
  replace hO := hO.mono hle108
  rw [← hx] at hr
  obtain ⟨ab, cb, rfl, hcp_hA, hA⟩ := hr
  refine XO.alloc (cs := #[.int .i64 0, .int .i64 0, .int .i64 0, .int .i64 0, .slice none 0 0]) rfl rfl zo37 rfl (fun b16 => ?_)
  refine XO.store_agg (vs := (x).cs ab cb) 0 rfl z37 rfl rfl (by simp [Value.oneCell']) rfl (by simp) ?_
  refine XO.nil ?_
  refine XQ.then_normal ?_
  refine XC.seq ?_
  refine XC.seq ?_
  refine XC.region ?_
  refine XO.rd rfl rfl rfl (Reads.move rfl) ?_
  refine XO.rd rfl rfl rfl (Reads.move rfl) ?_
  refine XO.callp rfl rfl en16 (pickL_any ca 8 _ hca (by decide)) ⟨rfl, rfl, trivial⟩ ?_
  refine XO.buildL ([Value.int .i64 ca, .int .i64 (pickI ca 8)]) ([Value.int .i64 ca, .int .i64 (pickI ca 8)]) rfl rfl Tryd.underlying23 el3 rfl (by simp) ⟨rfl, rfl, rfl, rfl, trivial⟩ rfl rfl (fun b49 => ?_)
  refine XO.rd rfl rfl rfl (Reads.len_slice Tryd.underlying23 rfl) ?_
  refine XO.rd rfl rfl rfl (Reads.move rfl) ?_
  refine XO.nil ?_
  refine XQ.then_normal ?_
  refine XC.block ?_
  refine XC.loop (ι := Nat × Im) (fun q => [(4, .int .i64 lv), (5, .int .i64 st), (6, .slice ao lo.length co), (7, .pointer (some ⟨b7, 0, none⟩)), (8, .pointer (some ⟨b8, 0, none⟩)), (9, .pointer (some ⟨b9, 0, none⟩)), (15, .slice ak allK.length ck), (16, .pointer (some ⟨b16, 0, none⟩)), (49, .slice (some ⟨b49, 0, none⟩) 2 2), (50, .int .i64 2), (51, .int .i64 q.1)]) (fun q => q.2) (fun q => some (b49, .cells ([Value.int .i64 ca, .int .i64 (pickI ca 8)] : List Value).toArray 3 (0, 0)) :: some (b16, .cells ((x).cs ab cb).toArray 37 (0, 0)) :: some (b9, .cells d.cs.toArray 34 (0, 0)) :: some (b8, .cells bd.cells.toArray 27 (0, 0)) :: some (b7, .cells (n.cs a0 c0).toArray 26 (0, 0)) :: ([] ++ Lf)) (fun q => q.1 ≤ 2 ∧ I.le q.2 ∧ Glob q.2 ∧ Arr q.2 a0 n.cars ∧ Arr q.2 ak allK ∧ Arr q.2 ab x.hs ∧ Arr q.2 ao lo) (fun q => 2 - q.1) (0, _) ⟨Nat.zero_le _, hI, hG, hC, hK, hA, hO⟩ ⟨rfl, rfl, rfl, rfl, rfl, rfl, rfl, rfl, rfl, rfl, rfl, trivial⟩ rfl (List.Perm.refl _) (fun q hq => ?_)
  obtain ⟨ia, M1⟩ := q
  obtain ⟨hia1, hI, hG, hC, hK, hA, hO⟩ := hq
  simp only at hia1 hI hG hC hK hA hO ⊢
  refine XC.seq ?_
  refine XC.region ?_
  refine XO.rd rfl rfl rfl (Reads.cmp rfl rfl rfl) ?_
  refine XO.nil ?_
  refine XQ.then_normal ?_
  refine XC.seq ?_
  refine XC.cond rfl (fun h1 => ?_) (fun h1 => ?_)
  · skip
    simp only [cmpInt, decide_eq_true_eq] at h1
    have hia3 : ia < 2 := by omega
    obtain ⟨cc, hcc9, hcc⟩ := two_ints (a := ca) (b := pickI ca 8) hia3
    have hcc64 : In64 cc := by rcases hcc9 with h9 | h9 <;> rw [h9]; exact hca; exact ⟨by omega, by omega⟩
    have hp8 := pickI_range (c := cc) (n := 8) (by decide)
    refine XC.skip ?_
    refine XQ.then_normal ?_
    refine XC.seq ?_
    refine XC.block ?_
    refine XC.seq ?_
    refine XC.region ?_
    refine XO.rd rfl rfl rfl (Reads.index_own (q := ia) Tryd.underlying23 z3 rfl rfl (by omega) (by omega)) ?_
    refine XO.rd rfl rfl rfl (Reads.load_own k3 rfl (OwnAt.of 0 rfl hcc)) ?_
    refine XO.rd rfl rfl rfl (Reads.assign rfl) ?_
    refine XO.nil ?_
    refine XQ.then_normal ?_
    refine XC.seq ?_
    refine XC.draw m_mixed none (.pure 0 (.pure 1 (.pure 5 (.pure 6 (.pure 7 (.pure 10 (.eff 2 (.pure 3 (.pure 4 (.eff 8 (.pure 9 (.done)))))))))))) _ (by kernel_rfl) (List.Sublist.refl _) ?_
    refine XR.rd rfl rfl rfl (Reads.move rfl) ?_
    refine XR.rd rfl rfl rfl (Reads.move rfl) ?_
    refine XR.rd rfl rfl rfl (Reads.move rfl) ?_
    refine XR.rd rfl rfl rfl (Reads.index_slot (q := 0) Tryd.underlying29 z9 rfl rfl (by omega) (hO.isSome (by decide) (by omega)) rfl) ?_
    refine XR.rd rfl rfl rfl (Reads.load_at (v := .string lo[0]) k9 rfl (by have h9 := hO.str (j := 0) (by omega); exact h9)) ?_
    refine XR.rd rfl rfl rfl (Reads.move rfl) ?_
    refine XR.callp rfl rfl rfl en16 (pickL_any cc 8 _ hcc64 (by decide)) ⟨rfl, rfl, trivial⟩ (List.Sublist.refl _) ?_
    refine XR.rd rfl rfl rfl (Reads.index_slot (q := (pickI cc 8).toNat) Tryd.underlying29 z9 rfl rfl (by rw [allK_len]; omega) (hK.isSome (by decide) (by rw [allK_len]; omega)) (by omega)) ?_
    refine XR.rd rfl rfl rfl (Reads.load_at (v := .string (keyC (pickI cc 8).toNat)) k9 rfl (by rw [← allK_get (i := (pickI cc 8).toNat) (by omega)]; exact hK.str_at (by rw [allK_len]; omega) rfl)) ?_
    refine XR.buildL ([Value.string (keyC (pickI cc 8).toNat), .string lo[0]]) ([Value.string (keyC (pickI cc 8).toNat), .string lo[0]]) rfl rfl rfl Tryd.underlying29 el9 rfl (by simp) ⟨rfl, rfl, rfl, rfl, trivial⟩ rfl rfl (List.Sublist.refl _) (fun b63 => ?_)
    refine XR.rd rfl rfl rfl (Reads.len_slice Tryd.underlying29 rfl) ?_
    refine XR.nil ?_
    refine XQ.then_normal ?_
    refine XC.block ?_
    refine XC.loop (ι := Nat × Im) (fun q => [(4, .int .i64 lv), (5, .int .i64 st), (6, .slice ao lo.length co), (7, .pointer (some ⟨b7, 0, none⟩)), (8, .pointer (some ⟨b8, 0, none⟩)), (9, .pointer (some ⟨b9, 0, none⟩)), (15, .slice ak allK.length ck), (16, .pointer (some ⟨b16, 0, none⟩)), (18, .int .i64 cc), (49, .slice (some ⟨b49, 0, none⟩) 2 2), (50, .int .i64 2), (51, .int .i64 ia), (63, .slice (some ⟨b63, 0, none⟩) 2 2), (64, .int .i64 2), (65, .int .i64 q.1)]) (fun q => q.2) (fun q => some (b63, .cells ([Value.string (keyC (pickI cc 8).toNat), .string lo[0]] : List Value).toArray 9 (0, 0)) :: some (b49, .cells ([Value.int .i64 ca, .int .i64 (pickI ca 8)] : List Value).toArray 3 (0, 0)) :: some (b16, .cells ((x).cs ab cb).toArray 37 (0, 0)) :: some (b9, .cells d.cs.toArray 34 (0, 0)) :: some (b8, .cells bd.cells.toArray 27 (0, 0)) :: some (b7, .cells (n.cs a0 c0).toArray 26 (0, 0)) :: ([] ++ Lf)) (fun q => q.1 ≤ 2 ∧ I.le q.2 ∧ Glob q.2 ∧ Arr q.2 a0 n.cars ∧ Arr q.2 ak allK ∧ Arr q.2 ab x.hs ∧ Arr q.2 ao lo) (fun q => 2 - q.1) (0, _) ⟨Nat.zero_le _, hI, hG, hC, hK, hA, hO⟩ ⟨rfl, rfl, rfl, rfl, rfl, rfl, rfl, rfl, rfl, rfl, rfl, rfl, rfl, rfl, rfl, trivial⟩ rfl (List.Perm.refl _) (fun q hq => ?_)
    obtain ⟨ib, M2⟩ := q
    obtain ⟨hib1, hI, hG, hC, hK, hA, hO⟩ := hq
    simp only at hib1 hI hG hC hK hA hO ⊢
    refine XC.seq ?_
    refine XC.region ?_
    refine XO.rd rfl rfl rfl (Reads.cmp rfl rfl rfl) ?_
    refine XO.nil ?_
    refine XQ.then_normal ?_
    refine XC.seq ?_
    refine XC.cond rfl (fun h2 => ?_) (fun h2 => ?_)
    · skip
      simp only [cmpInt, decide_eq_true_eq] at h2
      have hib3 : ib < 2 := by omega
      obtain ⟨key, hkey9, hky⟩ := two_strs (a := keyC (pickI cc 8).toNat) (b := lo[0]) hib3
      have hks9 : key.size ≤ 1000 := by rcases hkey9 with h9 | h9 <;> rw [h9]; rw [keyC_size]; decide; omega
      refine XC.skip ?_
      refine XQ.then_normal ?_
      refine XC.seq ?_
      refine XC.block ?_
      refine XC.seq ?_
      refine XC.region ?_
      refine XO.rd rfl rfl rfl (Reads.index_own (q := ib) Tryd.underlying29 z9 rfl rfl (by omega) (by omega)) ?_
      refine XO.rd rfl rfl rfl (Reads.load_own k9 rfl (OwnAt.of 0 rfl hky)) ?_
      refine XO.rd rfl rfl rfl (Reads.assign rfl) ?_
      refine XO.nil ?_
      refine XQ.then_normal ?_
      refine XC.seq ?_
      refine XC.seq ?_
      refine XC.region ?_
      refine XO.rd rfl rfl rfl (Reads.move rfl) ?_
      refine XO.rd rfl rfl rfl (Reads.move rfl) ?_
      refine XO.callp rfl rfl en16 (pickL_any lv 4 _ hlv (by decide)) ⟨rfl, rfl, trivial⟩ ?_
      refine XO.buildL ([Value.int .i64 lv, .int .i64 (pickI lv 4)]) ([Value.int .i64 lv, .int .i64 (pickI lv 4)]) rfl rfl Tryd.underlying23 el3 rfl (by simp) ⟨rfl, rfl, rfl, rfl, trivial⟩ rfl rfl (fun b72 => ?_)
      refine XO.rd rfl rfl rfl (Reads.len_slice Tryd.underlying23 rfl) ?_
      refine XO.rd rfl rfl rfl (Reads.move rfl) ?_
      refine XO.nil ?_
      refine XQ.then_normal ?_
      refine XC.block ?_
      refine XC.loop (ι := Nat × Im) (fun q => [(4, .int .i64 lv), (5, .int .i64 st), (6, .slice ao lo.length co), (7, .pointer (some ⟨b7, 0, none⟩)), (8, .pointer (some ⟨b8, 0, none⟩)), (9, .pointer (some ⟨b9, 0, none⟩)), (15, .slice ak allK.length ck), (16, .pointer (some ⟨b16, 0, none⟩)), (18, .int .i64 cc), (20, .string key), (49, .slice (some ⟨b49, 0, none⟩) 2 2), (50, .int .i64 2), (51, .int .i64 ia), (63, .slice (some ⟨b63, 0, none⟩) 2 2), (64, .int .i64 2), (65, .int .i64 ib), (72, .slice (some ⟨b72, 0, none⟩) 2 2), (73, .int .i64 2), (74, .int .i64 q.1)]) (fun q => q.2) (fun q => some (b72, .cells ([Value.int .i64 lv, .int .i64 (pickI lv 4)] : List Value).toArray 3 (0, 0)) :: some (b63, .cells ([Value.string (keyC (pickI cc 8).toNat), .string lo[0]] : List Value).toArray 9 (0, 0)) :: some (b49, .cells ([Value.int .i64 ca, .int .i64 (pickI ca 8)] : List Value).toArray 3 (0, 0)) :: some (b16, .cells ((x).cs ab cb).toArray 37 (0, 0)) :: some (b9, .cells d.cs.toArray 34 (0, 0)) :: some (b8, .cells bd.cells.toArray 27 (0, 0)) :: some (b7, .cells (n.cs a0 c0).toArray 26 (0, 0)) :: ([] ++ Lf)) (fun q => q.1 ≤ 2 ∧ I.le q.2 ∧ Glob q.2 ∧ Arr q.2 a0 n.cars ∧ Arr q.2 ak allK ∧ Arr q.2 ab x.hs ∧ Arr q.2 ao lo) (fun q => 2 - q.1) (0, _) ⟨Nat.zero_le _, hI, hG, hC, hK, hA, hO⟩ ⟨rfl, rfl, rfl, rfl, rfl, rfl, rfl, rfl, rfl, rfl, rfl, rfl, rfl, rfl, rfl, rfl, rfl, rfl, rfl, trivial⟩ rfl (List.Perm.refl _) (fun q hq => ?_)
      obtain ⟨ie, M3⟩ := q
      obtain ⟨hie1, hI, hG, hC, hK, hA, hO⟩ := hq
      simp only at hie1 hI hG hC hK hA hO ⊢
      refine XC.seq ?_
      refine XC.weaken (E' := [(4, _), (5, _), (6, _), (7, _), (8, _), (9, _), (15, _), (16, _), (18, _), (20, _), (49, _), (50, _), (51, _), (63, _), (64, _), (65, _), (72, _), (73, _), (74, _)]) ⟨rfl, rfl, rfl, rfl, rfl, rfl, rfl, rfl, rfl, rfl, rfl, rfl, rfl, rfl, rfl, rfl, rfl, rfl, rfl, trivial⟩ ?_
      refine XC.region ?_
      refine XO.rd rfl rfl rfl (Reads.cmp rfl rfl rfl) ?_
      refine XO.nil ?_
      refine XQ.then_normal ?_
      refine XC.seq ?_
      refine XC.cond rfl (fun h3 => ?_) (fun h3 => ?_)
      · skip
        simp only [cmpInt, decide_eq_true_eq] at h3
        have hie3 : ie < 2 := by omega
        obtain ⟨ll, _, hll2⟩ := two_ints (a := lv) (b := pickI lv 4) hie3
        refine XC.skip ?_
        refine XQ.then_normal ?_
        refine XC.seq ?_
        refine XC.block ?_
        refine XC.seq ?_
        refine XC.region ?_
        refine XO.rd rfl rfl rfl (Reads.index_own (q := ie) Tryd.underlying23 z3 rfl rfl (by omega) (by omega)) ?_
        refine XO.rd rfl rfl rfl (Reads.load_own k3 rfl (OwnAt.of 0 rfl hll2)) ?_
        refine XO.rd rfl rfl rfl (Reads.assign rfl) ?_
        refine XO.nil ?_
        refine XQ.then_normal ?_
        refine XC.seq ?_
        refine XC.draw m_mixed none (.pure 0 (.pure 1 (.pure 2 (.pure 6 (.eff 3 (.eff 4 (.pure 5 (.done)))))))) _ (by kernel_rfl) (List.Sublist.refl _) ?_
        refine XR.rd rfl rfl rfl (Reads.load_whole k34 z34 rfl (by first | exact WholeAt.of 0 rfl | exact WholeAt.of 1 rfl | exact WholeAt.of 2 rfl | exact WholeAt.of 3 rfl | exact WholeAt.of 4 rfl | exact WholeAt.of 5 rfl | exact WholeAt.of 6 rfl | exact WholeAt.of 7 rfl | exact WholeAt.of 8 rfl | exact WholeAt.of 9 rfl) (by rfl)) ?_
        refine XR.rd rfl rfl rfl (fa26_0 rfl) ?_
        refine XR.rd rfl rfl rfl (Reads.load_agg_own (vs := [.int .i64 n.d0, .int .i64 n.d1, .int .i64 n.d2, .int .i64 n.d3]) k22 z22 rfl (fun j v hj => OwnAt.of 6 rfl (num_dial hj))) ?_
        refine XR.rd rfl rfl rfl (Reads.move rfl) ?_
        refine XR.callp rfl rfl rfl en37 (dial_any _ _ _ _ _ hn.d0 hn.d1 hn.d2 hn.d3) ⟨rfl, trivial⟩ (List.Sublist.refl _) ?_
        refine XR.buildL [.agg d.cs.toArray, .agg n.dial.cs.toArray] (d.cs ++ n.dial.cs) rfl rfl rfl Tryd.underlying67 el34 rfl (by simp) ⟨rfl, rfl, rfl, rfl, trivial⟩ rfl rfl (List.Sublist.refl _) (fun b82 => ?_)
        refine XR.rd rfl rfl rfl (Reads.len_slice Tryd.underlying67 rfl) ?_
        refine XR.nil ?_
        refine XQ.then_normal ?_
        refine XC.block ?_
        refine XC.loop (ι := Nat × Im) (fun q => [(4, .int .i64 lv), (5, .int .i64 st), (6, .slice ao lo.length co), (7, .pointer (some ⟨b7, 0, none⟩)), (8, .pointer (some ⟨b8, 0, none⟩)), (9, .pointer (some ⟨b9, 0, none⟩)), (15, .slice ak allK.length ck), (16, .pointer (some ⟨b16, 0, none⟩)), (18, .int .i64 cc), (20, .string key), (22, .int .i64 ll), (49, .slice (some ⟨b49, 0, none⟩) 2 2), (50, .int .i64 2), (51, .int .i64 ia), (63, .slice (some ⟨b63, 0, none⟩) 2 2), (64, .int .i64 2), (65, .int .i64 ib), (72, .slice (some ⟨b72, 0, none⟩) 2 2), (73, .int .i64 2), (74, .int .i64 ie), (82, .slice (some ⟨b82, 0, none⟩) 2 2), (83, .int .i64 2), (84, .int .i64 q.1)]) (fun q => q.2) (fun q => some (b82, .cells (d.cs ++ n.dial.cs).toArray 34 (0, 0)) :: some (b72, .cells ([Value.int .i64 lv, .int .i64 (pickI lv 4)] : List Value).toArray 3 (0, 0)) :: some (b63, .cells ([Value.string (keyC (pickI cc 8).toNat), .string lo[0]] : List Value).toArray 9 (0, 0)) :: some (b49, .cells ([Value.int .i64 ca, .int .i64 (pickI ca 8)] : List Value).toArray 3 (0, 0)) :: some (b16, .cells ((x).cs ab cb).toArray 37 (0, 0)) :: some (b9, .cells d.cs.toArray 34 (0, 0)) :: some (b8, .cells bd.cells.toArray 27 (0, 0)) :: some (b7, .cells (n.cs a0 c0).toArray 26 (0, 0)) :: ([] ++ Lf)) (fun q => q.1 ≤ 2 ∧ I.le q.2 ∧ Glob q.2 ∧ Arr q.2 a0 n.cars ∧ Arr q.2 ak allK ∧ Arr q.2 ab x.hs ∧ Arr q.2 ao lo) (fun q => 2 - q.1) (0, _) ⟨Nat.zero_le _, hI, hG, hC, hK, hA, hO⟩ ⟨rfl, rfl, rfl, rfl, rfl, rfl, rfl, rfl, rfl, rfl, rfl, rfl, rfl, rfl, rfl, rfl, rfl, rfl, rfl, rfl, rfl, rfl, rfl, trivial⟩ rfl (List.Perm.refl _) (fun q hq => ?_)
        obtain ⟨id, M4⟩ := q
        obtain ⟨hid1, hI, hG, hC, hK, hA, hO⟩ := hq
        simp only at hid1 hI hG hC hK hA hO ⊢
        refine XC.seq ?_
        refine XC.region ?_
        refine XO.rd rfl rfl rfl (Reads.cmp rfl rfl rfl) ?_
        refine XO.nil ?_
        refine XQ.then_normal ?_
        refine XC.seq ?_
        refine XC.cond rfl (fun h4 => ?_) (fun h4 => ?_)
        · skip
          simp only [cmpInt, decide_eq_true_eq] at h4
          have hid3 : id < 2 := by omega
          obtain ⟨y0, hy0⟩ := two_dials (d := d) (e := n.dial) hid3
          refine XC.skip ?_
          refine XQ.then_normal ?_
          refine XC.seq ?_
          refine XC.block ?_
          refine XC.seq ?_
          refine XC.region ?_
          refine XO.rd rfl rfl rfl (Reads.index_own (q := id * 4) Tryd.underlying67 z34 rfl rfl (by omega) (by omega)) ?_
          refine XO.rd rfl rfl rfl (Reads.load_agg_own (vs := y0.cs) k34 z34 rfl (fun j v hj => OwnAt.of 0 rfl (hy0 j v hj))) ?_
          refine XO.alloc (cs := #[.int .i64 0, .int .i64 0, .int .i64 0, .int .i64 0]) rfl rfl zo34 rfl (fun b24 => ?_)
          refine XO.store_agg (vs := y0.cs) 0 rfl z34 rfl rfl (by simp [Value.oneCell']) rfl (by simp) ?_
          refine XO.nil ?_
          refine XQ.then_normal ?_
          refine XC.seq ?_
          refine XC.region ?_
          refine XO.rd rfl rfl rfl (Reads.move rfl) ?_
          refine XO.rd rfl rfl rfl (Reads.load_whole k34 z34 rfl (by first | exact WholeAt.of 0 rfl | exact WholeAt.of 1 rfl | exact WholeAt.of 2 rfl | exact WholeAt.of 3 rfl | exact WholeAt.of 4 rfl | exact WholeAt.of 5 rfl | exact WholeAt.of 6 rfl | exact WholeAt.of 7 rfl | exact WholeAt.of 8 rfl | exact WholeAt.of 9 rfl) (by rfl)) ?_
          refine XO.rd rfl rfl rfl (Reads.move rfl) ?_
          refine XO.rd rfl rfl rfl (Reads.move rfl) ?_
          refine XO.call rfl rfl en38 (begin_any key y0 cc ll _ (by omega) hG) ⟨rfl, rfl, rfl, rfl, trivial⟩ ?_
          rintro u J109 hle109 hr
          replace hI := Im.le_trans hI hle109
          replace hG := hG.mono hle109
          replace hC := hC.mono hle109
          replace hK := hK.mono hle109
          replace hA := hA.mono hle109
          replace hO := hO.mono hle109
          obtain ⟨ao1, co1, rfl, hco_hU1, hU1, hno_hU1⟩ := hr.any4
          refine XO.rd rfl rfl rfl (Reads.move rfl) ?_
          refine XO.rd rfl rfl rfl (Reads.extract rfl rfl) ?_
          refine XO.rd rfl rfl rfl (Reads.extract rfl rfl) ?_
          refine XO.alloc (cs := #[.int .i64 0, .int .i64 0, .int .i64 0, .int .i64 0, .slice none 0 0]) rfl rfl zo37 rfl (fun b25 => ?_)
          refine XO.store_agg (vs := (((beginA key y0 cc ll).getD none0)).cs ao1 co1) 0 rfl z37 rfl rfl (by simp [Value.oneCell']) rfl (by simp) ?_
          refine XO.rd rfl rfl rfl (Reads.assign rfl) ?_
          refine XO.nil ?_
          refine XQ.then_normal ?_
          refine XC.seq ?_
          refine XC.weaken (E' := [(4, _), (5, _), (6, _), (7, _), (8, _), (9, _), (15, _), (16, _), (18, _), (20, _), (22, _), (24, _), (25, _), (26, _), (49, _), (50, _), (51, _), (63, _), (64, _), (65, _), (72, _), (73, _), (74, _), (82, _), (83, _), (84, _)]) ⟨rfl, rfl, rfl, rfl, rfl, rfl, rfl, rfl, rfl, rfl, rfl, rfl, rfl, rfl, rfl, rfl, rfl, rfl, rfl, rfl, rfl, rfl, rfl, rfl, rfl, rfl, trivial⟩ ?_
          refine XC.region ?_
          refine XO.rd rfl rfl rfl (Reads.move rfl) ?_
          refine XO.rd rfl rfl rfl (Reads.load_whole k34 z34 rfl (by first | exact WholeAt.of 0 rfl | exact WholeAt.of 1 rfl | exact WholeAt.of 2 rfl | exact WholeAt.of 3 rfl | exact WholeAt.of 4 rfl | exact WholeAt.of 5 rfl | exact WholeAt.of 6 rfl | exact WholeAt.of 7 rfl | exact WholeAt.of 8 rfl | exact WholeAt.of 9 rfl) (by rfl)) ?_
          refine XO.rd rfl rfl rfl (Reads.move rfl) ?_
          refine XO.rd rfl rfl rfl (Reads.move rfl) ?_
          refine XO.call rfl rfl en39 (rbegin_any key y0 cc ll _) ⟨rfl, rfl, rfl, rfl, trivial⟩ ?_
          rintro u J110 hle110 hr
          replace hI := Im.le_trans hI hle110
          replace hG := hG.mono hle110
          replace hC := hC.mono hle110
          replace hK := hK.mono hle110
          replace hA := hA.mono hle110
          replace hO := hO.mono hle110
          replace hU1 := hU1.mono hle110
          obtain ⟨ao2, co2, rfl, hco_hU2, hU2, hno_hU2⟩ := hr.any4
          refine XO.rd rfl rfl rfl (Reads.move rfl) ?_
          refine XO.rd rfl rfl rfl (Reads.extract rfl rfl) ?_
          refine XO.rd rfl rfl rfl (Reads.extract rfl rfl) ?_
          refine XO.alloc (cs := #[.int .i64 0, .int .i64 0, .int .i64 0, .int .i64 0, .slice none 0 0]) rfl rfl zo37 rfl (fun b27 => ?_)
          refine XO.store_agg (vs := (((beginA key y0 cc ll).getD none0)).cs ao2 co2) 0 rfl z37 rfl rfl (by simp [Value.oneCell']) rfl (by simp) ?_
          refine XO.rd rfl rfl rfl (Reads.assign rfl) ?_
          refine XO.nil ?_
          refine XQ.then_normal ?_
          refine XC.seq ?_
          refine XC.region ?_
          refine XO.rd rfl rfl rfl (Reads.move rfl) ?_
          refine XO.rd rfl rfl rfl (Reads.move rfl) ?_
          refine XO.rd rfl rfl rfl (Reads.cmp_no rfl rfl rfl (by simp [cmpInt])) ?_
          refine XO.rd rfl rfl rfl (Reads.move rfl) ?_
          refine XO.rd (wg rfl rfl rfl) rfl rfl (Reads.load_whole k37 z37 rfl (by first | exact WholeAt.of 0 rfl | exact WholeAt.of 1 rfl | exact WholeAt.of 2 rfl | exact WholeAt.of 3 rfl | exact WholeAt.of 4 rfl | exact WholeAt.of 5 rfl | exact WholeAt.of 6 rfl | exact WholeAt.of 7 rfl | exact WholeAt.of 8 rfl | exact WholeAt.of 9 rfl) (by rfl)) ?_
          refine XO.rd (wg rfl rfl rfl) rfl rfl (Reads.load_whole k37 z37 rfl (by first | exact WholeAt.of 0 rfl | exact WholeAt.of 1 rfl | exact WholeAt.of 2 rfl | exact WholeAt.of 3 rfl | exact WholeAt.of 4 rfl | exact WholeAt.of 5 rfl | exact WholeAt.of 6 rfl | exact WholeAt.of 7 rfl | exact WholeAt.of 8 rfl | exact WholeAt.of 9 rfl) (by rfl)) ?_
          refine XO.callp (wg rfl rfl rfl) rfl en32 (rsame_any ((beginA key y0 cc ll).getD none0) ao1 ao2 co1 co2 _ hU1 hU2 (by have := begin_len (key := key) (d := y0) (c := cc) (l := ll); omega)) ⟨rfl, rfl, trivial⟩ ?_
          refine XO.rd (wg rfl rfl rfl) rfl rfl (Reads.not rfl) ?_
          refine XO.rd rfl rfl rfl (Reads.pick_false rfl rfl) ?_
          refine XO.nil ?_
          refine XQ.then_normal ?_
          refine XC.cond rfl (fun hx => by cases hx) (fun _ => ?_)
          refine XC.skip ?_
          refine XQ.block_normal ?_
          refine XQ.then_normal ?_
          refine XC.weaken (E' := [(4, _), (5, _), (6, _), (7, _), (8, _), (9, _), (15, _), (16, _), (18, _), (20, _), (22, _), (49, _), (50, _), (51, _), (63, _), (64, _), (65, _), (72, _), (73, _), (74, _), (82, _), (83, _), (84, _)]) ⟨rfl, rfl, rfl, rfl, rfl, rfl, rfl, rfl, rfl, rfl, rfl, rfl, rfl, rfl, rfl, rfl, rfl, rfl, rfl, rfl, rfl, rfl, rfl, trivial⟩ ?_
          refine XC.region ?_
          refine XO.rd rfl rfl rfl (Reads.add rfl rfl (by omega)) ?_
          refine XO.rd rfl rfl rfl (Reads.move rfl) ?_
          refine XO.nil ?_
          refine XQ.dropn 3 ?_
          refine XQ.back (id + 1, _) ⟨by simp only; omega, hI, hG, hC, hK, hA, hO⟩ (by simp only; omega) ⟨rfl, rfl, rfl, rfl, rfl, rfl, rfl, rfl, rfl, rfl, rfl, rfl, rfl, rfl, rfl, rfl, rfl, rfl, rfl, rfl, rfl, rfl, rfl, trivial⟩ rfl (List.Perm.refl _)
        · skip
          simp only [cmpInt, decide_eq_false_iff_not] at h4
          refine XC.exit ?_
          refine XQ.then_exit ?_
          refine XQ.then_exit ?_
          refine XQ.block_exit ?_
          refine XQ.block_normal ?_
          refine XQ.then_normal ?_
          refine XC.region ?_
          refine XO.rd rfl rfl rfl (Reads.add rfl rfl (by omega)) ?_
          refine XO.rd rfl rfl rfl (Reads.move rfl) ?_
          refine XO.nil ?_
          refine XQ.dropn 1 ?_
          refine XQ.back (ie + 1, _) ⟨by simp only; omega, hI, hG, hC, hK, hA, hO⟩ (by simp only; omega) ⟨rfl, rfl, rfl, rfl, rfl, rfl, rfl, rfl, rfl, rfl, rfl, rfl, rfl, rfl, rfl, rfl, rfl, rfl, rfl, trivial⟩ rfl (List.Perm.refl _)
      · skip
        simp only [cmpInt, decide_eq_false_iff_not] at h3
        refine XC.exit ?_
        refine XQ.then_exit ?_
        refine XQ.then_exit ?_
        refine XQ.block_exit ?_
        refine XQ.then_normal ?_
        refine XC.seq ?_
        refine XC.draw m_mixed none (.pure 0 (.pure 1 (.pure 2 (.pure 3 (.pure 4 (.pure 5 (.pure 6 (.pure 7 (.pure 11 (.eff 8 (.eff 9 (.pure 10 (.done))))))))))))) _ (by kernel_rfl) (List.Sublist.refl _) ?_
        refine XR.rd rfl rfl rfl (Reads.load_whole k37 z37 rfl (by first | exact WholeAt.of 0 rfl | exact WholeAt.of 1 rfl | exact WholeAt.of 2 rfl | exact WholeAt.of 3 rfl | exact WholeAt.of 4 rfl | exact WholeAt.of 5 rfl | exact WholeAt.of 6 rfl | exact WholeAt.of 7 rfl | exact WholeAt.of 8 rfl | exact WholeAt.of 9 rfl) (by rfl)) ?_
        refine XR.rd rfl rfl rfl (Reads.load_whole k37 z37 rfl (by first | exact WholeAt.of 0 rfl | exact WholeAt.of 1 rfl | exact WholeAt.of 2 rfl | exact WholeAt.of 3 rfl | exact WholeAt.of 4 rfl | exact WholeAt.of 5 rfl | exact WholeAt.of 6 rfl | exact WholeAt.of 7 rfl | exact WholeAt.of 8 rfl | exact WholeAt.of 9 rfl) (by rfl)) ?_
        refine XR.rd rfl rfl rfl (Reads.index_arr_own (q := 0) Tryd.underlying27 z3 rfl rfl (by decide) rfl) ?_
        refine XR.rd rfl rfl rfl (Reads.load_own k3 rfl (by first | exact OwnAt.of 0 rfl rfl | exact OwnAt.of 1 rfl rfl | exact OwnAt.of 2 rfl rfl | exact OwnAt.of 3 rfl rfl | exact OwnAt.of 4 rfl rfl | exact OwnAt.of 5 rfl rfl | exact OwnAt.of 6 rfl rfl | exact OwnAt.of 7 rfl rfl | exact OwnAt.of 8 rfl rfl | exact OwnAt.of 9 rfl rfl)) ?_
        refine XR.rd rfl rfl rfl (Reads.index_arr_own (q := 1) Tryd.underlying27 z3 rfl rfl (by decide) rfl) ?_
        refine XR.rd rfl rfl rfl (Reads.load_own k3 rfl (by first | exact OwnAt.of 0 rfl rfl | exact OwnAt.of 1 rfl rfl | exact OwnAt.of 2 rfl rfl | exact OwnAt.of 3 rfl rfl | exact OwnAt.of 4 rfl rfl | exact OwnAt.of 5 rfl rfl | exact OwnAt.of 6 rfl rfl | exact OwnAt.of 7 rfl rfl | exact OwnAt.of 8 rfl rfl | exact OwnAt.of 9 rfl rfl)) ?_
        refine XR.rd rfl rfl rfl (Reads.index_arr_own (q := 2) Tryd.underlying27 z3 rfl rfl (by decide) rfl) ?_
        refine XR.rd rfl rfl rfl (Reads.load_own k3 rfl (by first | exact OwnAt.of 0 rfl rfl | exact OwnAt.of 1 rfl rfl | exact OwnAt.of 2 rfl rfl | exact OwnAt.of 3 rfl rfl | exact OwnAt.of 4 rfl rfl | exact OwnAt.of 5 rfl rfl | exact OwnAt.of 6 rfl rfl | exact OwnAt.of 7 rfl rfl | exact OwnAt.of 8 rfl rfl | exact OwnAt.of 9 rfl rfl)) ?_
        refine XR.rd rfl rfl rfl (Reads.move rfl) ?_
        refine XR.call rfl rfl rfl en17 (bent_any x ab cb bd.a bd.b bd.c _ hA (by omega) (by omega) hbd.a hbd.b hbd.c) ⟨rfl, rfl, rfl, rfl, trivial⟩ (List.Sublist.refl _) ?_
        rintro u J111 hle111 hr
        replace hI := Im.le_trans hI hle111
        replace hG := hG.mono hle111
        replace hC := hC.mono hle111
        replace hK := hK.mono hle111
        replace hA := hA.mono hle111
        replace hO := hO.mono hle111
        rw [← hy] at hr
        obtain ⟨a2, c2, rfl, hcp_hB, hB⟩ := hr
        refine XR.buildL [.agg (x.cs ab cb).toArray, .agg (y.cs a2 c2).toArray] (x.cs ab cb ++ y.cs a2 c2) rfl rfl rfl Tryd.underlying60 el37 rfl (by simp) ⟨rfl, rfl, rfl, rfl, trivial⟩ rfl rfl (List.Sublist.refl _) (fun b124 => ?_)
        refine XR.rd rfl rfl rfl (Reads.len_slice Tryd.underlying60 rfl) ?_
        refine XR.nil ?_
        refine XQ.then_normal ?_
        refine XC.block ?_
        refine XC.loop (ι := Nat × Im) (fun q => [(4, .int .i64 lv), (5, .int .i64 st), (6, .slice ao lo.length co), (7, .pointer (some ⟨b7, 0, none⟩)), (8, .pointer (some ⟨b8, 0, none⟩)), (9, .pointer (some ⟨b9, 0, none⟩)), (15, .slice ak allK.length ck), (16, .pointer (some ⟨b16, 0, none⟩)), (18, .int .i64 cc), (20, .string key), (49, .slice (some ⟨b49, 0, none⟩) 2 2), (50, .int .i64 2), (51, .int .i64 ia), (63, .slice (some ⟨b63, 0, none⟩) 2 2), (64, .int .i64 2), (65, .int .i64 ib), (124, .slice (some ⟨b124, 0, none⟩) 2 2), (125, .int .i64 2), (126, .int .i64 q.1)]) (fun q => q.2) (fun q => some (b124, .cells (x.cs ab cb ++ y.cs a2 c2).toArray 37 (0, 0)) :: some (b72, .cells ([Value.int .i64 lv, .int .i64 (pickI lv 4)] : List Value).toArray 3 (0, 0)) :: some (b63, .cells ([Value.string (keyC (pickI cc 8).toNat), .string lo[0]] : List Value).toArray 9 (0, 0)) :: some (b49, .cells ([Value.int .i64 ca, .int .i64 (pickI ca 8)] : List Value).toArray 3 (0, 0)) :: some (b16, .cells ((x).cs ab cb).toArray 37 (0, 0)) :: some (b9, .cells d.cs.toArray 34 (0, 0)) :: some (b8, .cells bd.cells.toArray 27 (0, 0)) :: some (b7, .cells (n.cs a0 c0).toArray 26 (0, 0)) :: ([] ++ Lf)) (fun q => q.1 ≤ 2 ∧ I.le q.2 ∧ Glob q.2 ∧ Arr q.2 a0 n.cars ∧ Arr q.2 ak allK ∧ Arr q.2 ab x.hs ∧ Arr q.2 ao lo ∧ Arr q.2 a2 y.hs) (fun q => 2 - q.1) (0, _) ⟨Nat.zero_le _, hI, hG, hC, hK, hA, hO, hB⟩ ⟨rfl, rfl, rfl, rfl, rfl, rfl, rfl, rfl, rfl, rfl, rfl, rfl, rfl, rfl, rfl, rfl, rfl, rfl, rfl, trivial⟩ rfl (List.Perm.refl _) (fun q hq => ?_)
        obtain ⟨ig, M5⟩ := q
        obtain ⟨hig1, hI, hG, hC, hK, hA, hO, hB⟩ := hq
        simp only at hig1 hI hG hC hK hA hO hB ⊢
        refine XC.seq ?_
        refine XC.region ?_
        refine XO.rd rfl rfl rfl (Reads.cmp rfl rfl rfl) ?_
        refine XO.nil ?_
        refine XQ.then_normal ?_
        refine XC.seq ?_
        refine XC.cond rfl (fun h5 => ?_) (fun h5 => ?_)
        · skip
          simp only [cmpInt, decide_eq_true_eq] at h5
          have hig3 : ig < 2 := by omega
          obtain ⟨z, az, cz, hz, hZ, hzl, hcp_hZ, hzc⟩ := two_atts (c := cb) (e := c2) hA hB hig3 (m := 7) (by omega) (by omega) hcp_hA hcp_hB
          refine XC.skip ?_
          refine XQ.then_normal ?_
          refine XC.seq ?_
          refine XC.block ?_
          refine XC.seq ?_
          refine XC.region ?_
          refine XO.rd rfl rfl rfl (Reads.index_own (q := ig * 5) Tryd.underlying60 z37 rfl rfl (by omega) (by omega)) ?_
          refine XO.rd rfl rfl rfl (Reads.load_agg_own (vs := z.cs az cz) k37 z37 rfl (fun j v hj => OwnAt.of 0 rfl (hzc j v hj))) ?_
          refine XO.alloc (cs := #[.int .i64 0, .int .i64 0, .int .i64 0, .int .i64 0, .slice none 0 0]) rfl rfl zo37 rfl (fun b30 => ?_)
          refine XO.store_agg (vs := (z).cs az cz) 0 rfl z37 rfl rfl (by simp [Value.oneCell']) rfl (by simp) ?_
          refine XO.nil ?_
          refine XQ.then_normal ?_
          refine XC.seq ?_
          refine XC.region ?_
          refine XO.rd rfl rfl rfl (Reads.move rfl) ?_
          refine XO.rd rfl rfl rfl (Reads.move rfl) ?_
          refine XO.rd rfl rfl rfl (Reads.move rfl) ?_
          refine XO.callp rfl rfl en16 (pickL_any st 256 _ hst (by decide)) ⟨rfl, rfl, trivial⟩ ?_
          rw [hs1]
          refine XO.call rfl rfl en14 (known_any ak ck allK s1 _ hK (by rw [allK_len]; decide)) ⟨rfl, rfl, trivial⟩ ?_
          rintro u J112 hle112 hr
          replace hI := Im.le_trans hI hle112
          replace hG := hG.mono hle112
          replace hC := hC.mono hle112
          replace hK := hK.mono hle112
          replace hA := hA.mono hle112
          replace hO := hO.mono hle112
          replace hB := hB.mono hle112
          replace hZ := hZ.mono hle112
          obtain ⟨ak1, ck1, rfl, hc_hK1, hK1⟩ := hr.ex
          refine XO.rd rfl rfl rfl (Reads.move rfl) ?_
          refine XO.buildL ([Value.slice ak allK.length ck, .slice ak1 (known allK s1).length ck1, .slice ao lo.length co]) ([Value.slice ak allK.length ck, .slice ak1 (known allK s1).length ck1, .slice ao lo.length co]) rfl rfl Tryd.underlying62 el29 rfl (by simp) ⟨rfl, rfl, rfl, rfl, rfl, rfl, trivial⟩ rfl rfl (fun b136 => ?_)
          refine XO.rd rfl rfl rfl (Reads.len_slice Tryd.underlying62 rfl) ?_
          refine XO.rd rfl rfl rfl (Reads.move rfl) ?_
          refine XO.nil ?_
          refine XQ.then_normal ?_
          refine XC.block ?_
          refine XC.loop (ι := Nat × Im) (fun q => [(4, .int .i64 lv), (5, .int .i64 st), (6, .slice ao lo.length co), (7, .pointer (some ⟨b7, 0, none⟩)), (8, .pointer (some ⟨b8, 0, none⟩)), (9, .pointer (some ⟨b9, 0, none⟩)), (15, .slice ak allK.length ck), (16, .pointer (some ⟨b16, 0, none⟩)), (18, .int .i64 cc), (20, .string key), (30, .pointer (some ⟨b30, 0, none⟩)), (49, .slice (some ⟨b49, 0, none⟩) 2 2), (50, .int .i64 2), (51, .int .i64 ia), (63, .slice (some ⟨b63, 0, none⟩) 2 2), (64, .int .i64 2), (65, .int .i64 ib), (124, .slice (some ⟨b124, 0, none⟩) 2 2), (125, .int .i64 2), (126, .int .i64 ig), (136, .slice (some ⟨b136, 0, none⟩) 3 3), (137, .int .i64 3), (138, .int .i64 q.1)]) (fun q => q.2) (fun q => some (b136, .cells ([Value.slice ak allK.length ck, .slice ak1 (known allK s1).length ck1, .slice ao lo.length co] : List Value).toArray 29 (0, 0)) :: some (b30, .cells ((z).cs az cz).toArray 37 (0, 0)) :: some (b124, .cells (x.cs ab cb ++ y.cs a2 c2).toArray 37 (0, 0)) :: some (b72, .cells ([Value.int .i64 lv, .int .i64 (pickI lv 4)] : List Value).toArray 3 (0, 0)) :: some (b63, .cells ([Value.string (keyC (pickI cc 8).toNat), .string lo[0]] : List Value).toArray 9 (0, 0)) :: some (b49, .cells ([Value.int .i64 ca, .int .i64 (pickI ca 8)] : List Value).toArray 3 (0, 0)) :: some (b16, .cells ((x).cs ab cb).toArray 37 (0, 0)) :: some (b9, .cells d.cs.toArray 34 (0, 0)) :: some (b8, .cells bd.cells.toArray 27 (0, 0)) :: some (b7, .cells (n.cs a0 c0).toArray 26 (0, 0)) :: ([] ++ Lf)) (fun q => q.1 ≤ 3 ∧ I.le q.2 ∧ Glob q.2 ∧ Arr q.2 a0 n.cars ∧ Arr q.2 ak allK ∧ Arr q.2 ab x.hs ∧ Arr q.2 ao lo ∧ Arr q.2 a2 y.hs ∧ Arr q.2 az z.hs ∧ Arr q.2 ak1 (known allK s1)) (fun q => 3 - q.1) (0, _) ⟨Nat.zero_le _, hI, hG, hC, hK, hA, hO, hB, hZ, hK1⟩ ⟨rfl, rfl, rfl, rfl, rfl, rfl, rfl, rfl, rfl, rfl, rfl, rfl, rfl, rfl, rfl, rfl, rfl, rfl, rfl, rfl, rfl, rfl, rfl, trivial⟩ rfl (List.Perm.refl _) (fun q hq => ?_)
          obtain ⟨ih, M6⟩ := q
          obtain ⟨hih1, hI, hG, hC, hK, hA, hO, hB, hZ, hK1⟩ := hq
          simp only at hih1 hI hG hC hK hA hO hB hZ hK1 ⊢
          refine XC.seq ?_
          refine XC.weaken (E' := [(4, _), (5, _), (6, _), (7, _), (8, _), (9, _), (15, _), (16, _), (18, _), (20, _), (30, _), (49, _), (50, _), (51, _), (63, _), (64, _), (65, _), (124, _), (125, _), (126, _), (136, _), (137, _), (138, _)]) ⟨rfl, rfl, rfl, rfl, rfl, rfl, rfl, rfl, rfl, rfl, rfl, rfl, rfl, rfl, rfl, rfl, rfl, rfl, rfl, rfl, rfl, rfl, rfl, trivial⟩ ?_
          refine XC.region ?_
          refine XO.rd rfl rfl rfl (Reads.cmp rfl rfl rfl) ?_
          refine XO.nil ?_
          refine XQ.then_normal ?_
          refine XC.seq ?_
          refine XC.cond rfl (fun h6 => ?_) (fun h6 => ?_)
          · skip
            simp only [cmpInt, decide_eq_true_eq] at h6
            have hih3 : ih < 3 := by omega
            obtain ⟨kk, ka, kc, hkA, hkl9, hkc⟩ := three_keys (d := ck) (e := ck1) (f := co) hK hK1 hO (m := 10) (by rw [allK_len]; decide) (by rw [known_len, allK_len]; decide) hlo9.2 hih3
            refine XC.skip ?_
            refine XQ.then_normal ?_
            refine XC.seq ?_
            refine XC.block ?_
            refine XC.seq ?_
            refine XC.region ?_
            refine XO.rd rfl rfl rfl (Reads.index_own (q := ih) Tryd.underlying62 z29 rfl rfl (by omega) (by omega)) ?_
            refine XO.rd rfl rfl rfl (Reads.load_own k29 rfl (OwnAt.of 0 rfl hkc)) ?_
            refine XO.rd rfl rfl rfl (Reads.assign rfl) ?_
            refine XO.nil ?_
            refine XQ.then_normal ?_
            refine XC.seq ?_
            refine XC.region ?_
            refine XO.rd rfl rfl rfl (Reads.move rfl) ?_
            refine XO.rd rfl rfl rfl (Reads.move rfl) ?_
            refine XO.rd rfl rfl rfl (Reads.load_whole k37 z37 rfl (by first | exact WholeAt.of 0 rfl | exact WholeAt.of 1 rfl | exact WholeAt.of 2 rfl | exact WholeAt.of 3 rfl | exact WholeAt.of 4 rfl | exact WholeAt.of 5 rfl | exact WholeAt.of 6 rfl | exact WholeAt.of 7 rfl | exact WholeAt.of 8 rfl | exact WholeAt.of 9 rfl) (by rfl)) ?_
            refine XO.rd rfl rfl rfl (Reads.move rfl) ?_
            refine XO.call rfl rfl en40 (pass_any key z az ka cz kc kk cc _ hZ (by omega) hkA (by omega) (by omega) hG) ⟨rfl, rfl, rfl, rfl, trivial⟩ ?_
            rintro u J113 hle113 hr
            replace hI := Im.le_trans hI hle113
            replace hG := hG.mono hle113
            replace hC := hC.mono hle113
            replace hK := hK.mono hle113
            replace hA := hA.mono hle113
            replace hO := hO.mono hle113
            replace hB := hB.mono hle113
            replace hZ := hZ.mono hle113
            replace hK1 := hK1.mono hle113
            replace hkA := hkA.mono hle113
            obtain ⟨ao3, co3, rfl, hco_hU3, hU3, hno_hU3⟩ := hr.any4
            refine XO.rd rfl rfl rfl (Reads.move rfl) ?_
            refine XO.rd rfl rfl rfl (Reads.extract rfl rfl) ?_
            refine XO.rd rfl rfl rfl (Reads.extract rfl rfl) ?_
            refine XO.alloc (cs := #[.int .i64 0, .int .i64 0, .int .i64 0, .int .i64 0, .slice none 0 0]) rfl rfl zo37 rfl (fun b33 => ?_)
            refine XO.store_agg (vs := (((pass key kk z cc).getD none0)).cs ao3 co3) 0 rfl z37 rfl rfl (by simp [Value.oneCell']) rfl (by simp) ?_
            refine XO.rd rfl rfl rfl (Reads.assign rfl) ?_
            refine XO.nil ?_
            refine XQ.then_normal ?_
            refine XC.seq ?_
            refine XC.region ?_
            refine XO.rd rfl rfl rfl (Reads.move rfl) ?_
            refine XO.rd rfl rfl rfl (Reads.move rfl) ?_
            refine XO.rd rfl rfl rfl (Reads.load_whole k37 z37 rfl (by first | exact WholeAt.of 0 rfl | exact WholeAt.of 1 rfl | exact WholeAt.of 2 rfl | exact WholeAt.of 3 rfl | exact WholeAt.of 4 rfl | exact WholeAt.of 5 rfl | exact WholeAt.of 6 rfl | exact WholeAt.of 7 rfl | exact WholeAt.of 8 rfl | exact WholeAt.of 9 rfl) (by rfl)) ?_
            refine XO.rd rfl rfl rfl (Reads.move rfl) ?_
            refine XO.call rfl rfl en41 (rpass_any key z az ka cz kc kk cc _ hZ (by omega) hkA (by omega)) ⟨rfl, rfl, rfl, rfl, trivial⟩ ?_
            rintro u J114 hle114 hr
            replace hI := Im.le_trans hI hle114
            replace hG := hG.mono hle114
            replace hC := hC.mono hle114
            replace hK := hK.mono hle114
            replace hA := hA.mono hle114
            replace hO := hO.mono hle114
            replace hB := hB.mono hle114
            replace hZ := hZ.mono hle114
            replace hK1 := hK1.mono hle114
            replace hkA := hkA.mono hle114
            replace hU3 := hU3.mono hle114
            obtain ⟨ao4, co4, rfl, hco_hU4, hU4, hno_hU4⟩ := hr.any4
            refine XO.rd rfl rfl rfl (Reads.move rfl) ?_
            refine XO.rd rfl rfl rfl (Reads.extract rfl rfl) ?_
            refine XO.rd rfl rfl rfl (Reads.extract rfl rfl) ?_
            refine XO.alloc (cs := #[.int .i64 0, .int .i64 0, .int .i64 0, .int .i64 0, .slice none 0 0]) rfl rfl zo37 rfl (fun b35 => ?_)
            refine XO.store_agg (vs := (((pass key kk z cc).getD none0)).cs ao4 co4) 0 rfl z37 rfl rfl (by simp [Value.oneCell']) rfl (by simp) ?_
            refine XO.rd rfl rfl rfl (Reads.assign rfl) ?_
            refine XO.nil ?_
            refine XQ.then_normal ?_
            refine XC.seq ?_
            refine XC.weaken (E' := [(4, _), (5, _), (6, _), (7, _), (8, _), (9, _), (15, _), (16, _), (18, _), (20, _), (30, _), (33, _), (34, _), (35, _), (36, _), (49, _), (50, _), (51, _), (63, _), (64, _), (65, _), (124, _), (125, _), (126, _), (136, _), (137, _), (138, _)]) ⟨rfl, rfl, rfl, rfl, rfl, rfl, rfl, rfl, rfl, rfl, rfl, rfl, rfl, rfl, rfl, rfl, rfl, rfl, rfl, rfl, rfl, rfl, rfl, rfl, rfl, rfl, rfl, trivial⟩ ?_
            refine XC.region ?_
            refine XO.rd rfl rfl rfl (Reads.move rfl) ?_
            refine XO.rd rfl rfl rfl (Reads.move rfl) ?_
            refine XO.rd rfl rfl rfl (Reads.cmp_no rfl rfl rfl (by simp [cmpInt])) ?_
            refine XO.rd rfl rfl rfl (Reads.move rfl) ?_
            refine XO.rd (wg rfl rfl rfl) rfl rfl (Reads.load_whole k37 z37 rfl (by first | exact WholeAt.of 0 rfl | exact WholeAt.of 1 rfl | exact WholeAt.of 2 rfl | exact WholeAt.of 3 rfl | exact WholeAt.of 4 rfl | exact WholeAt.of 5 rfl | exact WholeAt.of 6 rfl | exact WholeAt.of 7 rfl | exact WholeAt.of 8 rfl | exact WholeAt.of 9 rfl) (by rfl)) ?_
            refine XO.rd (wg rfl rfl rfl) rfl rfl (Reads.load_whole k37 z37 rfl (by first | exact WholeAt.of 0 rfl | exact WholeAt.of 1 rfl | exact WholeAt.of 2 rfl | exact WholeAt.of 3 rfl | exact WholeAt.of 4 rfl | exact WholeAt.of 5 rfl | exact WholeAt.of 6 rfl | exact WholeAt.of 7 rfl | exact WholeAt.of 8 rfl | exact WholeAt.of 9 rfl) (by rfl)) ?_
            refine XO.callp (wg rfl rfl rfl) rfl en32 (rsame_any ((pass key kk z cc).getD none0) ao3 ao4 co3 co4 _ hU3 hU4 (by have := pass_len (key := key) (keys := kk) (x := z) (c := cc) (by omega); omega)) ⟨rfl, rfl, trivial⟩ ?_
            refine XO.rd (wg rfl rfl rfl) rfl rfl (Reads.not rfl) ?_
            refine XO.rd rfl rfl rfl (Reads.pick_false rfl rfl) ?_
            refine XO.nil ?_
            refine XQ.then_normal ?_
            refine XC.cond rfl (fun hx => by cases hx) (fun _ => ?_)
            refine XC.skip ?_
            refine XQ.block_normal ?_
            refine XQ.then_normal ?_
            refine XC.region ?_
            refine XO.rd rfl rfl rfl (Reads.add rfl rfl (by omega)) ?_
            refine XO.rd rfl rfl rfl (Reads.move rfl) ?_
            refine XO.nil ?_
            refine XQ.dropn 2 ?_
            refine XQ.back (ih + 1, _) ⟨by simp only; omega, hI, hG, hC, hK, hA, hO, hB, hZ, hK1⟩ (by simp only; omega) ⟨rfl, rfl, rfl, rfl, rfl, rfl, rfl, rfl, rfl, rfl, rfl, rfl, rfl, rfl, rfl, rfl, rfl, rfl, rfl, rfl, rfl, rfl, rfl, trivial⟩ rfl (List.Perm.refl _)
          · skip
            simp only [cmpInt, decide_eq_false_iff_not] at h6
            refine XC.exit ?_
            refine XQ.then_exit ?_
            refine XQ.then_exit ?_
            refine XQ.block_exit ?_
            refine XQ.block_normal ?_
            refine XQ.then_normal ?_
            refine XC.region ?_
            refine XO.rd rfl rfl rfl (Reads.add rfl rfl (by omega)) ?_
            refine XO.rd rfl rfl rfl (Reads.move rfl) ?_
            refine XO.nil ?_
            refine XQ.dropn 2 ?_
            refine XQ.back (ig + 1, _) ⟨by simp only; omega, hI, hG, hC, hK, hA, hO, hB⟩ (by simp only; omega) ⟨rfl, rfl, rfl, rfl, rfl, rfl, rfl, rfl, rfl, rfl, rfl, rfl, rfl, rfl, rfl, rfl, rfl, rfl, rfl, trivial⟩ rfl (List.Perm.refl _)
        · skip
          simp only [cmpInt, decide_eq_false_iff_not] at h5
          refine XC.exit ?_
          refine XQ.then_exit ?_
          refine XQ.then_exit ?_
          refine XQ.block_exit ?_
          refine XQ.block_normal ?_
          refine XQ.then_normal ?_
          refine XC.region ?_
          refine XO.rd rfl rfl rfl (Reads.add rfl rfl (by omega)) ?_
          refine XO.rd rfl rfl rfl (Reads.move rfl) ?_
          refine XO.nil ?_
          refine XQ.dropn 2 ?_
          refine XQ.back (ib + 1, _) ⟨by simp only; omega, hI, hG, hC, hK, hA, hO⟩ (by simp only; omega) ⟨rfl, rfl, rfl, rfl, rfl, rfl, rfl, rfl, rfl, rfl, rfl, rfl, rfl, rfl, rfl, trivial⟩ rfl (List.Perm.refl _)
    · skip
      simp only [cmpInt, decide_eq_false_iff_not] at h2
      refine XC.exit ?_
      refine XQ.then_exit ?_
      refine XQ.then_exit ?_
      refine XQ.block_exit ?_
      refine XQ.block_normal ?_
      refine XQ.then_normal ?_
      refine XC.region ?_
      refine XO.rd rfl rfl rfl (Reads.add rfl rfl (by omega)) ?_
      refine XO.rd rfl rfl rfl (Reads.move rfl) ?_
      refine XO.nil ?_
      refine XQ.dropn 1 ?_
      refine XQ.back (ia + 1, _) ⟨by simp only; omega, hI, hG, hC, hK, hA, hO⟩ (by simp only; omega) ⟨rfl, rfl, rfl, rfl, rfl, rfl, rfl, rfl, rfl, rfl, rfl, trivial⟩ rfl (List.Perm.refl _)
  · skip
    simp only [cmpInt, decide_eq_false_iff_not] at h1
    refine XC.exit ?_
    refine XQ.then_exit ?_
    refine XQ.then_exit ?_
    refine XQ.block_exit ?_
    refine XQ.then_normal ?_
    refine XC.seq ?_
    refine XC.region ?_
    refine XO.rd rfl rfl rfl (Reads.assign rfl) ?_
    refine XO.nil ?_
    refine XQ.then_normal ?_
    refine XC.ret ?_
    refine XQ.dropn 5 ?_
    refine XQ.done1 (L := []) rfl rfl hI ?_
    exact ⟨rfl, rfl⟩

end Go.Proofs.YtmlliafhpbfdbaaDoor
