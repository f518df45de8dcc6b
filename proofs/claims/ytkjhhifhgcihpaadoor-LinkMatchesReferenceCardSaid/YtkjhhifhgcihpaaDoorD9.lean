/- Walks: two ends, the examples. -/
import Derived.Test.YtkjhhifhgcihpaaDoorD8
import Derived.Test.YtkjhhifhgcihpaaDoorK2
namespace Go.Proofs.YtkjhhifhgcihpaaDoor
open Go.Xe Go.Sh Go Go.Lk

theorem pair_any (I : Im) : FSo Tryd.prog 13 [] I [] (fun u I' L' => ∃ ba ha bb hb, u = .tuple #[.pointer (some ⟨ba, 0, none⟩), .pointer (some ⟨bb, 0, none⟩), .bool true] ∧ I' = I ∧ L' = endL bb B0 hb ++ endL ba A0 ha ∧ EndIs A0 ha ∧ EndIs B0 hb) := by
  refine FSo.intro (n := 35) Tryd.func13 rfl rfl rfl (fun K Lf => ?_)
  refine XC.seq ?_
  refine XC.region ?_
  refine XO.rd rfl rfl rfl (Reads.assign rfl) ?_
  refine XO.rd rfl rfl rfl (Reads.assign rfl) ?_
  refine XO.rd rfl rfl rfl (Reads.assign rfl) ?_
  refine XO.nil ?_
  refine XQ.then_normal ?_
  refine XC.seq ?_
  refine XC.region ?_
  refine XO.callp rfl rfl en17 (key_any 0 _ (by decide)) ⟨rfl, trivial⟩ ?_
  refine XO.callp rfl rfl en17 (key_any 1 _ (by decide)) ⟨rfl, trivial⟩ ?_
  refine XO.callo (vs := [_, _]) (L1 := []) rfl rfl rfl en40 ⟨rfl, rfl, trivial⟩ (open_any (keyB 0) (keyB 1) _ (by rw [keyB_size]; decide) (by rw [keyB_size]; decide)) (List.Perm.refl _) ?_
  rintro v I' L' _ hr
  obtain ⟨_, _, ba, ha, rfl, hI', rfl, hEa⟩ := hr.resolve_right (fun hh => hh.1 ⟨keyB_size _, keyB_size _⟩)
  replace hI' := hI'.symm
  subst hI'
  refine XO.rd rfl rfl rfl (Reads.move rfl) ?_
  refine XO.rd rfl rfl rfl (Reads.extract rfl rfl) ?_
  refine XO.rd rfl rfl rfl (Reads.extract rfl rfl) ?_
  refine XO.rd rfl rfl rfl (Reads.assign rfl) ?_
  refine XO.rd rfl rfl rfl (Reads.assign rfl) ?_
  refine XO.nil ?_
  refine XQ.then_normal ?_
  refine XC.seq ?_
  refine XC.region ?_
  refine XO.callp rfl rfl en17 (key_any 1 _ (by decide)) ⟨rfl, trivial⟩ ?_
  refine XO.callp rfl rfl en17 (key_any 0 _ (by decide)) ⟨rfl, trivial⟩ ?_
  refine XO.callo (vs := [_, _]) (L1 := []) rfl rfl rfl en40 ⟨rfl, rfl, trivial⟩ (open_any (keyB 1) (keyB 0) _ (by rw [keyB_size]; decide) (by rw [keyB_size]; decide)) (List.Perm.refl _) ?_
  rintro v I' L' _ hr
  obtain ⟨_, _, bb, hb, rfl, hI', rfl, hEb⟩ := hr.resolve_right (fun hh => hh.1 ⟨keyB_size _, keyB_size _⟩)
  replace hI' := hI'.symm
  subst hI'
  refine XO.rd rfl rfl rfl (Reads.move rfl) ?_
  refine XO.rd rfl rfl rfl (Reads.extract rfl rfl) ?_
  refine XO.rd rfl rfl rfl (Reads.extract rfl rfl) ?_
  refine XO.rd rfl rfl rfl (Reads.assign rfl) ?_
  refine XO.rd rfl rfl rfl (Reads.assign rfl) ?_
  refine XO.nil ?_
  refine XQ.then_normal ?_
  refine XC.seq ?_
  refine XC.region ?_
  refine XO.rd rfl rfl rfl (Reads.move rfl) ?_
  refine XO.rd rfl rfl rfl (Reads.move rfl) ?_
  refine XO.rd rfl rfl rfl (Reads.move rfl) ?_
  refine XO.rd rfl rfl rfl (Reads.cmp rfl rfl rfl) ?_
  refine XO.rd rfl rfl rfl (Reads.move rfl) ?_
  refine XO.rd (wg rfl rfl rfl) rfl rfl (Reads.move rfl) ?_
  refine XO.rd (wg rfl rfl rfl) rfl rfl (Reads.cmp rfl rfl rfl) ?_
  refine XO.rd rfl rfl rfl (Reads.pick_true rfl rfl) ?_
  refine XO.rd rfl rfl rfl (Reads.move rfl) ?_
  refine XO.rd (wg rfl rfl rfl) rfl rfl (Reads.move rfl) ?_
  refine XO.rd (wg rfl rfl rfl) rfl rfl (Reads.ptr_ne_nil Tryd.underlying25 rfl rfl) ?_
  refine XO.rd rfl rfl rfl (Reads.pick_true rfl rfl) ?_
  refine XO.rd rfl rfl rfl (Reads.move rfl) ?_
  refine XO.rd (wg rfl rfl rfl) rfl rfl (Reads.move rfl) ?_
  refine XO.rd (wg rfl rfl rfl) rfl rfl (Reads.ptr_ne_nil Tryd.underlying25 rfl rfl) ?_
  refine XO.rd rfl rfl rfl (Reads.pick_true rfl rfl) ?_
  refine XO.rd rfl rfl rfl (Reads.assign rfl) ?_
  refine XO.rd rfl rfl rfl (Reads.assign rfl) ?_
  refine XO.rd rfl rfl rfl (Reads.assign rfl) ?_
  refine XO.nil ?_
  refine XQ.then_normal ?_
  refine XC.ret ?_
  refine XQ.done3 (L := endL bb B0 hb ++ endL ba A0 ha) rfl rfl rfl rfl (Im.le_refl _) ?_
  exact ⟨ba, ha, bb, hb, rfl, rfl, rfl, hEa, hEb⟩

theorem sane_any (I : Im) (hG : Glob I) : FC Tryd.prog 14 [] I (fun u I' => u = .bool true) := by
  have hI := Im.le_refl I
  refine FSo.intro (n := 235) Tryd.func14 rfl rfl rfl (fun K Lf => ?_)
  refine XC.seq ?_
  refine XC.region ?_
  refine XO.rd rfl rfl rfl (Reads.assign rfl) ?_
  refine XO.nil ?_
  refine XQ.then_normal ?_
  refine XC.seq ?_
  refine XC.region ?_
  refine XO.callo (vs := []) (L1 := []) rfl rfl rfl en13 trivial (pair_any _) (List.Perm.refl _) ?_
  rintro v I' L' _ ⟨ba, ha, bb, hb, rfl, hI', rfl, hEa, hEb⟩
  replace hI' := hI'.symm
  subst hI'
  refine XO.rd rfl rfl rfl (Reads.move rfl) ?_
  refine XO.rd rfl rfl rfl (Reads.extract rfl rfl) ?_
  refine XO.rd rfl rfl rfl (Reads.extract rfl rfl) ?_
  refine XO.rd rfl rfl rfl (Reads.extract rfl rfl) ?_
  refine XO.rd rfl rfl rfl (Reads.assign rfl) ?_
  refine XO.rd rfl rfl rfl (Reads.assign rfl) ?_
  refine XO.rd rfl rfl rfl (Reads.assign rfl) ?_
  refine XO.nil ?_
  refine XQ.then_normal ?_
  refine XC.seq ?_
  refine XC.seq ?_
  refine XC.region ?_
  refine XO.rd rfl rfl rfl (Reads.move rfl) ?_
  refine XO.rd rfl rfl rfl (Reads.not rfl) ?_
  refine XO.rd rfl rfl rfl (Reads.move rfl) ?_
  refine XO.rd (wg rfl rfl rfl) rfl rfl (Reads.move rfl) ?_
  refine XO.callo (vs := [_, _]) (L1 := (endL ba A0 ha)) (wg rfl rfl rfl) rfl rfl en20 ⟨rfl, rfl, trivial⟩ (send_is sane_s1 hEa (by decide)) (perm_take [3, 3, 3]) ?_
  rintro v I' L' _ ⟨rfl, hI', ha, rfl, hEa⟩
  replace hI' := hI'.symm
  subst hI'
  refine XO.own_eq (L' := endL ba A1 ha ++ (endL bb B0 hb ++ Lf)) rfl ?_
  refine XO.rd (wg rfl rfl rfl) rfl rfl (Reads.cmp rfl rfl rfl) ?_
  refine XO.rd rfl rfl rfl (Reads.pick_false rfl rfl) ?_
  refine XO.rd rfl rfl rfl (Reads.move rfl) ?_
  refine XO.rd (wg rfl rfl rfl) rfl rfl (Reads.move rfl) ?_
  refine XO.callo (vs := [_, _]) (L1 := (endL ba A1 ha)) (wg rfl rfl rfl) rfl rfl en20 ⟨rfl, rfl, trivial⟩ (send_is sane_s2 hEa (by decide)) (List.Perm.refl _) ?_
  rintro v I' L' _ ⟨rfl, hI', ha, rfl, hEa⟩
  replace hI' := hI'.symm
  subst hI'
  refine XO.rd (wg rfl rfl rfl) rfl rfl (Reads.cmp rfl rfl rfl) ?_
  refine XO.rd rfl rfl rfl (Reads.pick_false rfl rfl) ?_
  refine XO.rd rfl rfl rfl (Reads.move rfl) ?_
  refine XO.rd (wg rfl rfl rfl) rfl rfl (Reads.move rfl) ?_
  refine XO.callo (vs := [_, _]) (L1 := (endL ba A2 ha)) (wg rfl rfl rfl) rfl rfl en20 ⟨rfl, rfl, trivial⟩ (send_is sane_s3 hEa (by decide)) (List.Perm.refl _) ?_
  rintro v I' L' _ ⟨rfl, hI', ha, rfl, hEa⟩
  replace hI' := hI'.symm
  subst hI'
  refine XO.rd (wg rfl rfl rfl) rfl rfl (Reads.cmp rfl rfl rfl) ?_
  refine XO.rd rfl rfl rfl (Reads.pick_false rfl rfl) ?_
  refine XO.nil ?_
  refine XQ.then_normal ?_
  refine XC.cond rfl (fun hx => by cases hx) (fun _ => ?_)
  refine XC.skip ?_
  refine XQ.then_normal ?_
  refine XC.seq ?_
  refine XC.region ?_
  refine XO.rd rfl rfl rfl (Reads.move rfl) ?_
  refine XO.callo (vs := [_]) (L1 := (endL ba A3 ha)) rfl rfl rfl en22 ⟨rfl, trivial⟩ (out_is sane_out hEa hG) (List.Perm.refl _) ?_
  rintro v I' L' _ ⟨V, rfl, hI', rfl, hV, hVl⟩
  replace hI' := hI'.symm
  subst hI'
  refine XO.vec_done (α := Pkt) (by decide) hV (flat_pkt _ _) (fun Jhle1 hle1 hshle1 => ?_)
  replace hI := Im.le_trans hI hle1
  replace hG := hG.mono hle1
  obtain ⟨blkV, lenV, capV⟩ := V
  simp only at hVl hshle1 ⊢
  subst hVl
  have hO := hshle1.arr.1
  refine XO.rd rfl rfl rfl (Reads.assign rfl) ?_
  refine XO.nil ?_
  refine XQ.then_normal ?_
  refine XC.seq ?_
  refine XC.seq ?_
  refine XC.region ?_
  refine XO.rd rfl rfl rfl (Reads.move rfl) ?_
  refine XO.rd rfl rfl rfl (Reads.len_slice Tryd.underlying37 rfl) ?_
  refine XO.rd rfl rfl rfl (Reads.cmp rfl rfl rfl) ?_
  refine XO.rd rfl rfl rfl (Reads.move rfl) ?_
  refine XO.rd (wg rfl rfl rfl) rfl rfl (Reads.move rfl) ?_
  refine XO.callo (vs := [_]) (L1 := (endL ba A3 ha)) (wg rfl rfl rfl) rfl rfl en31 ⟨rfl, trivial⟩ (sent_any ba A3 ha _ hEa) (List.Perm.refl _) ?_
  rintro v I' L' _ ⟨rfl, hI', rfl⟩
  replace hI' := hI'.symm
  subst hI'
  refine XO.rd (wg rfl rfl rfl) rfl rfl (Reads.cmp rfl rfl rfl) ?_
  refine XO.rd rfl rfl rfl (Reads.pick_false rfl rfl) ?_
  refine XO.rd rfl rfl rfl (Reads.move rfl) ?_
  refine XO.rd (wg rfl rfl rfl) rfl rfl (Reads.move rfl) ?_
  refine XO.callo (vs := [_]) (L1 := (endL ba A3 ha)) (wg rfl rfl rfl) rfl rfl en33 ⟨rfl, trivial⟩ (waiting_any ba A3 ha _ hEa) (List.Perm.refl _) ?_
  rintro v I' L' _ ⟨rfl, hI', rfl⟩
  replace hI' := hI'.symm
  subst hI'
  refine XO.rd (wg rfl rfl rfl) rfl rfl (Reads.cmp rfl rfl rfl) ?_
  refine XO.rd rfl rfl rfl (Reads.pick_false rfl rfl) ?_
  refine XO.nil ?_
  refine XQ.then_normal ?_
  refine XC.cond rfl (fun hx => by cases hx) (fun _ => ?_)
  refine XC.skip ?_
  refine XQ.then_normal ?_
  refine XC.seq ?_
  refine XC.seq ?_
  refine XC.region ?_
  refine XO.rd rfl rfl rfl (Reads.assign rfl) ?_
  refine XO.nil ?_
  refine XQ.then_normal ?_
  refine XC.block ?_
  refine XC.loop (ι := Nat) (fun q => [(1, .pointer (some ⟨ba, 0, none⟩)), (2, .pointer (some ⟨bb, 0, none⟩)), (4, .slice (Vec.addr ⟨blkV, 3, capV⟩) 3 capV), (5, .int .i64 q)]) (fun q => Jhle1) (fun q => endL ba A3 ha ++ endL bb B0 hb ++ Lf) (fun q => q ≤ 3) (fun q => 3 - q) 0 (Nat.zero_le _) ⟨rfl, rfl, rfl, rfl, trivial⟩ rfl (List.Perm.refl _) (fun k hk => ?_)
  refine XC.seq ?_
  refine XC.seq ?_
  refine XC.region ?_
  refine XO.rd rfl rfl rfl (Reads.move rfl) ?_
  refine XO.rd rfl rfl rfl (Reads.cmp rfl rfl rfl) ?_
  refine XO.nil ?_
  refine XQ.then_normal ?_
  refine XC.cond rfl (fun h1 => ?_) (fun h1 => ?_)
  · skip
    simp only [cmpInt, decide_eq_true_eq] at h1
    have hk3 : k < 3 := by omega
    have hOk : ∀ (j : Nat) (v : Value), ((PF k).cells)[j]? = some v → At _ _ (k * 4 + j) v := fun j v hj => Arr.pkt hO (j := k) hk3 j v (by rw [PF3_get hk3]; exact hj)
    refine XC.skip ?_
    refine XQ.then_normal ?_
    refine XC.seq ?_
    refine XC.block ?_
    refine XC.seq ?_
    refine XC.region ?_
    refine XO.rd rfl rfl rfl (Reads.move rfl) ?_
    refine XO.rd rfl rfl rfl (Reads.add rfl rfl (by omega)) ?_
    refine XO.buildL [.string sX, .string sY, .string sZ] [.string sX, .string sY, .string sZ] rfl rfl Tryd.underlying44 el9 rfl (by simp) ⟨rfl, rfl, rfl, rfl, rfl, rfl, trivial⟩ rfl rfl (fun bu => ?_)
    refine XO.rd rfl rfl rfl (Reads.move rfl) ?_
    refine XO.rd rfl rfl rfl (Reads.index_own (q := k) Tryd.underlying44 z9 rfl rfl (by omega) (by omega)) ?_
    refine XO.rd rfl rfl rfl (Reads.load_own (v := .string (S3.getD k ⟨#[]⟩)) k9 rfl (OwnAt.of 0 rfl (strC_get (l := S3) (i := k) (by show k < 3; omega)))) ?_
    refine XO.rd rfl rfl rfl (bd24 (vs := [(0, _), (2, _)]) #[_, .int .i64 0, _, .string ⟨#[]⟩] ⟨rfl, rfl, rfl, rfl, trivial⟩ rfl) ?_
    refine XO.alloc (cs := #[.int .i64 0, .int .i64 0, .string ⟨#[]⟩, .string ⟨#[]⟩]) rfl rfl zo24 rfl (fun b6 => ?_)
    refine XO.store_agg (vs := (wantP k).cells) 0 rfl z24 rfl rfl (by intro v hv; simp at hv; rcases hv with rfl | rfl | rfl | rfl <;> rfl) rfl (Nat.le_refl 4) ?_
    refine XO.own_eq (congrArg (fun c => some (b6, Obj.cells c 24 (0, 0)) :: _) (show _ = (wantP k).cells.toArray from rfl)) ?_
    refine XO.nil ?_
    refine XQ.then_normal ?_
    refine XC.seq ?_
    refine XC.weaken (E' := [(1, _), (2, _), (4, _), (5, _), (6, _)]) ⟨rfl, rfl, rfl, rfl, rfl, trivial⟩ ?_
    refine XC.draw m_mixed (some 4) (.pure 1 (.eff 0 (.eff 2 (.pure 3 (.eff 4 (.done)))))) _ (by kernel_rfl) (List.Sublist.refl _) ?_
    refine XR.rd rfl rfl rfl (Reads.load_whole (c := (wantP k).cells.toArray) k24 z24 rfl (WholeAt.of 0 rfl) rfl) ?_
    refine XR.callp rfl rfl rfl en17 (key_any 0 _ (by decide)) ⟨rfl, trivial⟩ (List.Sublist.refl _) ?_
    refine XR.callp rfl rfl rfl en41 (rseal_any (keyB 0) (wantP k) _ (by rw [keyB_size]; decide) (wantP_in hk3)) ⟨rfl, rfl, trivial⟩ (List.Sublist.refl _) ?_
    refine XR.rd rfl rfl rfl (fa24_3 rfl) ?_
    refine XR.store 0 rfl rfl z9 rfl rfl rfl rfl (by show 3 < 4; decide) (.inl rfl) ?_
    refine XR.own_eq (congrArg (fun c => some (b6, Obj.cells c 24 (0, 0)) :: _) (show _ = (PF k).cells.toArray from rfl)) ?_
    refine XR.nil ?_
    refine XQ.then_normal ?_
    refine XC.seq ?_
    refine XC.draw m_mixed none (.pure 0 (.pure 1 (.pure 2 (.pure 3 (.pure 4 (.pure 5 (.pure 6 (.pure 8 (.pure 9 (.pure 10 (.pure 11 (.eff 7 (.eff 12 (.pure 13 (.pure 14 (.pure 15 (.pure 17 (.pure 18 (.pure 19 (.pure 20 (.eff 16 (.eff 21 (.pure 22 (.done)))))))))))))))))))))))) _ (by kernel_rfl) (List.Sublist.refl _) ?_
    refine XR.rd rfl rfl rfl (Reads.move rfl) ?_
    refine XR.rd rfl rfl rfl (Reads.move rfl) ?_
    refine XR.rd rfl rfl rfl (Reads.index_slot (q := k * 4) Tryd.underlying37 z24 rfl rfl (by omega) (Arr.isSome hO (by decide) (by decide)) (by omega)) ?_
    refine XR.rd rfl rfl rfl (Reads.load_agg_at (vs := (PF k).cells) k24 z24 rfl (Arr.addr hO (by decide) (by decide)) hOk) ?_
    refine XR.rd rfl rfl rfl (Reads.load_whole (c := (PF k).cells.toArray) k24 z24 rfl (WholeAt.of 0 rfl) rfl) ?_
    refine XR.rd rfl rfl rfl (Reads.pkt_ne (p := PF k) (q := PF k) rfl rfl) ?_
    rw [show (!decide (PF k = PF k)) = false by simp]
    refine XR.rd rfl rfl rfl (Reads.move rfl) ?_
    refine XR.rd rfl (wg rfl rfl rfl) rfl (Reads.move rfl) ?_
    refine XR.rd rfl (wg rfl rfl rfl) rfl (Reads.move rfl) ?_
    refine XR.rd rfl (wg rfl rfl rfl) rfl (Reads.index_slot (q := k * 4) Tryd.underlying37 z24 rfl rfl (by omega) (Arr.isSome hO (by decide) (by decide)) (by omega)) ?_
    refine XR.rd rfl (wg rfl rfl rfl) rfl (Reads.load_agg_at (vs := (PF k).cells) k24 z24 rfl (Arr.addr hO (by decide) (by decide)) hOk) ?_
    refine XR.callp rfl (wg rfl rfl rfl) rfl en17 (key_any 0 _ (by decide)) ⟨rfl, trivial⟩ (List.Sublist.refl _) ?_
    refine XR.callp rfl (wg rfl rfl rfl) rfl en29 (genuine_is (PF_gen hk3) (by rw [keyB_size]; decide) (PF_in hk3) hG) ⟨rfl, rfl, trivial⟩ (List.Sublist.refl _) ?_
    refine XR.rd rfl (wg rfl rfl rfl) rfl (Reads.not rfl) ?_
    refine XR.rd rfl rfl rfl (Reads.pick_false rfl rfl) ?_
    refine XR.rd rfl rfl rfl (Reads.move rfl) ?_
    refine XR.rd rfl (wg rfl rfl rfl) rfl (Reads.move rfl) ?_
    refine XR.rd rfl (wg rfl rfl rfl) rfl (Reads.move rfl) ?_
    refine XR.rd rfl (wg rfl rfl rfl) rfl (Reads.index_slot (q := k * 4) Tryd.underlying37 z24 rfl rfl (by omega) (Arr.isSome hO (by decide) (by decide)) (by omega)) ?_
    refine XR.rd rfl (wg rfl rfl rfl) rfl (Reads.load_agg_at (vs := (PF k).cells) k24 z24 rfl (Arr.addr hO (by decide) (by decide)) hOk) ?_
    refine XR.callp rfl (wg rfl rfl rfl) rfl en17 (key_any 1 _ (by decide)) ⟨rfl, trivial⟩ (List.Sublist.refl _) ?_
    refine XR.callp rfl (wg rfl rfl rfl) rfl en29 (genuine_is (PF_other k hk3) (by rw [keyB_size]; decide) (PF_in hk3) hG) ⟨rfl, rfl, trivial⟩ (List.Sublist.refl _) ?_
    refine XR.rd rfl rfl rfl (Reads.pick_false rfl rfl) ?_
    refine XR.nil ?_
    refine XQ.then_normal ?_
    refine XC.cond rfl (fun hx => by cases hx) (fun _ => ?_)
    refine XC.skip ?_
    refine XQ.block_normal ?_
    refine XQ.then_normal ?_
    refine XC.region ?_
    refine XO.rd rfl rfl rfl (Reads.move rfl) ?_
    refine XO.rd rfl rfl rfl (Reads.add rfl rfl (by omega)) ?_
    refine XO.rd rfl rfl rfl (Reads.assign rfl) ?_
    refine XO.nil ?_
    refine XQ.dropn 2 ?_
    refine XQ.back (k + 1) (by omega) (by omega) ⟨rfl, rfl, rfl, rfl, trivial⟩ rfl (List.Perm.refl _)
  · skip
    simp only [cmpInt, decide_eq_false_iff_not] at h1
    refine XC.exit ?_
    refine XQ.then_exit ?_
    refine XQ.then_exit ?_
    refine XQ.block_exit ?_
    refine XQ.then_normal ?_
    refine XC.seq ?_
    refine XC.region ?_
    refine XO.rd rfl rfl rfl (Reads.move rfl) ?_
    refine XO.rd rfl rfl rfl (Reads.move rfl) ?_
    refine XO.rd rfl rfl rfl (Reads.index_slot (q := 1 * 4) Tryd.underlying37 z24 rfl rfl (by simp) (Arr.isSome hO (by decide) (by decide)) (by decide)) ?_
    refine XO.rd rfl rfl rfl (Reads.load_agg_at (vs := (PF 1).cells) k24 z24 rfl (Arr.addr hO (by decide) (by decide)) (Arr.pkt hO (j := 1) (by decide))) ?_
    refine XO.callo (vs := [_, _]) (L1 := (endL bb B0 hb)) rfl rfl rfl en26 ⟨rfl, rfl, trivial⟩ (in_is sane_i1 hEb (PF_in (by decide)) hG) (perm_take [3, 3, 3]) ?_
    rintro v I' L' _ ⟨Va, hb, rfl, hI', rfl, hVa, hVal, hEb⟩
    replace hI' := hI'.symm
    subst hI'
    refine XO.dropn 1 ?_
    refine XO.own_eq (L' := endL bb B1 hb ++ (endL ba A3 ha ++ Lf)) rfl ?_
    refine XO.rd rfl rfl rfl (Reads.move rfl) ?_
    refine XO.rd rfl rfl rfl (Reads.extract rfl rfl) ?_
    refine XO.rd rfl rfl rfl (Reads.extract rfl rfl) ?_
    refine XO.rd rfl rfl rfl (Reads.assign rfl) ?_
    refine XO.rd rfl rfl rfl (Reads.assign rfl) ?_
    refine XO.nil ?_
    refine XQ.then_normal ?_
    refine XC.seq ?_
    refine XC.weaken (E' := [(1, _), (2, _), (4, _), (7, _), (8, _)]) ⟨rfl, rfl, rfl, rfl, rfl, trivial⟩ ?_
    refine XC.region ?_
    refine XO.rd rfl rfl rfl (Reads.move rfl) ?_
    refine XO.rd rfl rfl rfl (Reads.move rfl) ?_
    refine XO.rd rfl rfl rfl (Reads.index_slot (q := 0 * 4) Tryd.underlying37 z24 rfl rfl (by simp) (Arr.isSome hO (by decide) (by decide)) (by decide)) ?_
    refine XO.rd rfl rfl rfl (Reads.load_agg_at (vs := (PF 0).cells) k24 z24 rfl (Arr.addr hO (by decide) (by decide)) (Arr.pkt hO (j := 0) (by decide))) ?_
    refine XO.callo (vs := [_, _]) (L1 := (endL bb B1 hb)) rfl rfl rfl en26 ⟨rfl, rfl, trivial⟩ (in_is sane_i2 hEb (PF_in (by decide)) hG) (List.Perm.refl _) ?_
    rintro v I' L' _ ⟨Vb, hb, rfl, hI', rfl, hVb, hVbl, hEb⟩
    replace hI' := hI'.symm
    subst hI'
    refine XO.rd rfl rfl rfl (Reads.move rfl) ?_
    refine XO.vec_done (α := ByteArray) (by decide) hVb (flat_strs _ _) (fun J2 hle2 hs2 => ?_)
    refine XO.rd rfl rfl rfl (Reads.extract rfl rfl) ?_
    replace hI := Im.le_trans hI hle2
    replace hG := hG.mono hle2
    replace hO := hO.mono hle2
    refine XO.rd rfl rfl rfl (Reads.extract rfl rfl) ?_
    refine XO.rd rfl rfl rfl (Reads.assign rfl) ?_
    refine XO.rd rfl rfl rfl (Reads.assign rfl) ?_
    refine XO.nil ?_
    refine XQ.then_normal ?_
    refine XC.seq ?_
    refine XC.region ?_
    refine XO.rd rfl rfl rfl (Reads.move rfl) ?_
    refine XO.rd rfl rfl rfl (Reads.move rfl) ?_
    refine XO.rd rfl rfl rfl (Reads.index_slot (q := 1 * 4) Tryd.underlying37 z24 rfl rfl (by simp) (Arr.isSome hO (by decide) (by decide)) (by decide)) ?_
    refine XO.rd rfl rfl rfl (Reads.load_agg_at (vs := (PF 1).cells) k24 z24 rfl (Arr.addr hO (by decide) (by decide)) (Arr.pkt hO (j := 1) (by decide))) ?_
    refine XO.callo (vs := [_, _]) (L1 := (endL bb B2 hb)) rfl rfl rfl en26 ⟨rfl, rfl, trivial⟩ (in_is sane_i3 hEb (PF_in (by decide)) hG) (List.Perm.refl _) ?_
    rintro v I' L' _ ⟨Vc, hb, rfl, hI', rfl, hVc, hVcl, hEb⟩
    replace hI' := hI'.symm
    subst hI'
    refine XO.dropn 1 ?_
    refine XO.rd rfl rfl rfl (Reads.move rfl) ?_
    refine XO.rd rfl rfl rfl (Reads.extract rfl rfl) ?_
    refine XO.rd rfl rfl rfl (Reads.extract rfl rfl) ?_
    refine XO.rd rfl rfl rfl (Reads.assign rfl) ?_
    refine XO.rd rfl rfl rfl (Reads.assign rfl) ?_
    refine XO.nil ?_
    refine XQ.then_normal ?_
    refine XC.seq ?_
    refine XC.region ?_
    refine XO.rd rfl rfl rfl (Reads.move rfl) ?_
    refine XO.callo (vs := [_]) (L1 := (endL bb B3 hb)) rfl rfl rfl en22 ⟨rfl, trivial⟩ (out_is sane_out2 hEb hG) (List.Perm.refl _) ?_
    rintro v I' L' _ ⟨Vd, rfl, hI', rfl, hVd, hVdl⟩
    replace hI' := hI'.symm
    subst hI'
    refine XO.vec_done (α := Pkt) (by decide) hVd (flat_pkt _ _) (fun Jhle3 hle3 hshle3 => ?_)
    replace hI := Im.le_trans hI hle3
    replace hG := hG.mono hle3
    replace hO := hO.mono hle3
    obtain ⟨blkVd, lenVd, capVd⟩ := Vd
    simp only at hVdl hshle3 ⊢
    subst hVdl
    have hO2 := hshle3.arr.1
    refine XO.rd rfl rfl rfl (Reads.assign rfl) ?_
    refine XO.nil ?_
    refine XQ.then_normal ?_
    refine XC.seq ?_
    refine XC.seq ?_
    refine XC.region ?_
    refine XO.rd rfl rfl rfl (Reads.move rfl) ?_
    refine XO.rd rfl rfl rfl (Reads.cmp rfl rfl rfl) ?_
    refine XO.rd rfl rfl rfl (Reads.move rfl) ?_
    refine XO.rd (wg rfl rfl rfl) rfl rfl (Reads.move rfl) ?_
    refine XO.rd (wg rfl rfl rfl) rfl rfl (Reads.cmp rfl rfl rfl) ?_
    refine XO.rd rfl rfl rfl (Reads.pick_false rfl rfl) ?_
    refine XO.rd rfl rfl rfl (Reads.move rfl) ?_
    refine XO.rd (wg rfl rfl rfl) rfl rfl (Reads.move rfl) ?_
    refine XO.rd (wg rfl rfl rfl) rfl rfl (Reads.cmp rfl rfl rfl) ?_
    refine XO.rd rfl rfl rfl (Reads.pick_false rfl rfl) ?_
    refine XO.rd rfl rfl rfl (Reads.move rfl) ?_
    refine XO.rd (wg rfl rfl rfl) rfl rfl (Reads.move rfl) ?_
    refine XO.rd (wg rfl rfl rfl) rfl rfl (Reads.len_slice Tryd.underlying44 rfl) ?_
    refine XO.rd (wg rfl rfl rfl) rfl rfl (Reads.cmp rfl rfl rfl) ?_
    rw [hVal]
    refine XO.rd rfl rfl rfl (Reads.pick_false rfl rfl) ?_
    refine XO.rd rfl rfl rfl (Reads.move rfl) ?_
    refine XO.rd (wg rfl rfl rfl) rfl rfl (Reads.move rfl) ?_
    refine XO.lit (α := ByteArray) [sX, sY] [.string sX, .string sY] [.string sX, .string sY] (wg rfl rfl rfl) rfl Tryd.underlying44 el9 rfl (by simp) ⟨rfl, rfl, rfl, rfl, trivial⟩ rfl rfl (by decide) rfl (flat_strs _ [sX, sY]) (fun bl J4 hle4 hs4 => ?_)
    replace hI := Im.le_trans hI hle4
    replace hG := hG.mono hle4
    replace hO := hO.mono hle4
    replace hO2 := hO2.mono hle4
    refine XO.callp (wg rfl rfl rfl) rfl en28 (strings_is (c := true) (xs := [sX, sY]) (ys := [sX, sY]) (by decide) (by decide) hs2 (Im.le_trans hle3 hle4) hs4 (Im.le_refl _)) ⟨rfl, rfl, trivial⟩ ?_
    refine XO.rd (wg rfl rfl rfl) rfl rfl (Reads.not rfl) ?_
    refine XO.rd rfl rfl rfl (Reads.pick_false rfl rfl) ?_
    refine XO.rd rfl rfl rfl (Reads.move rfl) ?_
    refine XO.rd (wg rfl rfl rfl) rfl rfl (Reads.move rfl) ?_
    refine XO.rd (wg rfl rfl rfl) rfl rfl (Reads.len_slice Tryd.underlying44 rfl) ?_
    refine XO.rd (wg rfl rfl rfl) rfl rfl (Reads.cmp rfl rfl rfl) ?_
    rw [hVcl]
    refine XO.rd rfl rfl rfl (Reads.pick_false rfl rfl) ?_
    refine XO.rd rfl rfl rfl (Reads.move rfl) ?_
    refine XO.rd (wg rfl rfl rfl) rfl rfl (Reads.move rfl) ?_
    refine XO.callo (vs := [_]) (L1 := (endL bb B3 hb)) (wg rfl rfl rfl) rfl rfl en35 ⟨rfl, trivial⟩ (received_any bb B3 hb _ hEb) (List.Perm.refl _) ?_
    rintro v I' L' _ ⟨rfl, hI', rfl⟩
    replace hI' := hI'.symm
    subst hI'
    refine XO.rd (wg rfl rfl rfl) rfl rfl (Reads.cmp rfl rfl rfl) ?_
    rw [B3_got]
    refine XO.rd rfl rfl rfl (Reads.pick_false rfl rfl) ?_
    refine XO.rd rfl rfl rfl (Reads.move rfl) ?_
    refine XO.rd (wg rfl rfl rfl) rfl rfl (Reads.move rfl) ?_
    refine XO.rd (wg rfl rfl rfl) rfl rfl (Reads.len_slice Tryd.underlying37 rfl) ?_
    refine XO.rd (wg rfl rfl rfl) rfl rfl (Reads.cmp rfl rfl rfl) ?_
    refine XO.rd rfl rfl rfl (Reads.pick_false rfl rfl) ?_
    refine XO.rd rfl rfl rfl (Reads.move rfl) ?_
    refine XO.rd (wg rfl rfl rfl) rfl rfl (Reads.move rfl) ?_
    refine XO.rd (wg rfl rfl rfl) rfl rfl (Reads.index_slot (q := 0 * 4) Tryd.underlying37 z24 rfl rfl (by simp) (Arr.isSome hO2 (by decide) (by decide)) (by decide)) ?_
    refine XO.rd (wg rfl rfl rfl) rfl rfl (fs24_0 rfl (Arr.addr hO2 (by decide) (by decide))) ?_
    refine XO.rd (wg rfl rfl rfl) rfl rfl (Reads.load_at k3 rfl (Arr.pkt hO2 (j := 0) (by decide) 0 _ rfl)) ?_
    refine XO.rd (wg rfl rfl rfl) rfl rfl (Reads.cmp rfl rfl rfl) ?_
    refine XO.rd rfl rfl rfl (Reads.pick_false rfl rfl) ?_
    refine XO.rd rfl rfl rfl (Reads.move rfl) ?_
    refine XO.rd (wg rfl rfl rfl) rfl rfl (Reads.move rfl) ?_
    refine XO.rd (wg rfl rfl rfl) rfl rfl (Reads.index_slot (q := 0 * 4) Tryd.underlying37 z24 rfl rfl (by simp) (Arr.isSome hO2 (by decide) (by decide)) (by decide)) ?_
    refine XO.rd (wg rfl rfl rfl) rfl rfl (fs24_1 rfl (Arr.addr hO2 (by decide) (by decide))) ?_
    refine XO.rd (wg rfl rfl rfl) rfl rfl (Reads.load_at k3 rfl (Arr.pkt hO2 (j := 0) (by decide) 1 _ rfl)) ?_
    refine XO.rd (wg rfl rfl rfl) rfl rfl (Reads.cmp rfl rfl rfl) ?_
    refine XO.rd rfl rfl rfl (Reads.pick_false rfl rfl) ?_
    refine XO.nil ?_
    refine XQ.then_normal ?_
    refine XC.cond rfl (fun hx => by cases hx) (fun _ => ?_)
    refine XC.skip ?_
    refine XQ.then_normal ?_
    refine XC.seq ?_
    refine XC.weaken (E' := [(1, _), (2, _), (4, _), (13, _)]) ⟨rfl, rfl, rfl, rfl, trivial⟩ ?_
    refine XC.region ?_
    refine XO.rd rfl rfl rfl (Reads.move rfl) ?_
    refine XO.rd rfl rfl rfl (Reads.move rfl) ?_
    refine XO.rd rfl rfl rfl (Reads.index_slot (q := 0 * 4) Tryd.underlying37 z24 rfl rfl (by simp) (Arr.isSome hO2 (by decide) (by decide)) (by decide)) ?_
    refine XO.rd rfl rfl rfl (Reads.load_agg_at (vs := (PA).cells) k24 z24 rfl (Arr.addr hO2 (by decide) (by decide)) (Arr.pkt hO2 (j := 0) (by decide))) ?_
    refine XO.callo (vs := [_, _]) (L1 := (endL ba A3 ha)) rfl rfl rfl en26 ⟨rfl, rfl, trivial⟩ (in_is sane_i4 hEa PA_in hG) (perm_take [3, 3, 3]) ?_
    rintro v I' L' _ ⟨Ve, ha, rfl, hI', rfl, hVe, hVel, hEa⟩
    replace hI' := hI'.symm
    subst hI'
    refine XO.dropn 1 ?_
    refine XO.own_eq (L' := endL ba A4 ha ++ (endL bb B3 hb ++ Lf)) rfl ?_
    refine XO.rd rfl rfl rfl (Reads.move rfl) ?_
    refine XO.rd rfl rfl rfl (Reads.extract rfl rfl) ?_
    refine XO.rd rfl rfl rfl (Reads.extract rfl rfl) ?_
    refine XO.rd rfl rfl rfl (Reads.assign rfl) ?_
    refine XO.rd rfl rfl rfl (Reads.assign rfl) ?_
    refine XO.nil ?_
    refine XQ.then_normal ?_
    refine XC.seq ?_
    refine XC.region ?_
    refine XO.rd rfl rfl rfl (Reads.move rfl) ?_
    refine XO.callo (vs := [_]) (L1 := (endL ba A4 ha)) rfl rfl rfl en22 ⟨rfl, trivial⟩ (out_is sane_out3 hEa hG) (List.Perm.refl _) ?_
    rintro v I' L' _ ⟨Vf, rfl, hI', rfl, hVf, hVfl⟩
    replace hI' := hI'.symm
    subst hI'
    refine XO.vec_done (α := Pkt) (by decide) hVf (flat_pkt _ _) (fun Jhle5 hle5 hshle5 => ?_)
    replace hI := Im.le_trans hI hle5
    replace hG := hG.mono hle5
    replace hO := hO.mono hle5
    replace hO2 := hO2.mono hle5
    obtain ⟨blkVf, lenVf, capVf⟩ := Vf
    simp only at hVfl hshle5 ⊢
    subst hVfl
    have hO3 := hshle5.arr.1
    refine XO.rd rfl rfl rfl (Reads.assign rfl) ?_
    refine XO.nil ?_
    refine XQ.then_normal ?_
    refine XC.seq ?_
    refine XC.region ?_
    refine XO.rd rfl rfl rfl (Reads.move rfl) ?_
    refine XO.rd rfl rfl rfl (Reads.index_slot (q := 2 * 4) Tryd.underlying37 z24 rfl rfl (by simp) (Arr.isSome hO (by decide) (by decide)) (by decide)) ?_
    refine XO.rd rfl rfl rfl (Reads.load_agg_at (vs := (PF 2).cells) k24 z24 rfl (Arr.addr hO (by decide) (by decide)) (Arr.pkt hO (j := 2) (by decide))) ?_
    refine XO.alloc (cs := #[.int .i64 0, .int .i64 0, .string ⟨#[]⟩, .string ⟨#[]⟩]) rfl rfl zo24 rfl (fun b17 => ?_)
    refine XO.store_agg (vs := (PF 2).cells) 0 rfl z24 rfl rfl (by intro v hv; simp at hv; rcases hv with rfl | rfl | rfl | rfl <;> rfl) rfl (Nat.le_refl 4) ?_
    refine XO.own_eq (congrArg (fun c => some (b17, Obj.cells c 24 (0, 0)) :: _) (show _ = (PF 2).cells.toArray from rfl)) ?_
    refine XO.nil ?_
    refine XQ.then_normal ?_
    refine XC.seq ?_
    refine XC.region ?_
    refine XO.rd rfl rfl rfl (fa24_2 rfl) ?_
    refine XO.store 0 rfl z9 rfl rfl rfl rfl (by decide) ?_
    refine XO.own_eq (congrArg (fun c => some (b17, Obj.cells c 24 (0, 0)) :: _) (show _ = oddP.cells.toArray from rfl)) ?_
    refine XO.nil ?_
    refine XQ.then_normal ?_
    refine XC.seq ?_
    refine XC.region ?_
    refine XO.rd rfl rfl rfl (Reads.move rfl) ?_
    refine XO.rd rfl rfl rfl (Reads.load_whole (c := oddP.cells.toArray) k24 z24 rfl (WholeAt.of 0 rfl) rfl) ?_
    refine XO.callo (vs := [_, _]) (L1 := (endL bb B3 hb)) rfl rfl rfl en26 ⟨rfl, rfl, trivial⟩ (in_is sane_i5 hEb odd_in hG) (perm_take [4, 4, 4]) ?_
    rintro v I' L' _ ⟨Vg, hb, rfl, hI', rfl, hVg, hVgl, hEb⟩
    replace hI' := hI'.symm
    subst hI'
    refine XO.dropn 1 ?_
    refine XO.own_eq (L' := endL bb B3 hb ++ (some (b17, .cells oddP.cells.toArray 24 (0, 0)) :: (endL ba A4 ha ++ Lf))) rfl ?_
    refine XO.rd rfl rfl rfl (Reads.move rfl) ?_
    refine XO.rd rfl rfl rfl (Reads.extract rfl rfl) ?_
    refine XO.rd rfl rfl rfl (Reads.extract rfl rfl) ?_
    refine XO.rd rfl rfl rfl (Reads.assign rfl) ?_
    refine XO.rd rfl rfl rfl (Reads.assign rfl) ?_
    refine XO.nil ?_
    refine XQ.then_normal ?_
    refine XC.seq ?_
    refine XC.region ?_
    refine XO.callp rfl rfl en17 (key_any 0 _ (by decide)) ⟨rfl, trivial⟩ ?_
    refine XO.callo (vs := [_, _]) (L1 := []) rfl rfl rfl en40 ⟨rfl, rfl, trivial⟩ (open_any ⟨#[]⟩ (keyB 0) _ (by decide) (by rw [keyB_size]; decide)) (List.Perm.refl _) ?_
    rintro v I' L' _ hr
    obtain ⟨_, rfl, hI', rfl⟩ := hr.resolve_left (fun hh => absurd hh.1 (by decide))
    replace hI' := hI'.symm
    subst hI'
    refine XO.rd rfl rfl rfl (Reads.move rfl) ?_
    refine XO.rd rfl rfl rfl (Reads.extract rfl rfl) ?_
    refine XO.rd rfl rfl rfl (Reads.extract rfl rfl) ?_
    refine XO.rd rfl rfl rfl (Reads.assign rfl) ?_
    refine XO.rd rfl rfl rfl (Reads.assign rfl) ?_
    refine XO.nil ?_
    refine XQ.then_normal ?_
    refine XC.seq ?_
    refine XC.draw m_mixed none (.pure 0 (.pure 1 (.pure 2 (.pure 3 (.eff 4 (.pure 5 (.pure 6 (.pure 7 (.pure 8 (.pure 9 (.pure 10 (.pure 11 (.pure 12 (.pure 13 (.pure 14 (.pure 15 (.pure 16 (.pure 17 (.pure 18 (.pure 19 (.pure 20 (.pure 21 (.pure 22 (.pure 23 (.pure 24 (.pure 25 (.pure 26 (.pure 27 (.pure 28 (.pure 29 (.pure 30 (.pure 31 (.eff 32 (.eff 33 (.eff 34 (.pure 35 (.pure 36 (.pure 37 (.done))))))))))))))))))))))))))))))))))))))) [] (by kernel_rfl) (List.nil_sublist _) ?_
    refine XR.rd rfl rfl rfl (Reads.move rfl) ?_
    refine XR.rd rfl rfl rfl (Reads.cmp rfl rfl rfl) ?_
    refine XR.rd rfl rfl rfl (Reads.move rfl) ?_
    refine XR.rd rfl (wg rfl rfl rfl) rfl (Reads.move rfl) ?_
    refine XR.callo (vs := [_]) (L1 := (endL ba A4 ha)) rfl (wg rfl rfl rfl) rfl rfl en33 ⟨rfl, trivial⟩ (waiting_any ba A4 ha _ hEa) (perm_take [4, 4, 4]) ?_
    rintro v I' L' _ ⟨rfl, hI', rfl⟩
    replace hI' := hI'.symm
    subst hI'
    refine ⟨.inr (List.nil_sublist _), ?_⟩
    refine XR.rd rfl (wg rfl rfl rfl) rfl (Reads.cmp rfl rfl rfl) ?_
    refine XR.rd rfl rfl rfl (Reads.pick_true rfl rfl) ?_
    refine XR.rd rfl rfl rfl (Reads.move rfl) ?_
    refine XR.rd rfl (wg rfl rfl rfl) rfl (Reads.move rfl) ?_
    refine XR.rd rfl (wg rfl rfl rfl) rfl (Reads.len_slice Tryd.underlying37 rfl) ?_
    refine XR.rd rfl (wg rfl rfl rfl) rfl (Reads.cmp rfl rfl rfl) ?_
    refine XR.rd rfl rfl rfl (Reads.pick_true rfl rfl) ?_
    refine XR.rd rfl rfl rfl (Reads.move rfl) ?_
    refine XR.rd rfl (wg rfl rfl rfl) rfl (Reads.move rfl) ?_
    refine XR.rd rfl (wg rfl rfl rfl) rfl (Reads.index_slot (q := 0 * 4) Tryd.underlying37 z24 rfl rfl (by simp) (Arr.isSome hO3 (by decide) (by decide)) (by decide)) ?_
    refine XR.rd rfl (wg rfl rfl rfl) rfl (fs24_0 rfl (Arr.addr hO3 (by decide) (by decide))) ?_
    refine XR.rd rfl (wg rfl rfl rfl) rfl (Reads.load_at k3 rfl (Arr.pkt hO3 (j := 0) (by decide) 0 _ rfl)) ?_
    refine XR.rd rfl (wg rfl rfl rfl) rfl (Reads.cmp rfl rfl rfl) ?_
    refine XR.rd rfl rfl rfl (Reads.pick_true rfl rfl) ?_
    refine XR.rd rfl rfl rfl (Reads.move rfl) ?_
    refine XR.rd rfl (wg rfl rfl rfl) rfl (Reads.move rfl) ?_
    refine XR.rd rfl (wg rfl rfl rfl) rfl (Reads.cmp rfl rfl rfl) ?_
    refine XR.rd rfl rfl rfl (Reads.pick_true rfl rfl) ?_
    refine XR.rd rfl rfl rfl (Reads.move rfl) ?_
    refine XR.rd rfl (wg rfl rfl rfl) rfl (Reads.move rfl) ?_
    refine XR.rd rfl (wg rfl rfl rfl) rfl (Reads.cmp rfl rfl rfl) ?_
    refine XR.rd rfl rfl rfl (Reads.pick_true rfl rfl) ?_
    refine XR.rd rfl rfl rfl (Reads.move rfl) ?_
    refine XR.rd rfl (wg rfl rfl rfl) rfl (Reads.move rfl) ?_
    refine XR.rd rfl (wg rfl rfl rfl) rfl (Reads.index_slot (q := 0 * 4) Tryd.underlying37 z24 rfl rfl (by simp) (Arr.isSome hO (by decide) (by decide)) (by decide)) ?_
    refine XR.rd rfl (wg rfl rfl rfl) rfl (fs24_3 rfl (Arr.addr hO (by decide) (by decide))) ?_
    refine XR.rd rfl (wg rfl rfl rfl) rfl (Reads.load_at (v := .string (PF 0).sl) k9 rfl (Arr.pkt hO (j := 0) (by decide) 3 _ rfl)) ?_
    refine XR.callp rfl (wg rfl rfl rfl) rfl en17 (key_any 0 _ (by decide)) ⟨rfl, trivial⟩ (List.nil_sublist _) ?_
    refine XR.callp rfl (wg rfl rfl rfl) rfl en43 (rleaf_all ⟨#[16, 2, 0, 2, 120]⟩ _ (by decide)) ⟨rfl, trivial⟩ (List.nil_sublist _) ?_
    refine XR.callp rfl (wg rfl rfl rfl) rfl en42 (rnode_all (keyB 0) (leaf ⟨#[16, 2, 0, 2, 120]⟩) _ (by rw [keyB_size]; decide) (by rw [leaf, sha_size]; decide)) ⟨rfl, rfl, trivial⟩ (List.nil_sublist _) ?_
    refine XR.rd rfl (wg rfl rfl rfl) rfl (Reads.seq rfl rfl) ?_
    rw [show decide ((PF 0).sl = node (keyB 0) (leaf ⟨#[16, 2, 0, 2, 120]⟩)) = true from decide_eq_true PF_seal]
    refine XR.rd rfl rfl rfl (Reads.pick_true rfl rfl) ?_
    refine XR.rd rfl rfl rfl (Reads.assign rfl) ?_
    refine XR.nil ?_
    refine XQ.then_normal ?_
    refine XC.ret ?_
    refine XQ.dropn 7 ?_
    refine XQ.done1 (L := []) rfl rfl hI ?_
    exact ⟨rfl, rfl⟩

end Go.Proofs.YtkjhhifhgcihpaaDoor
