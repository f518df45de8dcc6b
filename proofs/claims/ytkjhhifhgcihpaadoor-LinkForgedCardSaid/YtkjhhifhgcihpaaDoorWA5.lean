/- Walk: LinkForged. -/
import Derived.Test.YtkjhhifhgcihpaaDoorD14
namespace Go.Proofs.YtkjhhifhgcihpaaDoor
open Go.Xe Go.Sh Go Go.Lk

theorem linkForged_any (a : Option Addr) (cap : Nat) (ops : List Q4) (w how n : Int) (I : Im) (hY : Arr I a ops) (hops : ∀ x ∈ ops, x.In) (hG : Glob I) (hw : (-9223372036854775808 ≤ w ∧ w ≤ 9223372036854775807)) (hh : (-9223372036854775808 ≤ how ∧ how ≤ 9223372036854775807)) (hn : (-9223372036854775808 ≤ n ∧ n ≤ 9223372036854775807)) : FC Tryd.prog 7 [.slice a ops.length cap, .int .i64 w, .int .i64 how, .int .i64 n] I (fun u I' => u = .bool true) := by
  have hI := Im.le_refl I
  have hs := (busy_sys ops).1
  have hs12 := (busy_sys ops).2
  have n0 := hs12 0 (by decide)
  have n1 := hs12 1 (by decide)
  have oa := hs.ok 0 (by decide)
  have ob := hs.ok 1 (by decide)
  have g0 : (busyF ops 0).got ≤ (busyF ops 1).sent.length := hs.got 0 (by decide)
  have g1 : (busyF ops 1).got ≤ (busyF ops 0).sent.length := hs.got 1 (by decide)
  have k0 : (busyF ops 0).acked ≤ (busyF ops 1).got := hs.acked 0 (by decide)
  have k1 : (busyF ops 1).acked ≤ (busyF ops 0).got := hs.acked 1 (by decide)
  have a0 := oa.acked
  have hcnt := outF_count a0
  have hlen4 := outF_len (busyF ops 0)
  refine FSo.intro (n := 99) Tryd.func7 rfl rfl rfl (fun K Lf => ?_)
  refine XC.seq ?_
  refine XC.region ?_
  refine XO.rd rfl rfl rfl (Reads.assign rfl) ?_
  refine XO.nil ?_
  refine XQ.then_normal ?_
  refine XC.seq ?_
  refine XC.region ?_
  refine XO.rd rfl rfl rfl (Reads.move rfl) ?_
  refine XO.callo (vs := [_]) (L1 := []) rfl rfl rfl en39 ⟨rfl, trivial⟩ (busy_is a cap ops _ hY hops hG) (List.Perm.refl _) ?_
  rintro v I' L' _ ⟨hI', ba, bb, ha, hb, rfl, rfl, hEa, hEb⟩
  replace hI' := hI'.symm
  subst hI'
  refine XO.own_eq (L' := (endL ba (busyF ops 0) ha ++ (endL bb (busyF ops 1) hb ++ Lf))) rfl ?_
  refine XO.rd rfl rfl rfl (Reads.move rfl) ?_
  refine XO.rd rfl rfl rfl (Reads.extract rfl rfl) ?_
  refine XO.rd rfl rfl rfl (Reads.extract rfl rfl) ?_
  refine XO.rd rfl rfl rfl (Reads.extract rfl rfl) ?_
  refine XO.rd rfl rfl rfl (Reads.assign rfl) ?_
  refine XO.rd rfl rfl rfl (Reads.assign rfl) ?_
  refine XO.rd rfl rfl rfl (Reads.assign rfl) ?_
  refine XO.nil ?_
  refine XQ.then_normal ?_
  refine XC.seq ?_
  refine XC.seq ?_
  refine XC.region ?_
  refine XO.callp rfl rfl en14 (FC.pure (sane_any _ hG)) trivial ?_
  refine XO.rd rfl rfl rfl (Reads.not rfl) ?_
  refine XO.rd rfl rfl rfl (Reads.move rfl) ?_
  refine XO.rd (wg rfl rfl rfl) rfl rfl (Reads.move rfl) ?_
  refine XO.rd (wg rfl rfl rfl) rfl rfl (Reads.not rfl) ?_
  refine XO.rd rfl rfl rfl (Reads.pick_false rfl rfl) ?_
  refine XO.nil ?_
  refine XQ.then_normal ?_
  refine XC.cond rfl (fun hx => by cases hx) (fun _ => ?_)
  refine XC.skip ?_
  refine XQ.then_normal ?_
  refine XC.seq ?_
  refine XC.region ?_
  refine XO.rd rfl rfl rfl (Reads.move rfl) ?_
  refine XO.callo (vs := [_]) (L1 := (endL ba (busyF ops 0) ha)) rfl rfl rfl en22 ⟨rfl, trivial⟩ (out_is (ps := outF (busyF ops 0)) rfl hEa hG) (List.Perm.refl _) ?_
  rintro v I' L' _ ⟨V1, rfl, hI', rfl, hV1, hV1l⟩
  replace hI' := hI'.symm
  subst hI'
  refine XO.vec_done (α := Pkt) (by decide) hV1 (flat_pkt _ _) (fun J1 hle1 hs1 => ?_)
  replace hI := Im.le_trans hI hle1
  replace hG := hG.mono hle1
  replace hY := hY.mono hle1
  obtain ⟨blk1, len1, cap1⟩ := V1
  simp only at hV1l hs1 ⊢
  subst hV1l
  have hO1 := hs1.arr.1
  refine XO.own_eq (L' := (endL ba (busyF ops 0) ha ++ (endL bb (busyF ops 1) hb ++ Lf))) rfl ?_
  refine XO.rd rfl rfl rfl (Reads.assign rfl) ?_
  refine XO.nil ?_
  refine XQ.then_normal ?_
  refine XC.seq ?_
  refine XC.seq ?_
  refine XC.region ?_
  refine XO.rd rfl rfl rfl (Reads.move rfl) ?_
  refine XO.rd rfl rfl rfl (Reads.len_slice Tryd.underlying37 rfl) ?_
  refine XO.rd rfl rfl rfl (Reads.cmp_no rfl rfl rfl (by simp only [cmpInt, decide_eq_false_iff_not, beq_eq_false_iff_ne, bne_eq_false_iff_eq] <;> omega)) ?_
  refine XO.nil ?_
  refine XQ.then_normal ?_
  refine XC.cond rfl (fun hx => by cases hx) (fun _ => ?_)
  refine XC.skip ?_
  refine XQ.then_normal ?_
  refine XC.seq ?_
  refine XC.region ?_
  refine XO.rd rfl rfl rfl (Reads.move rfl) ?_
  refine XO.rd rfl rfl rfl (Reads.move rfl) ?_
  refine XO.rd rfl rfl rfl (Reads.move rfl) ?_
  refine XO.rd rfl rfl rfl (Reads.len_slice Tryd.underlying37 rfl) ?_
  refine XO.callp rfl rfl en18 (pickL_any w (((outF (busyF ops 0)).length : Nat) : Int) _ hw (by omega)) ⟨rfl, rfl, trivial⟩ ?_
  have hpr := pickI_range (c := w) (n := (((outF (busyF ops 0)).length : Nat) : Int)) (by omega)
  obtain ⟨j, hjj⟩ : ∃ j : Nat, pickI w (((outF (busyF ops 0)).length : Nat) : Int) = j := ⟨(pickI w (((outF (busyF ops 0)).length : Nat) : Int)).toNat, by omega⟩
  have hj3 : j < (outF (busyF ops 0)).length := by omega
  rw [hjj]
  have hpm : (outF (busyF ops 0))[j] ∈ outF (busyF ops 0) := List.getElem_mem hj3
  have hpin := outF_in oa _ hpm
  obtain ⟨hgp, _, _⟩ := out_at hs (n := 0) (by decide) hj3
  have hfp : Lk.Form (outF (busyF ops 0))[j] := ((genF_iff _ _).1 hgp).2.1
  have hp4 := pickI_range (c := how) (n := 4) (by decide)
  have hqin : (bentF (outF (busyF ops 0))[j] (pickI how 4) n).In := bent_in hfp hn
  refine XO.rd rfl rfl rfl (Reads.index_slot (q := j * 4) Tryd.underlying37 z24 rfl rfl (by (try dsimp only); omega) (hO1.isSome (by decide) (by omega)) (by omega)) ?_
  refine XO.rd rfl rfl rfl (Reads.load_agg_at (vs := (outF (busyF ops 0))[j].cells) k24 z24 rfl (hO1.addr (by decide) (by omega)) (Arr.pkt hO1 hj3)) ?_
  refine XO.alloc (cs := #[.int .i64 0, .int .i64 0, .string ⟨#[]⟩, .string ⟨#[]⟩]) rfl rfl zo24 rfl (fun b13 => ?_)
  refine XO.store_agg (vs := (outF (busyF ops 0))[j].cells) 0 rfl z24 rfl rfl (by intro v hv; simp at hv; rcases hv with rfl | rfl | rfl | rfl <;> rfl) rfl (Nat.le_refl 4) ?_
  refine XO.own_eq (congrArg (fun c => some (b13, Obj.cells c 24 (0, 0)) :: _) (show _ = (outF (busyF ops 0))[j].cells.toArray from rfl)) ?_
  refine XO.own_eq (L' := (some (b13, .cells ((outF (busyF ops 0))[j]).cells.toArray 24 (0, 0)) :: (endL ba (busyF ops 0) ha ++ (endL bb (busyF ops 1) hb ++ Lf)))) rfl ?_
  refine XO.nil ?_
  refine XQ.then_normal ?_
  refine XC.seq ?_
  refine XC.join (ι := Nat) (fun q => [(10, .pointer (some ⟨bb, 0, none⟩)), (13, .pointer (some ⟨b13, 0, none⟩)), (14, .pointer (some ⟨q, 0, none⟩))]) (fun q => J1) (fun q => (some (q, .cells (bentF (outF (busyF ops 0))[j] (pickI how 4) n).cells.toArray 24 (0, 0)) :: (some (b13, .cells ((outF (busyF ops 0))[j]).cells.toArray 24 (0, 0)) :: (endL ba (busyF ops 0) ha ++ (endL bb (busyF ops 1) hb ++ Lf))))) (fun q => True) ?_ (fun b14 hb14 => ?_)
  · skip
    refine XC.draw m_mixed (some 6) (.pure 0 (.pure 1 (.pure 3 (.alt 2 (.alt 4 (.eff 5 (.eff 6 (.done))) (.eff 5 (.eff 4 (.eff 6 (.done))))) (.eff 5 (.eff 2 (.eff 4 (.eff 6 (.done))))))))) [some (b13, .cells ((outF (busyF ops 0))[j]).cells.toArray 24 (0, 0))] (by kernel_rfl) (List.Sublist.cons_cons _ (List.nil_sublist _)) ?_
    refine XR.rd rfl rfl rfl (Reads.load_whole (c := ((outF (busyF ops 0))[j]).cells.toArray) k24 z24 rfl (WholeAt.of 0 rfl) rfl) ?_
    refine XR.rd rfl rfl rfl (Reads.move rfl) ?_
    refine XR.rd rfl rfl rfl (Reads.move rfl) ?_
    refine XR.alt ?_ ?_
    · skip
      refine XR.callp rfl rfl rfl en18 (pickL_any how 4 _ hh (by decide)) ⟨rfl, rfl, trivial⟩ (List.Sublist.cons_cons _ (List.nil_sublist _)) ?_
      refine XR.alt ?_ ?_
      · skip
        refine XR.callp rfl rfl rfl en25 (bent_any (outF (busyF ops 0))[j] (pickI how 4) n _ hpin (by omega) hn) ⟨rfl, rfl, rfl, trivial⟩ (List.Sublist.cons_cons _ (List.nil_sublist _)) ?_
        refine XR.alloc (cs := #[.int .i64 0, .int .i64 0, .string ⟨#[]⟩, .string ⟨#[]⟩]) rfl rfl rfl zo24 rfl (List.Sublist.cons_cons _ (List.nil_sublist _)) (fun b14 => ?_)
        refine XR.store_agg (vs := (bentF (outF (busyF ops 0))[j] (pickI how 4) n).cells) 0 rfl rfl z24 rfl rfl (by intro v hv; simp at hv; rcases hv with rfl | rfl | rfl | rfl <;> rfl) rfl (Nat.le_refl 4) (.inl rfl) ?_
        refine XR.own_eq (congrArg (fun c => some (b14, Obj.cells c 24 (0, 0)) :: _) (show _ = (bentF (outF (busyF ops 0))[j] (pickI how 4) n).cells.toArray from rfl)) ?_
        refine XR.nil ?_
        refine XQ.joined b14 trivial ⟨rfl, rfl, rfl, trivial⟩ rfl (List.Perm.refl _)
      · skip
        refine XR.alloc (cs := #[.int .i64 0, .int .i64 0, .string ⟨#[]⟩, .string ⟨#[]⟩]) rfl rfl rfl zo24 rfl (List.Sublist.cons_cons _ (List.nil_sublist _)) (fun b14 => ?_)
        refine XR.callp rfl rfl rfl en25 (bent_any (outF (busyF ops 0))[j] (pickI how 4) n _ hpin (by omega) hn) ⟨rfl, rfl, rfl, trivial⟩ (List.Sublist.cons _ (List.Sublist.cons_cons _ (List.nil_sublist _))) ?_
        refine XR.store_agg (vs := (bentF (outF (busyF ops 0))[j] (pickI how 4) n).cells) 0 rfl rfl z24 rfl rfl (by intro v hv; simp at hv; rcases hv with rfl | rfl | rfl | rfl <;> rfl) rfl (Nat.le_refl 4) (.inl rfl) ?_
        refine XR.own_eq (congrArg (fun c => some (b14, Obj.cells c 24 (0, 0)) :: _) (show _ = (bentF (outF (busyF ops 0))[j] (pickI how 4) n).cells.toArray from rfl)) ?_
        refine XR.nil ?_
        refine XQ.joined b14 trivial ⟨rfl, rfl, rfl, trivial⟩ rfl (List.Perm.refl _)
    · skip
      refine XR.alloc (cs := #[.int .i64 0, .int .i64 0, .string ⟨#[]⟩, .string ⟨#[]⟩]) rfl rfl rfl zo24 rfl (List.Sublist.cons_cons _ (List.nil_sublist _)) (fun b14 => ?_)
      refine XR.callp rfl rfl rfl en18 (pickL_any how 4 _ hh (by decide)) ⟨rfl, rfl, trivial⟩ (List.Sublist.cons _ (List.Sublist.cons_cons _ (List.nil_sublist _))) ?_
      refine XR.callp rfl rfl rfl en25 (bent_any (outF (busyF ops 0))[j] (pickI how 4) n _ hpin (by omega) hn) ⟨rfl, rfl, rfl, trivial⟩ (List.Sublist.cons _ (List.Sublist.cons_cons _ (List.nil_sublist _))) ?_
      refine XR.store_agg (vs := (bentF (outF (busyF ops 0))[j] (pickI how 4) n).cells) 0 rfl rfl z24 rfl rfl (by intro v hv; simp at hv; rcases hv with rfl | rfl | rfl | rfl <;> rfl) rfl (Nat.le_refl 4) (.inl rfl) ?_
      refine XR.own_eq (congrArg (fun c => some (b14, Obj.cells c 24 (0, 0)) :: _) (show _ = (bentF (outF (busyF ops 0))[j] (pickI how 4) n).cells.toArray from rfl)) ?_
      refine XR.nil ?_
      refine XQ.joined b14 trivial ⟨rfl, rfl, rfl, trivial⟩ rfl (List.Perm.refl _)
  · skip
    refine XQ.then_normal ?_
    refine XC.seq ?_
    refine XC.seq ?_
    refine XC.draw m_mixed none (.pure 1 (.eff 0 (.eff 2 (.pure 3 (.done))))) [some (b13, .cells ((outF (busyF ops 0))[j]).cells.toArray 24 (0, 0))] (by kernel_rfl) (List.Sublist.cons _ (List.Sublist.cons_cons _ (List.nil_sublist _))) ?_
    refine XR.rd rfl rfl rfl (Reads.load_whole (c := ((outF (busyF ops 0))[j]).cells.toArray) k24 z24 rfl (WholeAt.of 0 rfl) rfl) ?_
    refine XR.callp rfl rfl rfl en17 (key_any 0 _ (by decide)) ⟨rfl, trivial⟩ (List.Sublist.cons _ (List.Sublist.cons_cons _ (List.nil_sublist _))) ?_
    refine XR.callp rfl rfl rfl en29 (genuine_is (key := keyB 0) (p := (outF (busyF ops 0))[j]) (c := true) hgp (by rw [keyB_size]; decide) hpin hG) ⟨rfl, rfl, trivial⟩ (List.Sublist.cons _ (List.Sublist.cons_cons _ (List.nil_sublist _))) ?_
    refine XR.rd rfl rfl rfl (Reads.not rfl) ?_
    refine XR.nil ?_
    refine XQ.then_normal ?_
    refine XC.cond rfl (fun hx => by cases hx) (fun _ => ?_)
    refine XC.skip ?_
    refine XQ.then_normal ?_
    refine XC.seq ?_
    refine XC.seq ?_
    refine XC.region ?_
    refine XO.rd rfl rfl rfl (Reads.load_whole (c := ((outF (busyF ops 0))[j]).cells.toArray) k24 z24 rfl (WholeAt.of 1 rfl) rfl) ?_
    refine XO.rd rfl rfl rfl (Reads.load_whole (c := ((bentF (outF (busyF ops 0))[j] (pickI how 4) n)).cells.toArray) k24 z24 rfl (WholeAt.of 0 rfl) rfl) ?_
    refine XO.rd rfl rfl rfl (Reads.pkt_eq (p := (outF (busyF ops 0))[j]) (q := (bentF (outF (busyF ops 0))[j] (pickI how 4) n)) rfl rfl) ?_
    refine XO.nil ?_
    refine XQ.then_normal ?_
    refine XC.cond rfl (fun h1 => ?_) (fun h1 => ?_)
    · skip
      simp only [decide_eq_true_eq] at h1
      refine XC.seq ?_
      refine XC.region ?_
      refine XO.rd rfl rfl rfl (Reads.assign rfl) ?_
      refine XO.nil ?_
      refine XQ.then_normal ?_
      refine XC.ret ?_
      refine XQ.then_ret ?_
      refine XQ.dropn 8 ?_
      refine XQ.done1 (L := []) rfl rfl hI ?_
      exact ⟨rfl, rfl⟩
    · skip
      simp only [decide_eq_false_iff_not] at h1
      have hne := h1
      refine XC.skip ?_
      refine XQ.then_normal ?_
      refine XC.seq ?_
      refine XC.region ?_
      refine XO.rd rfl rfl rfl (Reads.move rfl) ?_
      refine XO.callo (vs := [_]) (L1 := (endL bb (busyF ops 1) hb)) rfl rfl rfl en35 ⟨rfl, trivial⟩ (received_any bb (busyF ops 1) hb _ hEb) (perm_take [5, 5, 5]) ?_
      rintro v I' L' _ ⟨rfl, hI', rfl⟩
      replace hI' := hI'.symm
      subst hI'
      refine XO.own_eq (L' := (endL bb (busyF ops 1) hb ++ (some (b14, .cells ((bentF (outF (busyF ops 0))[j] (pickI how 4) n)).cells.toArray 24 (0, 0)) :: (some (b13, .cells ((outF (busyF ops 0))[j]).cells.toArray 24 (0, 0)) :: (endL ba (busyF ops 0) ha ++ Lf))))) rfl ?_
      refine XO.rd rfl rfl rfl (Reads.assign rfl) ?_
      refine XO.nil ?_
      refine XQ.then_normal ?_
      refine XC.seq ?_
      refine XC.region ?_
      refine XO.rd rfl rfl rfl (Reads.move rfl) ?_
      refine XO.callo (vs := [_]) (L1 := (endL bb (busyF ops 1) hb)) rfl rfl rfl en33 ⟨rfl, trivial⟩ (waiting_any bb (busyF ops 1) hb _ hEb) (List.Perm.refl _) ?_
      rintro v I' L' _ ⟨rfl, hI', rfl⟩
      replace hI' := hI'.symm
      subst hI'
      refine XO.own_eq (L' := (endL bb (busyF ops 1) hb ++ (some (b14, .cells ((bentF (outF (busyF ops 0))[j] (pickI how 4) n)).cells.toArray 24 (0, 0)) :: (some (b13, .cells ((outF (busyF ops 0))[j]).cells.toArray 24 (0, 0)) :: (endL ba (busyF ops 0) ha ++ Lf))))) rfl ?_
      refine XO.rd rfl rfl rfl (Reads.assign rfl) ?_
      refine XO.nil ?_
      refine XQ.then_normal ?_
      refine XC.seq ?_
      refine XC.draw m_mixed none (.pure 1 (.eff 0 (.eff 2 (.pure 3 (.done))))) [some (b14, .cells ((bentF (outF (busyF ops 0))[j] (pickI how 4) n)).cells.toArray 24 (0, 0))] (by kernel_rfl) (List.Sublist.cons _ (List.Sublist.cons _ (List.Sublist.cons _ (List.Sublist.cons_cons _ (List.nil_sublist _))))) ?_
      refine XR.rd rfl rfl rfl (Reads.load_whole (c := ((bentF (outF (busyF ops 0))[j] (pickI how 4) n)).cells.toArray) k24 z24 rfl (WholeAt.of 0 rfl) rfl) ?_
      refine XR.callp rfl rfl rfl en17 (key_any 0 _ (by decide)) ⟨rfl, trivial⟩ (List.Sublist.cons _ (List.Sublist.cons _ (List.Sublist.cons _ (List.Sublist.cons_cons _ (List.nil_sublist _))))) ?_
      refine XR.callp rfl rfl rfl en29 (genuine_is (key := keyB 0) (p := (bentF (outF (busyF ops 0))[j] (pickI how 4) n)) (c := genF (keyB 0) (bentF (outF (busyF ops 0))[j] (pickI how 4) n)) rfl (by rw [keyB_size]; decide) hqin hG) ⟨rfl, rfl, trivial⟩ (List.Sublist.cons _ (List.Sublist.cons _ (List.Sublist.cons _ (List.Sublist.cons_cons _ (List.nil_sublist _))))) ?_
      refine XR.rd rfl rfl rfl (Reads.assign rfl) ?_
      refine XR.nil ?_
      refine XQ.then_normal ?_
      refine XC.seq ?_
      refine XC.region ?_
      refine XO.rd rfl rfl rfl (Reads.move rfl) ?_
      refine XO.rd rfl rfl rfl (Reads.load_whole (c := ((bentF (outF (busyF ops 0))[j] (pickI how 4) n)).cells.toArray) k24 z24 rfl (WholeAt.of 3 rfl) rfl) ?_
      obtain ⟨y1, ms1, e1, hin1⟩ : ∃ y ms e, inF (busyF ops 1) (bentF (outF (busyF ops 0))[j] (pickI how 4) n) = (y, ms, e) := ⟨_, _, _, rfl⟩
      refine XO.callo (vs := [_, _]) (L1 := (endL bb (busyF ops 1) hb)) rfl rfl rfl en26 ⟨rfl, rfl, trivial⟩ (in_is hin1 hEb hqin hG) (List.Perm.refl _) ?_
      rintro v I' L' _ ⟨V2, hb', rfl, hI', rfl, hV2, hV2l, hEb'⟩
      replace hI' := hI'.symm
      subst hI'
      refine XO.dropn 1 ?_
      refine XO.own_eq (L' := (endL bb y1 hb' ++ (some (b14, .cells ((bentF (outF (busyF ops 0))[j] (pickI how 4) n)).cells.toArray 24 (0, 0)) :: (some (b13, .cells ((outF (busyF ops 0))[j]).cells.toArray 24 (0, 0)) :: (endL ba (busyF ops 0) ha ++ Lf))))) rfl ?_
      refine XO.rd rfl rfl rfl (Reads.move rfl) ?_
      refine XO.rd rfl rfl rfl (Reads.extract rfl rfl) ?_
      refine XO.rd rfl rfl rfl (Reads.extract rfl rfl) ?_
      refine XO.rd rfl rfl rfl (Reads.assign rfl) ?_
      refine XO.rd rfl rfl rfl (Reads.assign rfl) ?_
      refine XO.nil ?_
      refine XQ.then_normal ?_
      refine XC.seq ?_
      refine XC.seq ?_
      refine XC.region ?_
      refine XO.rd rfl rfl rfl (Reads.move rfl) ?_
      refine XO.rd rfl rfl rfl (Reads.not rfl) ?_
      refine XO.rd rfl rfl rfl (Reads.move rfl) ?_
      refine XO.split (d := 71) rfl (fun h2 => ?_) (fun h2 => ?_)
      · skip
        simp only [Bool.not_eq_true'] at h2
        have hin2 := inF_no (x := (busyF ops 1)) (p := (bentF (outF (busyF ops 0))[j] (pickI how 4) n)) (fun hc => by have h5 := hc.1; rw [hs.other 1 (by decide)] at h5; rw [show ((1 - 1 : Nat) : Int) = 0 from rfl] at h5; rw [h5] at h2; cases h2)
        rw [hin1] at hin2
        simp only [Prod.mk.injEq] at hin2
        obtain ⟨rfl, rfl, rfl⟩ := hin2
        simp only [List.length_nil] at hV2l
        refine XO.rd (wg rfl rfl rfl) rfl rfl (Reads.move rfl) ?_
        refine XO.rd (wg rfl rfl rfl) rfl rfl (Reads.cmp_yes rfl rfl rfl (by simp only [cmpInt, decide_eq_true_eq, beq_iff_eq, bne_iff_ne] <;> omega)) ?_
        refine XO.rd rfl rfl rfl (Reads.pick_true rfl rfl) ?_
        refine XO.rd rfl rfl rfl (Reads.move rfl) ?_
        refine XO.rd (wg rfl rfl rfl) rfl rfl (Reads.move rfl) ?_
        refine XO.rd (wg rfl rfl rfl) rfl rfl (Reads.len_slice Tryd.underlying44 rfl) ?_
        refine XO.rd (wg rfl rfl rfl) rfl rfl (Reads.cmp_yes rfl rfl rfl (by simp only [cmpInt, decide_eq_true_eq, beq_iff_eq, bne_iff_ne] <;> omega)) ?_
        refine XO.rd rfl rfl rfl (Reads.pick_true rfl rfl) ?_
        refine XO.rd rfl rfl rfl (Reads.move rfl) ?_
        refine XO.rd (wg rfl rfl rfl) rfl rfl (Reads.move rfl) ?_
        refine XO.callo (vs := [_]) (L1 := (endL bb (busyF ops 1) hb')) (wg rfl rfl rfl) rfl rfl en35 ⟨rfl, trivial⟩ (received_any bb (busyF ops 1) hb' _ hEb') (List.Perm.refl _) ?_
        rintro v I' L' _ ⟨rfl, hI', rfl⟩
        replace hI' := hI'.symm
        subst hI'
        refine XO.own_eq (L' := (endL bb (busyF ops 1) hb' ++ (some (b14, .cells ((bentF (outF (busyF ops 0))[j] (pickI how 4) n)).cells.toArray 24 (0, 0)) :: (some (b13, .cells ((outF (busyF ops 0))[j]).cells.toArray 24 (0, 0)) :: (endL ba (busyF ops 0) ha ++ Lf))))) rfl ?_
        refine XO.rd (wg rfl rfl rfl) rfl rfl (Reads.move rfl) ?_
        refine XO.rd (wg rfl rfl rfl) rfl rfl (Reads.cmp_yes rfl rfl rfl (by simp only [cmpInt, decide_eq_true_eq, beq_iff_eq, bne_iff_ne] <;> omega)) ?_
        refine XO.rd rfl rfl rfl (Reads.pick_true rfl rfl) ?_
        refine XO.rd rfl rfl rfl (Reads.move rfl) ?_
        refine XO.rd (wg rfl rfl rfl) rfl rfl (Reads.move rfl) ?_
        refine XO.callo (vs := [_]) (L1 := (endL bb (busyF ops 1) hb')) (wg rfl rfl rfl) rfl rfl en33 ⟨rfl, trivial⟩ (waiting_any bb (busyF ops 1) hb' _ hEb') (List.Perm.refl _) ?_
        rintro v I' L' _ ⟨rfl, hI', rfl⟩
        replace hI' := hI'.symm
        subst hI'
        refine XO.own_eq (L' := (endL bb (busyF ops 1) hb' ++ (some (b14, .cells ((bentF (outF (busyF ops 0))[j] (pickI how 4) n)).cells.toArray 24 (0, 0)) :: (some (b13, .cells ((outF (busyF ops 0))[j]).cells.toArray 24 (0, 0)) :: (endL ba (busyF ops 0) ha ++ Lf))))) rfl ?_
        refine XO.rd (wg rfl rfl rfl) rfl rfl (Reads.move rfl) ?_
        refine XO.rd (wg rfl rfl rfl) rfl rfl (Reads.cmp_yes rfl rfl rfl (by simp only [cmpInt, decide_eq_true_eq, beq_iff_eq, bne_iff_ne] <;> omega)) ?_
        refine XO.rd rfl rfl rfl (Reads.pick_true rfl rfl) ?_
        refine XO.nil ?_
        refine XQ.then_normal ?_
        refine XC.cond rfl (fun _ => ?_) (fun hx => by cases hx)
        refine XC.seq ?_
        refine XC.weaken (E' := []) trivial ?_
        refine XC.region ?_
        refine XO.rd rfl rfl rfl (Reads.assign rfl) ?_
        refine XO.nil ?_
        refine XQ.then_normal ?_
        refine XC.ret ?_
        refine XQ.then_ret ?_
        refine XQ.dropn 8 ?_
        refine XQ.done1 (L := []) rfl rfl hI ?_
        exact ⟨rfl, rfl⟩
      · skip
        simp only [Bool.not_eq_false'] at h2
        have hcoll := forged_coll hgp h2 hne
        refine XO.s (wg rfl rfl rfl) rfl ?_
        refine XO.s (wg rfl rfl rfl) rfl ?_
        refine XO.rd rfl rfl rfl (Reads.pick_false rfl rfl) ?_
        refine XO.rd rfl rfl rfl (Reads.move rfl) ?_
        refine XO.s (wg rfl rfl rfl) rfl ?_
        refine XO.s (wg rfl rfl rfl) rfl ?_
        refine XO.s (wg rfl rfl rfl) rfl ?_
        refine XO.rd rfl rfl rfl (Reads.pick_false rfl rfl) ?_
        refine XO.rd rfl rfl rfl (Reads.move rfl) ?_
        refine XO.s (wg rfl rfl rfl) rfl ?_
        refine XO.s (wg rfl rfl rfl) rfl ?_
        refine XO.s (wg rfl rfl rfl) rfl ?_
        refine XO.s (wg rfl rfl rfl) rfl ?_
        refine XO.rd rfl rfl rfl (Reads.pick_false rfl rfl) ?_
        refine XO.rd rfl rfl rfl (Reads.move rfl) ?_
        refine XO.s (wg rfl rfl rfl) rfl ?_
        refine XO.s (wg rfl rfl rfl) rfl ?_
        refine XO.s (wg rfl rfl rfl) rfl ?_
        refine XO.s (wg rfl rfl rfl) rfl ?_
        refine XO.rd rfl rfl rfl (Reads.pick_false rfl rfl) ?_
        refine XO.nil ?_
        refine XQ.then_normal ?_
        refine XC.cond rfl (fun hx => by cases hx) (fun _ => ?_)
        refine XC.skip ?_
        refine XQ.then_normal ?_
        refine XC.seq ?_
        refine XC.weaken (E' := [(13, _), (14, _)]) ⟨rfl, rfl, trivial⟩ ?_
        refine XC.draw m_mixed none (.pure 1 (.pure 4 (.eff 0 (.eff 2 (.eff 3 (.eff 5 (.eff 6 (.pure 7 (.done))))))))) [some (b14, .cells ((bentF (outF (busyF ops 0))[j] (pickI how 4) n)).cells.toArray 24 (0, 0)), some (b13, .cells ((outF (busyF ops 0))[j]).cells.toArray 24 (0, 0))] (by kernel_rfl) (List.Sublist.cons _ (List.Sublist.cons _ (List.Sublist.cons _ (List.Sublist.cons_cons _ (List.Sublist.cons_cons _ (List.nil_sublist _)))))) ?_
        refine XR.rd rfl rfl rfl (Reads.load_whole (c := ((outF (busyF ops 0))[j]).cells.toArray) k24 z24 rfl (WholeAt.of 1 rfl) rfl) ?_
        refine XR.rd rfl rfl rfl (Reads.load_whole (c := ((bentF (outF (busyF ops 0))[j] (pickI how 4) n)).cells.toArray) k24 z24 rfl (WholeAt.of 0 rfl) rfl) ?_
        refine XR.callp rfl rfl rfl en17 (key_any 0 _ (by decide)) ⟨rfl, trivial⟩ (List.Sublist.cons _ (List.Sublist.cons _ (List.Sublist.cons _ (List.Sublist.cons_cons _ (List.Sublist.cons_cons _ (List.nil_sublist _)))))) ?_
        refine XR.call rfl rfl rfl en37 (hashed_any (keyB 0) (outF (busyF ops 0))[j] _ hpin (by rw [keyB_size]; decide)) ⟨rfl, rfl, trivial⟩ (List.Sublist.cons _ (List.Sublist.cons _ (List.Sublist.cons _ (List.Sublist.cons_cons _ (List.Sublist.cons_cons _ (List.nil_sublist _)))))) ?_
        rintro u Jh1 hleh1 ⟨ah1, rfl, hH1⟩
        replace hI := Im.le_trans hI hleh1
        replace hG := hG.mono hleh1
        replace hY := hY.mono hleh1
        replace hO1 := hO1.mono hleh1
        refine XR.callp rfl rfl rfl en17 (key_any 0 _ (by decide)) ⟨rfl, trivial⟩ (List.Sublist.cons _ (List.Sublist.cons _ (List.Sublist.cons _ (List.Sublist.cons_cons _ (List.Sublist.cons_cons _ (List.nil_sublist _)))))) ?_
        refine XR.call rfl rfl rfl en37 (hashed_any (keyB 0) (bentF (outF (busyF ops 0))[j] (pickI how 4) n) _ hqin (by rw [keyB_size]; decide)) ⟨rfl, rfl, trivial⟩ (List.Sublist.cons _ (List.Sublist.cons _ (List.Sublist.cons _ (List.Sublist.cons_cons _ (List.Sublist.cons_cons _ (List.nil_sublist _)))))) ?_
        rintro u Jh2 hleh2 ⟨ah2, rfl, hH2⟩
        replace hI := Im.le_trans hI hleh2
        replace hG := hG.mono hleh2
        replace hY := hY.mono hleh2
        replace hO1 := hO1.mono hleh2
        replace hH1 := hH1.mono hleh2
        refine XR.callp rfl rfl rfl en38 (rcoll_any _ _ 2 2 (hashF (keyB 0) (outF (busyF ops 0))[j]) (hashF (keyB 0) (bentF (outF (busyF ops 0))[j] (pickI how 4) n)) _ hH1 hH2 (by show 2 ≤ 100000; decide) (by show 2 ≤ 100000; decide) (hashF_sizes (keyB_size 0) hpin) (hashF_sizes (keyB_size 0) hqin)) ⟨rfl, rfl, trivial⟩ (List.Sublist.cons _ (List.Sublist.cons _ (List.Sublist.cons _ (List.Sublist.cons_cons _ (List.Sublist.cons_cons _ (List.nil_sublist _)))))) ?_
        refine XR.rd rfl rfl rfl (Reads.assign rfl) ?_
        refine XR.nil ?_
        refine XQ.then_normal ?_
        refine XC.ret ?_
        refine XQ.dropn 8 ?_
        refine XQ.done1 (L := []) rfl rfl hI ?_
        exact ⟨rfl, congrArg Value.bool hcoll⟩

end Go.Proofs.YtkjhhifhgcihpaaDoor
