/- Walk: AttestBlames. -/
import Derived.Test.YtmlliafhpbfdbaaDoorMJ
import Derived.Test.YtmlliafhpbfdbaaDoorMH
import Derived.Test.YtmlliafhpbfdbaaDoorMI
import Derived.Test.YtmlliafhpbfdbaaDoorML
namespace Go.Proofs.YtmlliafhpbfdbaaDoor
open Go.Xe Go.Sh Go Go.At

set_option maxHeartbeats 1600000 in
theorem attestBlames_any (n : Num) (a0 : Option Addr) (c0 : Nat) (aa lv se : Int) (I : Im) (hn : n.In) (hC : Arr I a0 n.cars) (hcl : n.cars.length ≤ 9223372036854775807) (hG : Glob I) (haa : In64 aa) (hlv : In64 lv) (hse0 : In64 se) : FC Tryd.prog 4 [.agg (n.cs a0 c0).toArray, .int .i64 aa, .int .i64 lv, .int .i64 se] I (fun u _I' => u = .bool true) := by
  have hI := Im.le_refl I
  obtain ⟨x, hx⟩ : ∃ x : Att, x = n.made := ⟨_, rfl⟩
  have hch := n.made_chain
  have hml := n.made_len
  rw [← hx] at hch hml
  have hf := hch.f
  have hsz := formed_sz hf
  refine FSo.intro (n := 128) Tryd.func4 rfl rfl rfl (fun K Lf => ?_)
  refine XC.seq ?_
  refine XC.region ?_
  refine XO.box_agg rfl rfl rfl (fun b4 => ?_)
  refine XO.rd rfl rfl rfl (Reads.assign rfl) ?_
  refine XO.nil ?_
  refine XQ.then_normal ?_
  refine XC.seq ?_
  refine XC.seq ?_
  refine XC.region ?_
  refine XO.callp rfl rfl en13 (FC.pure (sane_any _ hG)) trivial ?_
  refine XO.rd rfl rfl rfl (Reads.not rfl) ?_
  refine XO.nil ?_
  refine XQ.then_normal ?_
  refine XC.cond rfl (fun hx => by cases hx) (fun _ => ?_)
  refine XC.skip ?_
  refine XQ.then_normal ?_
  refine XC.seq ?_
  refine XC.region ?_
  refine XO.call rfl rfl en15 (all_any _) trivial ?_
  rintro u J73 hle73 hr
  replace hI := Im.le_trans hI hle73
  replace hG := hG.mono hle73
  replace hC := hC.mono hle73
  obtain ⟨ak, ck, rfl, hc_hK, hK⟩ := hr.ex
  refine XO.rd rfl rfl rfl (Reads.assign rfl) ?_
  refine XO.nil ?_
  refine XQ.then_normal ?_
  refine XC.seq ?_
  refine XC.region ?_
  refine XO.rd rfl rfl rfl (Reads.load_whole k26 z26 rfl (by first | exact WholeAt.of 0 rfl | exact WholeAt.of 1 rfl | exact WholeAt.of 2 rfl | exact WholeAt.of 3 rfl | exact WholeAt.of 4 rfl | exact WholeAt.of 5 rfl) (by rfl)) ?_
  refine XO.call rfl rfl en22 (knows_any n a0 c0 _ hn) ⟨rfl, trivial⟩ ?_
  rintro u J74 hle74 hr
  replace hI := Im.le_trans hI hle74
  replace hG := hG.mono hle74
  replace hC := hC.mono hle74
  replace hK := hK.mono hle74
  obtain ⟨aw, cw, rfl, hcw, hKn⟩ := hr.ex
  refine XO.rd rfl rfl rfl (Reads.assign rfl) ?_
  refine XO.nil ?_
  refine XQ.then_normal ?_
  refine XC.seq ?_
  refine XC.region ?_
  refine XO.rd rfl rfl rfl (Reads.load_whole k26 z26 rfl (by first | exact WholeAt.of 0 rfl | exact WholeAt.of 1 rfl | exact WholeAt.of 2 rfl | exact WholeAt.of 3 rfl | exact WholeAt.of 4 rfl | exact WholeAt.of 5 rfl) (by rfl)) ?_
  refine XO.call rfl rfl en18 (made_any n a0 c0 _ hn hC hcl) ⟨rfl, trivial⟩ ?_
  rintro u J75 hle75 hr
  replace hI := Im.le_trans hI hle75
  replace hG := hG.mono hle75
  replace hC := hC.mono hle75
  replace hK := hK.mono hle75
  replace hKn := hKn.mono hle75
  rw [← hx] at hr
  obtain ⟨ab, cb, rfl, hcp_hA, hA⟩ := hr
  refine XO.alloc (cs := #[.int .i64 0, .int .i64 0, .int .i64 0, .int .i64 0, .slice none 0 0]) rfl rfl zo37 rfl (fun b11 => ?_)
  refine XO.store_agg (vs := (x).cs ab cb) 0 rfl z37 rfl rfl (by simp [Value.oneCell']) rfl (by simp) ?_
  refine XO.nil ?_
  refine XQ.then_normal ?_
  refine XC.seq ?_
  refine XC.region ?_
  refine XO.rd rfl rfl rfl (Reads.load_whole k37 z37 rfl (by first | exact WholeAt.of 0 rfl | exact WholeAt.of 1 rfl | exact WholeAt.of 2 rfl | exact WholeAt.of 3 rfl | exact WholeAt.of 4 rfl | exact WholeAt.of 5 rfl) (by rfl)) ?_
  refine XO.rd rfl rfl rfl (Reads.move rfl) ?_
  refine XO.rd rfl rfl rfl (Reads.move rfl) ?_
  refine XO.call rfl rfl en23 (sealed_any x ab cb aa lv _ hA hf haa hlv) ⟨rfl, rfl, rfl, trivial⟩ ?_
  rintro u J76 hle76 hr
  replace hI := Im.le_trans hI hle76
  replace hG := hG.mono hle76
  replace hC := hC.mono hle76
  replace hK := hK.mono hle76
  replace hKn := hKn.mono hle76
  replace hA := hA.mono hle76
  obtain ⟨k, l, v9, rfl, hk3, ⟨as1, cs1, rfl, hcp_hS, hS⟩, hl1, hl2, hl3⟩ := hr
  have hbs := blame_sealed hch n.ok_knows hk3 hl1 hl2 hl3
  have hks3 : k < (sealed x k l).hs.length := by rw [sealed, put_len]; exact hk3
  have hsl : (sealed x k l).hs.length = x.hs.length := by rw [sealed, put_len]
  refine XO.rd rfl rfl rfl (Reads.move rfl) ?_
  refine XO.rd rfl rfl rfl (Reads.extract rfl rfl) ?_
  refine XO.rd rfl rfl rfl (Reads.extract rfl rfl) ?_
  refine XO.alloc (cs := #[.int .i64 0, .int .i64 0, .int .i64 0, .int .i64 0, .slice none 0 0]) rfl rfl zo37 rfl (fun b12 => ?_)
  refine XO.store_agg (vs := ((sealed x k l)).cs as1 cs1) 0 rfl z37 rfl rfl (by simp [Value.oneCell']) rfl (by simp) ?_
  refine XO.rd rfl rfl rfl (Reads.assign rfl) ?_
  refine XO.nil ?_
  refine XQ.then_normal ?_
  refine XC.seq ?_
  refine XC.region ?_
  refine XO.rd rfl rfl rfl (Reads.move rfl) ?_
  refine XO.rd rfl rfl rfl (Reads.move rfl) ?_
  refine XO.rd rfl rfl rfl (Reads.load_whole k37 z37 rfl (by first | exact WholeAt.of 0 rfl | exact WholeAt.of 1 rfl | exact WholeAt.of 2 rfl | exact WholeAt.of 3 rfl | exact WholeAt.of 4 rfl | exact WholeAt.of 5 rfl) (by rfl)) ?_
  refine XO.callp rfl rfl en24 (blame_any (sealed x k l) as1 ak aw cs1 ck cw allK n.knows _ hS (by omega) hK (by rw [allK_len]; decide) hKn (by rw [n.knows_len]; decide) hG) ⟨rfl, rfl, rfl, trivial⟩ ?_
  refine XO.rd rfl rfl rfl (Reads.move rfl) ?_
  refine XO.rd rfl rfl rfl (Reads.extract rfl rfl) ?_
  refine XO.rd rfl rfl rfl (Reads.extract rfl rfl) ?_
  refine XO.rd rfl rfl rfl (Reads.assign rfl) ?_
  refine XO.rd rfl rfl rfl (Reads.assign rfl) ?_
  refine XO.nil ?_
  refine XQ.then_normal ?_
  refine XC.seq ?_
  refine XC.seq ?_
  refine XC.region ?_
  refine XO.rd rfl rfl rfl (Reads.move rfl) ?_
  refine XO.rd rfl rfl rfl (Reads.cmp_no rfl rfl rfl (by rw [hbs.1]; rfl)) ?_
  refine XO.nil ?_
  refine XQ.then_normal ?_
  refine XC.cond rfl (fun hx => by cases hx) (fun _ => ?_)
  refine XC.skip ?_
  refine XQ.then_normal ?_
  refine XC.seq ?_
  refine XC.seq ?_
  refine XC.join (ι := Unit) (fun q => [(3, .int .i64 se), (9, .slice ak allK.length ck), (10, .slice aw n.knows.length cw), (11, .pointer (some ⟨b11, 0, none⟩)), (13, .int .i64 (k : Int)), (14, .int .i64 (blame allK n.knows (sealed x k l)).1), (63, .bool false)]) (fun q => J76) (fun q => some (b12, .cells (((sealed x k l)).cs as1 cs1).toArray 37 (0, 0)) :: some (b11, .cells ((x).cs ab cb).toArray 37 (0, 0)) :: some (b4, .cells (n.cs a0 c0).toArray 26 (0, 0)) :: ([] ++ Lf)) (fun q => True) ?_ (fun q hq => ?_)
  · skip
    refine XC.draw m_mixed none (.pure 0 (.pure 1 (.pure 2 (.pure 3 (.pure 4 (.pure 5 (.pure 6 (.pure 7 (.pure 8 (.pure 9 (.pure 10 (.pure 11 (.pure 12 (.pure 13 (.pure 14 (.pure 15 (.pure 16 (.pure 17 (.pure 18 (.pure 19 (.pure 20 (.pure 21 (.done))))))))))))))))))))))) _ (by kernel_rfl) (List.Sublist.refl _) ?_
    refine XR.rd rfl rfl rfl (Reads.move rfl) ?_
    refine XR.rd rfl rfl rfl (Reads.cmp rfl rfl rfl) ?_
    refine XR.rd rfl rfl rfl (Reads.move rfl) ?_
    refine XR.split (d := 44) rfl (fun h1 => ?_) (fun h1 => ?_)
    · skip
      simp only [cmpInt, decide_eq_true_eq] at h1
      refine XR.rd rfl (wg rfl rfl rfl) rfl (fa37_1 rfl) ?_
      refine XR.rd rfl (wg rfl rfl rfl) rfl (Reads.load_own k35 rfl (by first | exact OwnAt.of 0 rfl rfl | exact OwnAt.of 1 rfl rfl | exact OwnAt.of 2 rfl rfl | exact OwnAt.of 3 rfl rfl | exact OwnAt.of 4 rfl rfl | exact OwnAt.of 5 rfl rfl)) ?_
      refine XR.rd rfl (wg rfl rfl rfl) rfl (Reads.move rfl) ?_
      refine XR.rd rfl (wg rfl rfl rfl) rfl (Reads.index_slot (q := (k) * 3) Tryd.underlying35 z53 rfl rfl (by omega) (hS.isSome (by decide) (by omega)) rfl) ?_
      refine XR.rd rfl (wg rfl rfl rfl) rfl (fs53_1 rfl (hS.addr (by decide) (by omega))) ?_
      refine XR.rd rfl (wg rfl rfl rfl) rfl (Reads.load_at (v := .int .i64 ((sealed x k l).h (k)).l) k3 rfl (by rw [Att.h_get (sealed x k l) hks3]; exact hS.hand hks3 1 _ rfl)) ?_
      refine XR.rd rfl (wg rfl rfl rfl) rfl (fa37_1 rfl) ?_
      refine XR.rd rfl (wg rfl rfl rfl) rfl (Reads.load_own k35 rfl (by first | exact OwnAt.of 0 rfl rfl | exact OwnAt.of 1 rfl rfl | exact OwnAt.of 2 rfl rfl | exact OwnAt.of 3 rfl rfl | exact OwnAt.of 4 rfl rfl | exact OwnAt.of 5 rfl rfl)) ?_
      refine XR.rd rfl (wg rfl rfl rfl) rfl (Reads.move rfl) ?_
      refine XR.rd rfl (wg rfl rfl rfl) rfl (Reads.index_slot (q := (k) * 3) Tryd.underlying35 z53 rfl rfl (by omega) (hA.isSome (by decide) (by omega)) rfl) ?_
      refine XR.rd rfl (wg rfl rfl rfl) rfl (fs53_1 rfl (hA.addr (by decide) (by omega))) ?_
      refine XR.rd rfl (wg rfl rfl rfl) rfl (Reads.load_at (v := .int .i64 (x.h (k)).l) k3 rfl (by rw [Att.h_get x hk3]; exact hA.hand hk3 1 _ rfl)) ?_
      refine XR.rd rfl (wg rfl rfl rfl) rfl (Reads.cmp rfl rfl rfl) ?_
      refine XR.rd rfl rfl rfl (Reads.pick_true rfl rfl) ?_
      refine XR.rd rfl rfl rfl (Reads.move rfl) ?_
      refine XR.split (d := 59) rfl (fun h2 => ?_) (fun h2 => ?_)
      · skip
        have hlk : l ≠ (x.h k).l := by
          have h9 : ¬ ((sealed x k l).h k).l = (x.h k).l := by simpa [cmpInt] using h2
          rw [sealed, put_eq hk3] at h9; exact h9
        refine XR.rd rfl (wg rfl rfl rfl) rfl (Reads.move rfl) ?_
        refine XR.rd rfl (wg rfl rfl rfl) rfl (Reads.move rfl) ?_
        refine XR.rd rfl (wg rfl rfl rfl) rfl (Reads.cmp_no rfl rfl rfl (by rw [hbs.2.1 (by omega) hlk]; simp [cmpInt])) ?_
        refine XR.rd rfl rfl rfl (Reads.pick_true rfl rfl) ?_
        refine XR.nil ?_
        refine XQ.joined () trivial ⟨rfl, rfl, rfl, rfl, rfl, rfl, rfl, trivial⟩ rfl (List.Perm.refl _)
      · skip
        refine XR.s rfl (wg rfl rfl rfl) rfl ?_
        refine XR.s rfl (wg rfl rfl rfl) rfl ?_
        refine XR.s rfl (wg rfl rfl rfl) rfl ?_
        refine XR.rd rfl rfl rfl (Reads.pick_false rfl rfl) ?_
        refine XR.nil ?_
        refine XQ.joined () trivial ⟨rfl, rfl, rfl, rfl, rfl, rfl, rfl, trivial⟩ rfl (List.Perm.refl _)
    · skip
      simp only [cmpInt, decide_eq_false_iff_not] at h1
      refine XR.s rfl (wg rfl rfl rfl) rfl ?_
      refine XR.s rfl (wg rfl rfl rfl) rfl ?_
      refine XR.s rfl (wg rfl rfl rfl) rfl ?_
      refine XR.s rfl (wg rfl rfl rfl) rfl ?_
      refine XR.s rfl (wg rfl rfl rfl) rfl ?_
      refine XR.s rfl (wg rfl rfl rfl) rfl ?_
      refine XR.s rfl (wg rfl rfl rfl) rfl ?_
      refine XR.s rfl (wg rfl rfl rfl) rfl ?_
      refine XR.s rfl (wg rfl rfl rfl) rfl ?_
      refine XR.s rfl (wg rfl rfl rfl) rfl ?_
      refine XR.s rfl (wg rfl rfl rfl) rfl ?_
      refine XR.s rfl (wg rfl rfl rfl) rfl ?_
      refine XR.s rfl (wg rfl rfl rfl) rfl ?_
      refine XR.rd rfl rfl rfl (Reads.pick_false rfl rfl) ?_
      refine XR.rd rfl rfl rfl (Reads.move rfl) ?_
      refine XR.s rfl (wg rfl rfl rfl) rfl ?_
      refine XR.s rfl (wg rfl rfl rfl) rfl ?_
      refine XR.s rfl (wg rfl rfl rfl) rfl ?_
      refine XR.rd rfl rfl rfl (Reads.pick_false rfl rfl) ?_
      refine XR.nil ?_
      refine XQ.joined () trivial ⟨rfl, rfl, rfl, rfl, rfl, rfl, rfl, trivial⟩ rfl (List.Perm.refl _)
  · skip
    refine XQ.then_normal ?_
    refine XC.cond rfl (fun hx => by cases hx) (fun _ => ?_)
    refine XC.skip ?_
    refine XQ.then_normal ?_
    refine XC.seq ?_
    refine XC.seq ?_
    refine XC.join (ι := Unit) (fun q => [(3, .int .i64 se), (9, .slice ak allK.length ck), (10, .slice aw n.knows.length cw), (11, .pointer (some ⟨b11, 0, none⟩)), (13, .int .i64 (k : Int)), (74, .bool false)]) (fun q => J76) (fun q => some (b12, .cells (((sealed x k l)).cs as1 cs1).toArray 37 (0, 0)) :: some (b11, .cells ((x).cs ab cb).toArray 37 (0, 0)) :: some (b4, .cells (n.cs a0 c0).toArray 26 (0, 0)) :: ([] ++ Lf)) (fun q => True) ?_ (fun q hq => ?_)
    · skip
      refine XC.region ?_
      refine XO.rd rfl rfl rfl (Reads.move rfl) ?_
      refine XO.rd rfl rfl rfl (Reads.cmp rfl rfl rfl) ?_
      refine XO.rd rfl rfl rfl (Reads.move rfl) ?_
      refine XO.split (d := 66) rfl (fun h3 => ?_) (fun h3 => ?_)
      · skip
        simp only [cmpInt, decide_eq_true_eq] at h3
        refine XO.rd (wg rfl rfl rfl) rfl rfl (Reads.move rfl) ?_
        refine XO.rd (wg rfl rfl rfl) rfl rfl (Reads.cmp rfl rfl rfl) ?_
        refine XO.rd rfl rfl rfl (Reads.pick_true rfl rfl) ?_
        refine XO.rd rfl rfl rfl (Reads.move rfl) ?_
        refine XO.split (d := 70) rfl (fun h4 => ?_) (fun h4 => ?_)
        · skip
          have hge := of_decide_eq_true h4
          refine XO.rd (wg rfl rfl rfl) rfl rfl (Reads.move rfl) ?_
          refine XO.rd (wg rfl rfl rfl) rfl rfl (Reads.move rfl) ?_
          refine XO.rd (wg rfl rfl rfl) rfl rfl (Reads.cmp_no rfl rfl rfl (decide_eq_false (by have := hbs.2.2 hge; omega))) ?_
          refine XO.rd rfl rfl rfl (Reads.pick_true rfl rfl) ?_
          refine XO.nil ?_
          refine XQ.joined () trivial ⟨rfl, rfl, rfl, rfl, rfl, rfl, trivial⟩ rfl (List.Perm.refl _)
        · skip
          refine XO.s (wg rfl rfl rfl) rfl ?_
          refine XO.s (wg rfl rfl rfl) rfl ?_
          refine XO.s (wg rfl rfl rfl) rfl ?_
          refine XO.rd rfl rfl rfl (Reads.pick_false rfl rfl) ?_
          refine XO.nil ?_
          refine XQ.joined () trivial ⟨rfl, rfl, rfl, rfl, rfl, rfl, trivial⟩ rfl (List.Perm.refl _)
      · skip
        simp only [cmpInt, decide_eq_false_iff_not] at h3
        refine XO.s (wg rfl rfl rfl) rfl ?_
        refine XO.s (wg rfl rfl rfl) rfl ?_
        refine XO.rd rfl rfl rfl (Reads.pick_false rfl rfl) ?_
        refine XO.rd rfl rfl rfl (Reads.move rfl) ?_
        refine XO.s (wg rfl rfl rfl) rfl ?_
        refine XO.s (wg rfl rfl rfl) rfl ?_
        refine XO.s (wg rfl rfl rfl) rfl ?_
        refine XO.rd rfl rfl rfl (Reads.pick_false rfl rfl) ?_
        refine XO.nil ?_
        refine XQ.joined () trivial ⟨rfl, rfl, rfl, rfl, rfl, rfl, trivial⟩ rfl (List.Perm.refl _)
    · skip
      refine XQ.then_normal ?_
      refine XC.cond rfl (fun hx => by cases hx) (fun _ => ?_)
      refine XC.skip ?_
      refine XQ.then_normal ?_
      refine XC.seq ?_
      obtain ⟨ncs, hnf, hnw⟩ := News.arr (P := Tryd.prog) (tx := 35) (c := cb) Tryd.underlying35 (hA)
      have hne := flat_hand_eq hnf
      subst hne
      refine XC.join (ι := Vec × Nat) (fun q => [(3, .int .i64 se), (9, .slice ak allK.length ck), (10, .slice aw n.knows.length cw), (11, .pointer (some ⟨b11, 0, none⟩)), (13, .int .i64 (k : Int)), (16, .pointer (some ⟨q.2, 0, none⟩))]) (fun q => J76) (fun q => q.1.ent 53 :: some (q.2, .cells #[.int .i64 x.d.a, .int .i64 x.d.b, .int .i64 x.d.t, .int .i64 x.d.n, q.1.val] 37 (0, 0)) :: some (b12, .cells (((sealed x k l)).cs as1 cs1).toArray 37 (0, 0)) :: some (b11, .cells ((x).cs ab cb).toArray 37 (0, 0)) :: some (b4, .cells (n.cs a0 c0).toArray 26 (0, 0)) :: ([] ++ Lf)) (fun q => q.1.Is 3 (handC x.hs)) ?_ (fun q hq => ?_)
      · skip
        refine XC.draw m_mixed (some 8) (.pure 0 (.pure 1 (.pure 3 (.pure 4 (.alt 2 (.alt 5 (.pure 6 (.eff 7 (.eff 8 (.done)))) (.eff 7 (.eff 5 (.pure 6 (.eff 8 (.done)))))) (.eff 7 (.eff 2 (.eff 5 (.pure 6 (.eff 8 (.done))))))))))) _ (by kernel_rfl) (List.Sublist.refl _) ?_
        refine XR.rd rfl rfl rfl (fa37_0 rfl) ?_
        refine XR.rd rfl rfl rfl (Reads.load_agg_own (vs := x.d.cs) k34 z34 rfl (fun j v hj => OwnAt.of 1 rfl (by rw [Nat.zero_add]; exact dial_at x ab cb hj))) ?_
        refine XR.rd rfl rfl rfl (fa37_1 rfl) ?_
        refine XR.rd rfl rfl rfl (Reads.load_own k35 rfl (by first | exact OwnAt.of 0 rfl rfl | exact OwnAt.of 1 rfl rfl | exact OwnAt.of 2 rfl rfl | exact OwnAt.of 3 rfl rfl | exact OwnAt.of 4 rfl rfl | exact OwnAt.of 5 rfl rfl)) ?_
        refine XR.alt ?_ ?_
        · skip
          refine XR.buildL [] [] rfl rfl rfl Tryd.underlying35 el53 rfl (by simp) trivial rfl rfl (List.Sublist.refl _) (fun b77 => ?_)
          refine XR.alt ?_ ?_
          · skip
            refine XR.append (V := ⟨some (b77, #[]), 0, 0⟩) 0 rfl rfl rfl Tryd.underlying35 el53 rfl rfl (vec_zero b77 3) rfl (hnw _) (by simp only; omega) (by simp only; omega) ?_
            intro V1 hV1 _
            refine ⟨.inr (List.Sublist.cons _ (List.Sublist.refl _)), ?_⟩
            refine XR.rd rfl rfl rfl (bd37v x.d V1.val ⟨_, _, _, rfl⟩ ⟨rfl, rfl, rfl, rfl, trivial⟩) ?_
            refine XR.alloc (cs := #[.int .i64 0, .int .i64 0, .int .i64 0, .int .i64 0, .slice none 0 0]) rfl rfl rfl zo37 rfl (List.Sublist.cons _ (List.Sublist.refl _)) (fun b16 => ?_)
            refine XR.store_agg (vs := [.int .i64 x.d.a, .int .i64 x.d.b, .int .i64 x.d.t, .int .i64 x.d.n, V1.val]) 0 rfl rfl z37 rfl rfl (by simp [Value.oneCell']) rfl (by simp) (.inr (List.Sublist.cons _ (List.Sublist.cons _ (List.Sublist.refl _)))) ?_
            refine XR.nil ?_
            refine XQ.perm (perm_take [1]) ?_
            refine XQ.joined (V1, b16) (by simpa using hV1) ⟨rfl, rfl, rfl, rfl, rfl, rfl, trivial⟩ rfl (List.Perm.refl _)
          · skip
            refine XR.alloc (cs := #[.int .i64 0, .int .i64 0, .int .i64 0, .int .i64 0, .slice none 0 0]) rfl rfl rfl zo37 rfl (List.Sublist.cons _ (List.Sublist.refl _)) (fun b16 => ?_)
            refine XR.append (V := ⟨some (b77, #[]), 0, 0⟩) 1 rfl rfl rfl Tryd.underlying35 el53 rfl rfl (vec_zero b77 3) rfl (hnw _) (by simp only; omega) (by simp only; omega) ?_
            intro V1 hV1 _
            refine ⟨.inr (List.Sublist.cons _ (List.Sublist.cons _ (List.Sublist.refl _))), ?_⟩
            refine XR.rd rfl rfl rfl (bd37v x.d V1.val ⟨_, _, _, rfl⟩ ⟨rfl, rfl, rfl, rfl, trivial⟩) ?_
            refine XR.store_agg (vs := [.int .i64 x.d.a, .int .i64 x.d.b, .int .i64 x.d.t, .int .i64 x.d.n, V1.val]) 0 rfl rfl z37 rfl rfl (by simp [Value.oneCell']) rfl (by simp) (.inr (List.Sublist.cons _ (List.Sublist.cons _ (List.Sublist.refl _)))) ?_
            refine XR.nil ?_
            refine XQ.perm (perm_take [1]) ?_
            refine XQ.joined (V1, b16) (by simpa using hV1) ⟨rfl, rfl, rfl, rfl, rfl, rfl, trivial⟩ rfl (List.Perm.refl _)
        · skip
          refine XR.alloc (cs := #[.int .i64 0, .int .i64 0, .int .i64 0, .int .i64 0, .slice none 0 0]) rfl rfl rfl zo37 rfl (List.Sublist.refl _) (fun b16 => ?_)
          refine XR.buildL [] [] rfl rfl rfl Tryd.underlying35 el53 rfl (by simp) trivial rfl rfl (List.Sublist.cons _ (List.Sublist.refl _)) (fun b77 => ?_)
          refine XR.append (V := ⟨some (b77, #[]), 0, 0⟩) 0 rfl rfl rfl Tryd.underlying35 el53 rfl rfl (vec_zero b77 3) rfl (hnw _) (by simp only; omega) (by simp only; omega) ?_
          intro V1 hV1 _
          refine ⟨.inr (List.Sublist.cons _ (List.Sublist.cons _ (List.Sublist.refl _))), ?_⟩
          refine XR.rd rfl rfl rfl (bd37v x.d V1.val ⟨_, _, _, rfl⟩ ⟨rfl, rfl, rfl, rfl, trivial⟩) ?_
          refine XR.store_agg (vs := [.int .i64 x.d.a, .int .i64 x.d.b, .int .i64 x.d.t, .int .i64 x.d.n, V1.val]) 1 rfl rfl z37 rfl rfl (by simp [Value.oneCell']) rfl (by simp) (.inr (List.Sublist.cons _ (List.Sublist.cons _ (List.Sublist.refl _)))) ?_
          refine XR.nil ?_
          refine XQ.joined (V1, b16) (by simpa using hV1) ⟨rfl, rfl, rfl, rfl, rfl, rfl, trivial⟩ rfl (List.Perm.refl _)
      · skip
        obtain ⟨⟨blk, n0, cp⟩, b16⟩ := q
        have hVl : n0 = x.hs.length := by have h9 := hq.len; rw [handC_len] at h9; simp only at h9; omega
        subst hVl
        have hV : (⟨blk, x.hs.length, cp⟩ : Vec).Is 3 (handC x.hs) := hq
        have hcp : x.hs.length ≤ cp := hV.le
        simp only
        have ha1 := vec_addr3 hV (by omega)
        have hxk := x.h_get hk3
        refine XQ.then_normal ?_
        refine XC.seq ?_
        refine XC.draw m_mixed (some 8) (.pure 0 (.pure 1 (.pure 2 (.pure 3 (.eff 4 (.eff 5 (.pure 6 (.pure 7 (.eff 8 (.done)))))))))) _ (by kernel_rfl) (List.Sublist.refl _) ?_
        refine XR.rd rfl rfl rfl (fa37_1 rfl) ?_
        refine XR.rd rfl rfl rfl (Reads.load_own k35 rfl (by first | exact OwnAt.of 0 rfl rfl | exact OwnAt.of 1 rfl rfl | exact OwnAt.of 2 rfl rfl | exact OwnAt.of 3 rfl rfl | exact OwnAt.of 4 rfl rfl | exact OwnAt.of 5 rfl rfl)) ?_
        refine XR.rd rfl rfl rfl (Reads.move rfl) ?_
        refine XR.rd rfl rfl rfl (Reads.move rfl) ?_
        refine XR.callp rfl rfl rfl en16 (pickL_any se 8 _ hse0 (by decide)) ⟨rfl, rfl, trivial⟩ (List.Sublist.refl _) ?_
        refine XR.callp rfl rfl rfl en25 (key_any (pickI se 8) _ (by have := pickI_range (c := se) (n := 8) (by decide); omega)) ⟨rfl, trivial⟩ (List.Sublist.refl _) ?_
        refine XR.rd rfl rfl rfl (Reads.index_slot (q := k * 3) Tryd.underlying35 z53 rfl rfl (by simp only; omega) (by obtain ⟨_, _, h9⟩ := ha1; rw [h9]; rfl) rfl) ?_
        refine XR.rd rfl rfl rfl (fs53_2 rfl ha1) ?_
        refine XR.store_vecs (V := (⟨blk, x.hs.length, cp⟩ : Vec)) (e := 53) (k := k * 3 + 2) (v0 := .string x.hs[k].s) 0 rfl rfl z9 rfl rfl rfl hV rfl (handC_at x.hs hk3 2 _ rfl) rfl ?_
        intro V3 hV3 hval
        have hV4 : V3.Is 3 (handC (x.put k ((x.h k).ws (keyC (pickI se 8).toNat))).hs) := by have h9 := handC_setg x.hs (j := k) (i := 2) (v := .string (keyC (pickI se 8).toNat)) (h' := (x.h k).ws (keyC (pickI se 8).toNat)) hk3 (by decide) (by rw [hxk]; rfl); show V3.Is 3 (handC (x.hs.set k ((x.h k).ws (keyC (pickI se 8).toNat)))); rw [← h9]; exact hV3
        rw [← hval]
        refine XR.nil ?_
        refine XQ.then_normal ?_
        refine XC.seq ?_
        refine XC.region ?_
        refine XO.vec_done (α := Hand) (by decide) hV4 (flat_hand _ _) (fun J77 hle77 hs9 => ?_)
        replace hI := Im.le_trans hI hle77
        replace hG := hG.mono hle77
        replace hC := hC.mono hle77
        replace hK := hK.mono hle77
        replace hKn := hKn.mono hle77
        replace hA := hA.mono hle77
        replace hS := hS.mono hle77
        obtain ⟨al, cl, hval2, hcl, hA2⟩ := hs9.ex
        rw [hval2]
        have hky3 : k < (x.put k ((x.h k).ws (keyC (pickI se 8).toNat))).hs.length := by rw [put_len]; exact hk3
        have hyl : (x.put k ((x.h k).ws (keyC (pickI se 8).toNat))).hs.length = x.hs.length := put_len
        refine XO.rd rfl rfl rfl (Reads.move rfl) ?_
        refine XO.rd rfl rfl rfl (Reads.move rfl) ?_
        refine XO.rd (v := .agg ((x.put k ((x.h k).ws (keyC (pickI se 8).toNat))).cs al cl).toArray) rfl rfl rfl (Reads.load_whole k37 z37 rfl (WholeAt.of 0 rfl) (by rfl)) ?_
        refine XO.callp rfl rfl en24 (blame_any (x.put k ((x.h k).ws (keyC (pickI se 8).toNat))) al ak aw cl ck cw allK n.knows _ hA2 (by omega) hK (by rw [allK_len]; decide) hKn (by rw [n.knows_len]; decide) hG) ⟨rfl, rfl, rfl, trivial⟩ ?_
        refine XO.rd rfl rfl rfl (Reads.move rfl) ?_
        refine XO.rd rfl rfl rfl (Reads.extract rfl rfl) ?_
        refine XO.rd rfl rfl rfl (Reads.extract rfl rfl) ?_
        refine XO.rd rfl rfl rfl (Reads.assign rfl) ?_
        refine XO.rd rfl rfl rfl (Reads.assign rfl) ?_
        refine XO.nil ?_
        refine XQ.then_normal ?_
        refine XC.seq ?_
        refine XC.seq ?_
        refine XC.region ?_
        refine XO.rd rfl rfl rfl (Reads.move rfl) ?_
        refine XO.rd rfl rfl rfl (Reads.cmp_no rfl rfl rfl (by rw [blame_zero hch n.ok_knows hk3 (keyC_size _)]; rfl)) ?_
        refine XO.nil ?_
        refine XQ.then_normal ?_
        refine XC.cond rfl (fun hx => by cases hx) (fun _ => ?_)
        refine XC.skip ?_
        refine XQ.then_normal ?_
        refine XC.seq ?_
        refine XC.draw m_mixed none (.pure 0 (.pure 1 (.pure 2 (.pure 3 (.pure 4 (.pure 5 (.pure 6 (.pure 7 (.pure 8 (.pure 9 (.pure 10 (.pure 11 (.pure 12 (.pure 13 (.pure 14 (.pure 15 (.pure 16 (.pure 17 (.pure 18 (.pure 19 (.pure 20 (.pure 21 (.pure 23 (.pure 24 (.pure 25 (.eff 22 (.eff 26 (.eff 27 (.pure 28 (.pure 29 (.done))))))))))))))))))))))))))))))) _ (by kernel_rfl) (List.Sublist.refl _) ?_
        refine XR.rd rfl rfl rfl (Reads.move rfl) ?_
        refine XR.rd rfl rfl rfl (Reads.move rfl) ?_
        refine XR.rd rfl rfl rfl (Reads.cmp rfl rfl rfl) ?_
        refine XR.rd rfl rfl rfl (Reads.move rfl) ?_
        refine XR.split (d := 102) rfl (fun h5 => ?_) (fun h5 => ?_)
        · skip
          refine XR.s rfl (wg rfl rfl rfl) rfl ?_
          refine XR.s rfl (wg rfl rfl rfl) rfl ?_
          refine XR.s rfl (wg rfl rfl rfl) rfl ?_
          refine XR.s rfl (wg rfl rfl rfl) rfl ?_
          refine XR.s rfl (wg rfl rfl rfl) rfl ?_
          refine XR.s rfl (wg rfl rfl rfl) rfl ?_
          refine XR.s rfl (wg rfl rfl rfl) rfl ?_
          refine XR.s rfl (wg rfl rfl rfl) rfl ?_
          refine XR.s rfl (wg rfl rfl rfl) rfl ?_
          refine XR.s rfl (wg rfl rfl rfl) rfl ?_
          refine XR.s rfl (wg rfl rfl rfl) rfl ?_
          refine XR.s rfl (wg rfl rfl rfl) rfl ?_
          refine XR.s rfl (wg rfl rfl rfl) rfl ?_
          refine XR.rd rfl rfl rfl (Reads.pick_true rfl rfl) ?_
          refine XR.rd rfl rfl rfl (Reads.move rfl) ?_
          refine XR.s rfl (wg rfl rfl rfl) rfl ?_
          refine XR.s rfl (wg rfl rfl rfl) rfl ?_
          refine XR.s rfl (wg rfl rfl rfl) rfl ?_
          refine XR.s rfl (wg rfl rfl rfl) rfl ?_
          refine XR.s rfl (wg rfl rfl rfl) rfl ?_
          refine XR.s rfl (wg rfl rfl rfl) rfl ?_
          refine XR.se rfl (wg rfl rfl rfl) rfl (List.Sublist.refl _) ?_
          refine XR.se rfl (wg rfl rfl rfl) rfl (List.Sublist.refl _) ?_
          refine XR.se rfl (wg rfl rfl rfl) rfl (List.Sublist.refl _) ?_
          refine XR.rd rfl rfl rfl (Reads.pick_true rfl rfl) ?_
          refine XR.rd rfl rfl rfl (Reads.assign rfl) ?_
          refine XR.nil ?_
          refine XQ.then_normal ?_
          refine XC.ret ?_
          refine XQ.dropn 4 ?_
          refine XQ.done1 (L := []) rfl rfl hI ?_
          exact ⟨rfl, rfl⟩
        · skip
          have hse : (keyC (pickI se 8).toNat) = (x.h k).s := by
            by_cases h9 : (keyC (pickI se 8).toNat) = (x.h k).s
            · exact h9
            · exfalso; rw [blame_wrong hch n.ok_knows hk3 (keyC_size _) h9] at h5; simp [cmpInt] at h5
          refine XR.rd rfl (wg rfl rfl rfl) rfl (fa37_1 rfl) ?_
          refine XR.rd rfl (wg rfl rfl rfl) rfl (Reads.load_own k35 rfl (by first | exact OwnAt.of 0 rfl rfl | exact OwnAt.of 1 rfl rfl | exact OwnAt.of 2 rfl rfl | exact OwnAt.of 3 rfl rfl | exact OwnAt.of 4 rfl rfl | exact OwnAt.of 5 rfl rfl)) ?_
          refine XR.rd rfl (wg rfl rfl rfl) rfl (Reads.move rfl) ?_
          refine XR.rd rfl (wg rfl rfl rfl) rfl (Reads.index_slot (q := (k) * 3) Tryd.underlying35 z53 rfl rfl (by omega) (hA2.isSome (by decide) (by omega)) rfl) ?_
          refine XR.rd rfl (wg rfl rfl rfl) rfl (fs53_2 rfl (hA2.addr (by decide) (by omega))) ?_
          refine XR.rd rfl (wg rfl rfl rfl) rfl (Reads.load_at (v := .string ((x.put k ((x.h k).ws (keyC (pickI se 8).toNat))).h (k)).s) k9 rfl (by rw [Att.h_get (x.put k ((x.h k).ws (keyC (pickI se 8).toNat))) hky3]; exact hA2.hand hky3 2 _ rfl)) ?_
          refine XR.rd rfl (wg rfl rfl rfl) rfl (fa37_1 rfl) ?_
          refine XR.rd rfl (wg rfl rfl rfl) rfl (Reads.load_own k35 rfl (by first | exact OwnAt.of 0 rfl rfl | exact OwnAt.of 1 rfl rfl | exact OwnAt.of 2 rfl rfl | exact OwnAt.of 3 rfl rfl | exact OwnAt.of 4 rfl rfl | exact OwnAt.of 5 rfl rfl)) ?_
          refine XR.rd rfl (wg rfl rfl rfl) rfl (Reads.move rfl) ?_
          refine XR.rd rfl (wg rfl rfl rfl) rfl (Reads.index_slot (q := (k) * 3) Tryd.underlying35 z53 rfl rfl (by omega) (hA.isSome (by decide) (by omega)) rfl) ?_
          refine XR.rd rfl (wg rfl rfl rfl) rfl (fs53_2 rfl (hA.addr (by decide) (by omega))) ?_
          refine XR.rd rfl (wg rfl rfl rfl) rfl (Reads.load_at (v := .string (x.h (k)).s) k9 rfl (by rw [Att.h_get x hk3]; exact hA.hand hk3 2 _ rfl)) ?_
          refine XR.rd rfl (wg rfl rfl rfl) rfl (Reads.seq_yes rfl rfl (by rw [put_eq hk3]; exact hse)) ?_
          refine XR.rd rfl rfl rfl (Reads.pick_false rfl rfl) ?_
          refine XR.rd rfl rfl rfl (Reads.move rfl) ?_
          refine XR.s rfl (wg rfl rfl rfl) rfl ?_
          refine XR.s rfl (wg rfl rfl rfl) rfl ?_
          refine XR.s rfl (wg rfl rfl rfl) rfl ?_
          refine XR.s rfl (wg rfl rfl rfl) rfl ?_
          refine XR.s rfl (wg rfl rfl rfl) rfl ?_
          refine XR.s rfl (wg rfl rfl rfl) rfl ?_
          refine XR.se rfl (wg rfl rfl rfl) rfl (List.Sublist.refl _) ?_
          refine XR.se rfl (wg rfl rfl rfl) rfl (List.Sublist.refl _) ?_
          refine XR.se rfl (wg rfl rfl rfl) rfl (List.Sublist.refl _) ?_
          refine XR.rd rfl rfl rfl (Reads.pick_true rfl rfl) ?_
          refine XR.rd rfl rfl rfl (Reads.assign rfl) ?_
          refine XR.nil ?_
          refine XQ.then_normal ?_
          refine XC.ret ?_
          refine XQ.dropn 4 ?_
          refine XQ.done1 (L := []) rfl rfl hI ?_
          exact ⟨rfl, rfl⟩

end Go.Proofs.YtmlliafhpbfdbaaDoor
