/- Walk: AttestStays. -/
import Derived.Test.YtmlliafhpbfdbaaDoorMJ
import Derived.Test.YtmlliafhpbfdbaaDoorMI
import Derived.Test.YtmlliafhpbfdbaaDoorK9
namespace Go.Proofs.YtmlliafhpbfdbaaDoor
open Go.Xe Go.Sh Go Go.At

set_option maxHeartbeats 3200000 in
theorem attestStays_any (n : Num) (a0 : Option Addr) (c0 : Nat) (st : Int) (a3 : Option Addr) (c3 : Nat) (ms : List Q3) (I : Im) (hn : n.In) (hC : Arr I a0 n.cars) (hcl : n.cars.length ≤ 9223372036854775807) (hG : Glob I) (hst : In64 st) (hM3 : Arr I a3 ms) (hms : ∀ z ∈ ms, z.In) (hml3 : ms.length ≤ 9223372036854775807) : FC Tryd.prog 9 [.agg (n.cs a0 c0).toArray, .int .i64 st, .slice a3 ms.length c3] I (fun u _I' => u = .bool true) := by
  have hI := Im.le_refl I
  obtain ⟨s1, hs1, hs9⟩ := pick_nat st (n := 256) (by decide)
  obtain ⟨x, hx⟩ : ∃ x : Att, x = n.made := ⟨_, rfl⟩
  have hch := n.made_chain
  have hml := n.made_len
  rw [← hx] at hch hml
  have hf := hch.f
  have hsz := formed_sz hf
  refine FSo.intro (n := 169) Tryd.func9 rfl rfl rfl (fun K Lf => ?_)
  refine XC.seq ?_
  refine XC.region ?_
  refine XO.box_agg rfl rfl rfl (fun b3 => ?_)
  refine XO.rd rfl rfl rfl (Reads.assign rfl) ?_
  refine XO.nil ?_
  refine XQ.then_normal ?_
  refine XC.seq ?_
  refine XC.seq ?_
  refine XC.region ?_
  refine XO.callp rfl rfl en13 (FC.pure (sane_any _ hG)) trivial ?_
  refine XO.rd rfl rfl rfl (Reads.not rfl) ?_
  refine XO.nil ?_
  refine XQ.then_normal ?_
  refine XC.cond rfl (fun hx => by cases hx) (fun _ => ?_)
  refine XC.skip ?_
  refine XQ.then_normal ?_
  refine XC.seq ?_
  refine XC.region ?_
  refine XO.call rfl rfl en15 (all_any _) trivial ?_
  rintro u J89 hle89 hr
  replace hI := Im.le_trans hI hle89
  replace hG := hG.mono hle89
  replace hC := hC.mono hle89
  replace hM3 := hM3.mono hle89
  obtain ⟨ak, ck, rfl, hc_hK, hK⟩ := hr.ex
  refine XO.rd rfl rfl rfl (Reads.assign rfl) ?_
  refine XO.nil ?_
  refine XQ.then_normal ?_
  refine XC.seq ?_
  refine XC.region ?_
  refine XO.rd rfl rfl rfl (Reads.move rfl) ?_
  refine XO.rd rfl rfl rfl (Reads.move rfl) ?_
  refine XO.callp rfl rfl en16 (pickL_any st 256 _ hst (by decide)) ⟨rfl, rfl, trivial⟩ ?_
  rw [hs1]
  refine XO.call rfl rfl en14 (known_any ak ck allK s1 _ hK (by rw [allK_len]; decide)) ⟨rfl, rfl, trivial⟩ ?_
  rintro u J90 hle90 hr
  replace hI := Im.le_trans hI hle90
  replace hG := hG.mono hle90
  replace hC := hC.mono hle90
  replace hM3 := hM3.mono hle90
  replace hK := hK.mono hle90
  obtain ⟨ak1, ck1, rfl, hc_hK1, hK1⟩ := hr.ex
  refine XO.rd rfl rfl rfl (Reads.assign rfl) ?_
  refine XO.nil ?_
  refine XQ.then_normal ?_
  refine XC.seq ?_
  refine XC.region ?_
  refine XO.rd rfl rfl rfl (Reads.load_whole k26 z26 rfl (by first | exact WholeAt.of 0 rfl | exact WholeAt.of 1 rfl | exact WholeAt.of 2 rfl | exact WholeAt.of 3 rfl | exact WholeAt.of 4 rfl | exact WholeAt.of 5 rfl | exact WholeAt.of 6 rfl | exact WholeAt.of 7 rfl) (by rfl)) ?_
  refine XO.call rfl rfl en18 (made_any n a0 c0 _ hn hC hcl) ⟨rfl, trivial⟩ ?_
  rintro u J91 hle91 hr
  replace hI := Im.le_trans hI hle91
  replace hG := hG.mono hle91
  replace hC := hC.mono hle91
  replace hM3 := hM3.mono hle91
  replace hK := hK.mono hle91
  replace hK1 := hK1.mono hle91
  rw [← hx] at hr
  obtain ⟨ab, cb, rfl, hcp_hA, hA⟩ := hr
  refine XO.alloc (cs := #[.int .i64 0, .int .i64 0, .int .i64 0, .int .i64 0, .slice none 0 0]) rfl rfl zo37 rfl (fun b9 => ?_)
  refine XO.store_agg (vs := (x).cs ab cb) 0 rfl z37 rfl rfl (by simp [Value.oneCell']) rfl (by simp) ?_
  refine XO.nil ?_
  refine XQ.then_normal ?_
  refine XC.seq ?_
  refine XC.region ?_
  refine XO.rd rfl rfl rfl (Reads.move rfl) ?_
  refine XO.rd rfl rfl rfl (Reads.load_whole k37 z37 rfl (by first | exact WholeAt.of 0 rfl | exact WholeAt.of 1 rfl | exact WholeAt.of 2 rfl | exact WholeAt.of 3 rfl | exact WholeAt.of 4 rfl | exact WholeAt.of 5 rfl | exact WholeAt.of 6 rfl | exact WholeAt.of 7 rfl) (by rfl)) ?_
  refine XO.callp rfl rfl en19 (check_any x ab ak1 cb ck1 (known allK s1) _ hA (by omega) hK1 (by rw [known_len, allK_len]; decide) hG) ⟨rfl, rfl, trivial⟩ ?_
  refine XO.rd rfl rfl rfl (Reads.move rfl) ?_
  refine XO.rd rfl rfl rfl (Reads.extract rfl rfl) ?_
  refine XO.rd rfl rfl rfl (Reads.extract rfl rfl) ?_
  refine XO.rd rfl rfl rfl (Reads.extract rfl rfl) ?_
  refine XO.rd rfl rfl rfl (Reads.assign rfl) ?_
  refine XO.rd rfl rfl rfl (Reads.assign rfl) ?_
  refine XO.rd rfl rfl rfl (Reads.assign rfl) ?_
  refine XO.nil ?_
  refine XQ.then_normal ?_
  refine XC.seq ?_
  obtain ⟨ncs, hnf, hnw⟩ := News.arr (P := Tryd.prog) (tx := 35) (c := cb) Tryd.underlying35 (hA)
  have hne := flat_hand_eq hnf
  subst hne
  refine XC.join (ι := Vec × Nat) (fun q => [(2, .slice a3 ms.length c3), (7, .slice ak allK.length ck), (8, .slice ak1 (known allK s1).length ck1), (9, .pointer (some ⟨b9, 0, none⟩)), (10, .int .i64 (check (known allK s1) x).1), (11, .int .i64 (check (known allK s1) x).2.1), (12, .int .i64 (check (known allK s1) x).2.2), (13, .pointer (some ⟨q.2, 0, none⟩))]) (fun q => J91) (fun q => q.1.ent 53 :: some (q.2, .cells #[.int .i64 x.d.a, .int .i64 x.d.b, .int .i64 x.d.t, .int .i64 x.d.n, q.1.val] 37 (0, 0)) :: some (b9, .cells ((x).cs ab cb).toArray 37 (0, 0)) :: some (b3, .cells (n.cs a0 c0).toArray 26 (0, 0)) :: ([] ++ Lf)) (fun q => q.1.Is 3 (handC x.hs)) ?_ (fun q hq => ?_)
  · skip
    refine XC.draw m_mixed (some 8) (.pure 0 (.pure 1 (.pure 3 (.pure 4 (.alt 2 (.alt 5 (.pure 6 (.eff 7 (.eff 8 (.done)))) (.eff 7 (.eff 5 (.pure 6 (.eff 8 (.done)))))) (.eff 7 (.eff 2 (.eff 5 (.pure 6 (.eff 8 (.done))))))))))) _ (by kernel_rfl) (List.Sublist.refl _) ?_
    refine XR.rd rfl rfl rfl (fa37_0 rfl) ?_
    refine XR.rd rfl rfl rfl (Reads.load_agg_own (vs := x.d.cs) k34 z34 rfl (fun j v hj => OwnAt.of 0 rfl (by simp only [Nat.zero_add]; exact dial_at x ab cb hj))) ?_
    refine XR.rd rfl rfl rfl (fa37_1 rfl) ?_
    refine XR.rd rfl rfl rfl (Reads.load_own k35 rfl (by first | exact OwnAt.of 0 rfl rfl | exact OwnAt.of 1 rfl rfl | exact OwnAt.of 2 rfl rfl | exact OwnAt.of 3 rfl rfl | exact OwnAt.of 4 rfl rfl | exact OwnAt.of 5 rfl rfl | exact OwnAt.of 6 rfl rfl | exact OwnAt.of 7 rfl rfl)) ?_
    refine XR.alt ?_ ?_
    · skip
      refine XR.buildL [] [] rfl rfl rfl Tryd.underlying35 el53 rfl (by simp) trivial rfl rfl (List.Sublist.refl _) (fun b39 => ?_)
      refine XR.alt ?_ ?_
      · skip
        refine XR.append (V := ⟨some (b39, #[]), 0, 0⟩) 0 rfl rfl rfl Tryd.underlying35 el53 rfl rfl (vec_zero b39 3) rfl (hnw _) (by simp only; omega) (by simp only; omega) ?_
        intro V1 hV1 _
        refine ⟨.inr (List.Sublist.cons _ (List.Sublist.refl _)), ?_⟩
        refine XR.rd rfl rfl rfl (bd37v x.d V1.val ⟨_, _, _, rfl⟩ ⟨rfl, rfl, rfl, rfl, trivial⟩) ?_
        refine XR.alloc (cs := #[.int .i64 0, .int .i64 0, .int .i64 0, .int .i64 0, .slice none 0 0]) rfl rfl rfl zo37 rfl (List.Sublist.cons _ (List.Sublist.refl _)) (fun b13 => ?_)
        refine XR.store_agg (vs := [.int .i64 x.d.a, .int .i64 x.d.b, .int .i64 x.d.t, .int .i64 x.d.n, V1.val]) 0 rfl rfl z37 rfl rfl (by simp [Value.oneCell']) rfl (by simp) (.inr (List.Sublist.cons _ (List.Sublist.cons _ (List.Sublist.refl _)))) ?_
        refine XR.nil ?_
        refine XQ.perm (perm_take [1]) ?_
        refine XQ.joined (V1, b13) (by simpa using hV1) ⟨rfl, rfl, rfl, rfl, rfl, rfl, rfl, rfl, trivial⟩ rfl (List.Perm.refl _)
      · skip
        refine XR.alloc (cs := #[.int .i64 0, .int .i64 0, .int .i64 0, .int .i64 0, .slice none 0 0]) rfl rfl rfl zo37 rfl (List.Sublist.cons _ (List.Sublist.refl _)) (fun b13 => ?_)
        refine XR.append (V := ⟨some (b39, #[]), 0, 0⟩) 1 rfl rfl rfl Tryd.underlying35 el53 rfl rfl (vec_zero b39 3) rfl (hnw _) (by simp only; omega) (by simp only; omega) ?_
        intro V1 hV1 _
        refine ⟨.inr (List.Sublist.cons _ (List.Sublist.cons _ (List.Sublist.refl _))), ?_⟩
        refine XR.rd rfl rfl rfl (bd37v x.d V1.val ⟨_, _, _, rfl⟩ ⟨rfl, rfl, rfl, rfl, trivial⟩) ?_
        refine XR.store_agg (vs := [.int .i64 x.d.a, .int .i64 x.d.b, .int .i64 x.d.t, .int .i64 x.d.n, V1.val]) 0 rfl rfl z37 rfl rfl (by simp [Value.oneCell']) rfl (by simp) (.inr (List.Sublist.cons _ (List.Sublist.cons _ (List.Sublist.refl _)))) ?_
        refine XR.nil ?_
        refine XQ.perm (perm_take [1]) ?_
        refine XQ.joined (V1, b13) (by simpa using hV1) ⟨rfl, rfl, rfl, rfl, rfl, rfl, rfl, rfl, trivial⟩ rfl (List.Perm.refl _)
    · skip
      refine XR.alloc (cs := #[.int .i64 0, .int .i64 0, .int .i64 0, .int .i64 0, .slice none 0 0]) rfl rfl rfl zo37 rfl (List.Sublist.refl _) (fun b13 => ?_)
      refine XR.buildL [] [] rfl rfl rfl Tryd.underlying35 el53 rfl (by simp) trivial rfl rfl (List.Sublist.cons _ (List.Sublist.refl _)) (fun b39 => ?_)
      refine XR.append (V := ⟨some (b39, #[]), 0, 0⟩) 0 rfl rfl rfl Tryd.underlying35 el53 rfl rfl (vec_zero b39 3) rfl (hnw _) (by simp only; omega) (by simp only; omega) ?_
      intro V1 hV1 _
      refine ⟨.inr (List.Sublist.cons _ (List.Sublist.cons _ (List.Sublist.refl _))), ?_⟩
      refine XR.rd rfl rfl rfl (bd37v x.d V1.val ⟨_, _, _, rfl⟩ ⟨rfl, rfl, rfl, rfl, trivial⟩) ?_
      refine XR.store_agg (vs := [.int .i64 x.d.a, .int .i64 x.d.b, .int .i64 x.d.t, .int .i64 x.d.n, V1.val]) 1 rfl rfl z37 rfl rfl (by simp [Value.oneCell']) rfl (by simp) (.inr (List.Sublist.cons _ (List.Sublist.cons _ (List.Sublist.refl _)))) ?_
      refine XR.nil ?_
      refine XQ.joined (V1, b13) (by simpa using hV1) ⟨rfl, rfl, rfl, rfl, rfl, rfl, rfl, rfl, trivial⟩ rfl (List.Perm.refl _)
  · skip
    obtain ⟨⟨blk, n0, cp⟩, b13⟩ := q
    have hVl : n0 = x.hs.length := by have h9 := hq.len; rw [handC_len] at h9; simp only at h9; omega
    subst hVl
    have hV : (⟨blk, x.hs.length, cp⟩ : Vec).Is 3 (handC x.hs) := hq
    have hcp : x.hs.length ≤ cp := hV.le
    simp only
    refine XQ.then_normal ?_
    refine XC.seq ?_
    refine XC.seq ?_
    refine XC.region ?_
    refine XO.rd rfl rfl rfl (Reads.assign rfl) ?_
    refine XO.nil ?_
    refine XQ.then_normal ?_
    refine XC.block ?_
    refine XC.loop (ι := Nat × Vec × List Hand) (fun q => [(2, .slice a3 ms.length c3), (7, .slice ak allK.length ck), (8, .slice ak1 (known allK s1).length ck1), (9, .pointer (some ⟨b9, 0, none⟩)), (10, .int .i64 (check (known allK s1) x).1), (11, .int .i64 (check (known allK s1) x).2.1), (12, .int .i64 (check (known allK s1) x).2.2), (13, .pointer (some ⟨b13, 0, none⟩)), (14, .int .i64 q.1)]) (fun q => J91) (fun q => q.2.1.ent 53 :: some (b13, .cells #[.int .i64 x.d.a, .int .i64 x.d.b, .int .i64 x.d.t, .int .i64 x.d.n, q.2.1.val] 37 (0, 0)) :: some (b9, .cells ((x).cs ab cb).toArray 37 (0, 0)) :: some (b3, .cells (n.cs a0 c0).toArray 26 (0, 0)) :: ([] ++ Lf)) (fun q => q.1 ≤ 2 ∧ q.2.1.Is 3 (handC q.2.2) ∧ More x ⟨x.d, q.2.2⟩ ∧ q.2.2.length = x.hs.length + q.1) (fun q => 2 - q.1) (0, _, x.hs) ⟨Nat.zero_le _, hV, More.refl hf, rfl⟩ ⟨rfl, rfl, rfl, rfl, rfl, rfl, rfl, rfl, rfl, trivial⟩ rfl (List.Perm.refl _) (fun q hq => ?_)
    obtain ⟨i, V, hs⟩ := q
    obtain ⟨hi1, hV, hmo, hlen⟩ := hq
    simp only at hi1 hV hmo hlen ⊢
    obtain ⟨blk, n0, cp⟩ := V
    have hVl : n0 = hs.length := by have h9 := hV.len; rw [handC_len] at h9; exact (Nat.eq_of_mul_eq_mul_right (by decide) h9).symm
    subst hVl
    have hn1 := hmo.n
    refine XC.seq ?_
    refine XC.seq ?_
    refine XC.region ?_
    refine XO.rd rfl rfl rfl (Reads.move rfl) ?_
    refine XO.rd rfl rfl rfl (Reads.move rfl) ?_
    refine XO.rd rfl rfl rfl (Reads.len_slice Tryd.underlying75 rfl) ?_
    refine XO.rd rfl rfl rfl (Reads.cmp rfl rfl rfl) ?_
    refine XO.rd rfl rfl rfl (Reads.move rfl) ?_
    refine XO.split (d := 48) rfl (fun h1 => ?_) (fun h1 => ?_)
    · skip
      simp only [cmpInt, decide_eq_true_eq] at h1
      have hi3 : i < ms.length := by omega
      have hmsi := hms _ (List.getElem_mem hi3)
      refine XO.rd (wg rfl rfl rfl) rfl rfl (Reads.move rfl) ?_
      refine XO.rd (wg rfl rfl rfl) rfl rfl (Reads.cmp rfl rfl rfl) ?_
      refine XO.rd rfl rfl rfl (Reads.pick_true rfl rfl) ?_
      refine XO.nil ?_
      refine XQ.then_normal ?_
      refine XC.cond rfl (fun h2 => ?_) (fun h2 => ?_)
      · skip
        simp only [cmpInt, decide_eq_true_eq] at h2
        have hi2 : i < 2 := by omega
        have ha1 := vec_addr3 hV (by omega)
        have hylast : ((⟨x.d, hs⟩ : Att).h ((⟨x.d, hs⟩ : Att).hs.length - 1)) = hs[hs.length - 1] := Att.h_get _ (show hs.length - 1 < hs.length by omega)
        have hlast := formed_h hmo.f (i := hs.length - 1) (show hs.length - 1 < hs.length by omega)
        rw [show (⟨x.d, hs⟩ : Att).h (hs.length - 1) = hs[hs.length - 1] from hylast] at hlast
        have hpa := pickI_range (c := ms[i].a) (n := 7) (by decide)
        have hpb := pickI_range (c := ms[i].b) (n := hs[hs.length - 1].l + 1) (by omega)
        have hpc := pickI_range (c := ms[i].c) (n := 8) (by decide)
        refine XC.skip ?_
        refine XQ.then_normal ?_
        refine XC.seq ?_
        refine XC.block ?_
        refine XC.seq ?_
        refine XC.region ?_
        refine XO.rd rfl rfl rfl (fa37_1 rfl) ?_
        refine XO.rd rfl rfl rfl (Reads.load_own k35 rfl (by first | exact OwnAt.of 0 rfl rfl | exact OwnAt.of 1 rfl rfl | exact OwnAt.of 2 rfl rfl | exact OwnAt.of 3 rfl rfl | exact OwnAt.of 4 rfl rfl | exact OwnAt.of 5 rfl rfl | exact OwnAt.of 6 rfl rfl | exact OwnAt.of 7 rfl rfl)) ?_
        refine XO.rd rfl rfl rfl (fa37_1 rfl) ?_
        refine XO.rd rfl rfl rfl (Reads.load_own k35 rfl (by first | exact OwnAt.of 0 rfl rfl | exact OwnAt.of 1 rfl rfl | exact OwnAt.of 2 rfl rfl | exact OwnAt.of 3 rfl rfl | exact OwnAt.of 4 rfl rfl | exact OwnAt.of 5 rfl rfl | exact OwnAt.of 6 rfl rfl | exact OwnAt.of 7 rfl rfl)) ?_
        refine XO.rd (v := .int .i64 (hs.length : Int)) rfl rfl rfl (Reads.len_slice Tryd.underlying35 rfl) ?_
        refine XO.rd rfl rfl rfl (Reads.sub rfl rfl (by omega)) ?_
        rw [show (hs.length : Int) - 1 = ((hs.length - 1 : Nat) : Int) by omega]
        refine XO.rd rfl rfl rfl (Reads.index_slot (q := (hs.length - 1) * 3) Tryd.underlying35 z53 rfl rfl (show 0 ≤ ((hs.length - 1 : Nat) : Int) ∧ ((hs.length - 1 : Nat) : Int) < ((hs.length : Nat) : Int) by omega) (by obtain ⟨_, _, h9⟩ := ha1; rw [h9]; rfl) (by (try simp only); omega)) ?_
        refine XO.rd rfl rfl rfl (Reads.load_agg_rd (vs := hs[hs.length - 1].cs) k53 z53 rfl ha1 (fun i v hi => vec_rd (e := 53) hV (by simp) (show hs.length - 1 < hs.length by omega) hi)) ?_
        refine XO.alloc (cs := #[.int .i64 0, .int .i64 0, .string ⟨#[]⟩]) rfl rfl zo53 rfl (fun b15 => ?_)
        refine XO.store_agg (vs := hs[hs.length - 1].cs) 0 rfl z53 rfl rfl (by simp [Hand.cs, Value.oneCell']) rfl (by simp [Hand.cs]) ?_
        refine XO.own_eq (congrArg (fun c => some (b15, Obj.cells c 53 (0, 0)) :: _) (show _ = hs[hs.length - 1].cs.toArray from rfl)) ?_
        refine XO.nil ?_
        refine XQ.then_normal ?_
        refine XC.seq ?_
        obtain ⟨hd, hhd⟩ : ∃ h : Hand, h = ⟨(hs[hs.length - 1].c + 1 + pickI ms[i].a 7) % 8, pickI ms[i].b (hs[hs.length - 1].l + 1), keyC (pickI ms[i].c 8).toNat⟩ := ⟨_, rfl⟩
        have hdc : (0 ≤ hd.c ∧ hd.c ≤ 7) ∧ ¬ hd.c = hs[hs.length - 1].c := by rw [hhd]; simp only; omega
        have hdl : 0 ≤ hd.l ∧ hd.l ≤ hs[hs.length - 1].l := by rw [hhd]; simp only; omega
        have hds : hd.s.size = 32 := by rw [hhd]; exact keyC_size _
        refine XC.join (ι := Nat) (fun q => [(2, .slice a3 ms.length c3), (7, .slice ak allK.length ck), (8, .slice ak1 (known allK s1).length ck1), (9, .pointer (some ⟨b9, 0, none⟩)), (10, .int .i64 (check (known allK s1) x).1), (11, .int .i64 (check (known allK s1) x).2.1), (12, .int .i64 (check (known allK s1) x).2.2), (13, .pointer (some ⟨b13, 0, none⟩)), (14, .int .i64 i), (16, .pointer (some ⟨q, 0, none⟩))]) (fun q => J91) (fun q => some (q, .cells hd.cs.toArray 53 (0, 0)) :: some (b15, .cells hs[hs.length - 1].cs.toArray 53 (0, 0)) :: (⟨blk, hs.length, cp⟩ : Vec).ent 53 :: some (b13, .cells #[.int .i64 x.d.a, .int .i64 x.d.b, .int .i64 x.d.t, .int .i64 x.d.n, (⟨blk, hs.length, cp⟩ : Vec).val] 37 (0, 0)) :: some (b9, .cells ((x).cs ab cb).toArray 37 (0, 0)) :: some (b3, .cells (n.cs a0 c0).toArray 26 (0, 0)) :: ([] ++ Lf)) (fun q => True) ?_ (fun b16 hb16 => ?_)
        · skip
          refine XC.draw m_mixed (some 31) (.pure 0 (.pure 1 (.pure 2 (.pure 3 (.pure 4 (.pure 5 (.pure 6 (.pure 7 (.pure 11 (.pure 12 (.pure 13 (.pure 14 (.pure 15 (.pure 16 (.pure 17 (.pure 18 (.pure 20 (.pure 21 (.pure 22 (.pure 23 (.pure 24 (.pure 25 (.alt 8 (.pure 9 (.pure 10 (.alt 19 (.alt 26 (.pure 27 (.pure 28 (.pure 29 (.eff 30 (.eff 31 (.done)))))) (.eff 30 (.eff 26 (.pure 27 (.pure 28 (.pure 29 (.eff 31 (.done)))))))) (.eff 30 (.eff 19 (.eff 26 (.pure 27 (.pure 28 (.pure 29 (.eff 31 (.done))))))))))) (.eff 30 (.eff 8 (.pure 9 (.pure 10 (.eff 19 (.eff 26 (.pure 27 (.pure 28 (.pure 29 (.eff 31 (.done)))))))))))))))))))))))))))))))))) _ (by kernel_rfl) (List.Sublist.refl _) ?_
          refine XR.rd rfl rfl rfl (fa53_0 rfl) ?_
          refine XR.rd rfl rfl rfl (Reads.load_own k3 rfl (by first | exact OwnAt.of 0 rfl rfl | exact OwnAt.of 1 rfl rfl | exact OwnAt.of 2 rfl rfl | exact OwnAt.of 3 rfl rfl | exact OwnAt.of 4 rfl rfl | exact OwnAt.of 5 rfl rfl | exact OwnAt.of 6 rfl rfl | exact OwnAt.of 7 rfl rfl)) ?_
          refine XR.rd rfl rfl rfl (Reads.add rfl rfl (by omega)) ?_
          refine XR.rd rfl rfl rfl (Reads.move rfl) ?_
          refine XR.rd rfl rfl rfl (Reads.move rfl) ?_
          refine XR.rd rfl rfl rfl (Reads.index_slot (q := i * 3) Tryd.underlying75 z27 rfl rfl (by omega) (hM3.isSome (by decide) (by omega)) (by omega)) ?_
          refine XR.rd rfl rfl rfl (Reads.index_arr_slot (q := i * 3 + 0) Tryd.underlying27 z3 rfl rfl (by decide) (hM3.addr (by decide) (by omega)) rfl) ?_
          refine XR.rd rfl rfl rfl (Reads.load_at (v := .int .i64 ms[i].a) k3 rfl (hM3.q3 hi3 0 _ rfl)) ?_
          refine XR.rd rfl rfl rfl (Reads.move rfl) ?_
          refine XR.rd rfl rfl rfl (Reads.move rfl) ?_
          refine XR.rd rfl rfl rfl (Reads.index_slot (q := i * 3) Tryd.underlying75 z27 rfl rfl (by omega) (hM3.isSome (by decide) (by omega)) (by omega)) ?_
          refine XR.rd rfl rfl rfl (Reads.index_arr_slot (q := i * 3 + 1) Tryd.underlying27 z3 rfl rfl (by decide) (hM3.addr (by decide) (by omega)) rfl) ?_
          refine XR.rd rfl rfl rfl (Reads.load_at (v := .int .i64 ms[i].b) k3 rfl (hM3.q3 hi3 1 _ rfl)) ?_
          refine XR.rd rfl rfl rfl (fa53_1 rfl) ?_
          refine XR.rd rfl rfl rfl (Reads.load_own k3 rfl (by first | exact OwnAt.of 0 rfl rfl | exact OwnAt.of 1 rfl rfl | exact OwnAt.of 2 rfl rfl | exact OwnAt.of 3 rfl rfl | exact OwnAt.of 4 rfl rfl | exact OwnAt.of 5 rfl rfl | exact OwnAt.of 6 rfl rfl | exact OwnAt.of 7 rfl rfl)) ?_
          refine XR.rd rfl rfl rfl (Reads.add rfl rfl (by omega)) ?_
          refine XR.rd rfl rfl rfl (Reads.move rfl) ?_
          refine XR.rd rfl rfl rfl (Reads.move rfl) ?_
          refine XR.rd rfl rfl rfl (Reads.move rfl) ?_
          refine XR.rd rfl rfl rfl (Reads.index_slot (q := i * 3) Tryd.underlying75 z27 rfl rfl (by omega) (hM3.isSome (by decide) (by omega)) (by omega)) ?_
          refine XR.rd rfl rfl rfl (Reads.index_arr_slot (q := i * 3 + 2) Tryd.underlying27 z3 rfl rfl (by decide) (hM3.addr (by decide) (by omega)) rfl) ?_
          refine XR.rd rfl rfl rfl (Reads.load_at (v := .int .i64 ms[i].c) k3 rfl (hM3.q3 hi3 2 _ rfl)) ?_
          refine XR.alt ?_ ?_
          · skip
            refine XR.callp rfl rfl rfl en16 (pickL_any ms[i].a 7 _ hmsi.a (by decide)) ⟨rfl, rfl, trivial⟩ (List.Sublist.refl _) ?_
            refine XR.rd rfl rfl rfl (Reads.add rfl rfl (by omega)) ?_
            refine XR.rd rfl rfl rfl (Reads.rem rfl rfl (by omega) (by decide)) ?_
            refine XR.alt ?_ ?_
            · skip
              refine XR.callp rfl rfl rfl en16 (pickL_any ms[i].b (hs[hs.length - 1].l + 1) _ hmsi.b (by omega)) ⟨rfl, rfl, trivial⟩ (List.Sublist.refl _) ?_
              refine XR.alt ?_ ?_
              · skip
                refine XR.callp rfl rfl rfl en16 (pickL_any ms[i].c 8 _ hmsi.c (by decide)) ⟨rfl, rfl, trivial⟩ (List.Sublist.refl _) ?_
                refine XR.rd rfl rfl rfl (Reads.index_slot (q := (pickI ms[i].c 8).toNat) Tryd.underlying29 z9 rfl rfl (by rw [allK_len]; omega) (hK.isSome (by decide) (by rw [allK_len]; omega)) (by omega)) ?_
                refine XR.rd rfl rfl rfl (Reads.load_at (v := .string (keyC (pickI ms[i].c 8).toNat)) k9 rfl (by rw [← allK_get (i := (pickI ms[i].c 8).toNat) (by omega)]; exact hK.str_at (by rw [allK_len]; omega) rfl)) ?_
                refine XR.rd rfl rfl rfl (bd53v ((hs[hs.length - 1].c + 1 + pickI ms[i].a 7) % 8) (pickI ms[i].b (hs[hs.length - 1].l + 1)) (keyC (pickI ms[i].c 8).toNat) ⟨rfl, rfl, rfl, rfl, rfl, rfl, trivial⟩) ?_
                refine XR.alloc (cs := #[.int .i64 0, .int .i64 0, .string ⟨#[]⟩]) rfl rfl rfl zo53 rfl (List.Sublist.refl _) (fun b16 => ?_)
                refine XR.store_agg (vs := hd.cs) 0 rfl rfl z53 rfl (by rw [hhd]; rfl) (by simp [Hand.cs, Value.oneCell']) rfl (by simp [Hand.cs]) (.inl rfl) ?_
                refine XR.nil ?_
                refine XQ.joined b16 trivial ⟨rfl, rfl, rfl, rfl, rfl, rfl, rfl, rfl, rfl, rfl, trivial⟩ rfl (List.Perm.refl _)
              · skip
                refine XR.alloc (cs := #[.int .i64 0, .int .i64 0, .string ⟨#[]⟩]) rfl rfl rfl zo53 rfl (List.Sublist.refl _) (fun b16 => ?_)
                refine XR.callp rfl rfl rfl en16 (pickL_any ms[i].c 8 _ hmsi.c (by decide)) ⟨rfl, rfl, trivial⟩ (List.Sublist.cons _ (List.Sublist.refl _)) ?_
                refine XR.rd rfl rfl rfl (Reads.index_slot (q := (pickI ms[i].c 8).toNat) Tryd.underlying29 z9 rfl rfl (by rw [allK_len]; omega) (hK.isSome (by decide) (by rw [allK_len]; omega)) (by omega)) ?_
                refine XR.rd rfl rfl rfl (Reads.load_at (v := .string (keyC (pickI ms[i].c 8).toNat)) k9 rfl (by rw [← allK_get (i := (pickI ms[i].c 8).toNat) (by omega)]; exact hK.str_at (by rw [allK_len]; omega) rfl)) ?_
                refine XR.rd rfl rfl rfl (bd53v ((hs[hs.length - 1].c + 1 + pickI ms[i].a 7) % 8) (pickI ms[i].b (hs[hs.length - 1].l + 1)) (keyC (pickI ms[i].c 8).toNat) ⟨rfl, rfl, rfl, rfl, rfl, rfl, trivial⟩) ?_
                refine XR.store_agg (vs := hd.cs) 0 rfl rfl z53 rfl (by rw [hhd]; rfl) (by simp [Hand.cs, Value.oneCell']) rfl (by simp [Hand.cs]) (.inl rfl) ?_
                refine XR.nil ?_
                refine XQ.joined b16 trivial ⟨rfl, rfl, rfl, rfl, rfl, rfl, rfl, rfl, rfl, rfl, trivial⟩ rfl (List.Perm.refl _)
            · skip
              refine XR.alloc (cs := #[.int .i64 0, .int .i64 0, .string ⟨#[]⟩]) rfl rfl rfl zo53 rfl (List.Sublist.refl _) (fun b16 => ?_)
              refine XR.callp rfl rfl rfl en16 (pickL_any ms[i].b (hs[hs.length - 1].l + 1) _ hmsi.b (by omega)) ⟨rfl, rfl, trivial⟩ (List.Sublist.cons _ (List.Sublist.refl _)) ?_
              refine XR.callp rfl rfl rfl en16 (pickL_any ms[i].c 8 _ hmsi.c (by decide)) ⟨rfl, rfl, trivial⟩ (List.Sublist.cons _ (List.Sublist.refl _)) ?_
              refine XR.rd rfl rfl rfl (Reads.index_slot (q := (pickI ms[i].c 8).toNat) Tryd.underlying29 z9 rfl rfl (by rw [allK_len]; omega) (hK.isSome (by decide) (by rw [allK_len]; omega)) (by omega)) ?_
              refine XR.rd rfl rfl rfl (Reads.load_at (v := .string (keyC (pickI ms[i].c 8).toNat)) k9 rfl (by rw [← allK_get (i := (pickI ms[i].c 8).toNat) (by omega)]; exact hK.str_at (by rw [allK_len]; omega) rfl)) ?_
              refine XR.rd rfl rfl rfl (bd53v ((hs[hs.length - 1].c + 1 + pickI ms[i].a 7) % 8) (pickI ms[i].b (hs[hs.length - 1].l + 1)) (keyC (pickI ms[i].c 8).toNat) ⟨rfl, rfl, rfl, rfl, rfl, rfl, trivial⟩) ?_
              refine XR.store_agg (vs := hd.cs) 0 rfl rfl z53 rfl (by rw [hhd]; rfl) (by simp [Hand.cs, Value.oneCell']) rfl (by simp [Hand.cs]) (.inl rfl) ?_
              refine XR.nil ?_
              refine XQ.joined b16 trivial ⟨rfl, rfl, rfl, rfl, rfl, rfl, rfl, rfl, rfl, rfl, trivial⟩ rfl (List.Perm.refl _)
          · skip
            refine XR.alloc (cs := #[.int .i64 0, .int .i64 0, .string ⟨#[]⟩]) rfl rfl rfl zo53 rfl (List.Sublist.refl _) (fun b16 => ?_)
            refine XR.callp rfl rfl rfl en16 (pickL_any ms[i].a 7 _ hmsi.a (by decide)) ⟨rfl, rfl, trivial⟩ (List.Sublist.cons _ (List.Sublist.refl _)) ?_
            refine XR.rd rfl rfl rfl (Reads.add rfl rfl (by omega)) ?_
            refine XR.rd rfl rfl rfl (Reads.rem rfl rfl (by omega) (by decide)) ?_
            refine XR.callp rfl rfl rfl en16 (pickL_any ms[i].b (hs[hs.length - 1].l + 1) _ hmsi.b (by omega)) ⟨rfl, rfl, trivial⟩ (List.Sublist.cons _ (List.Sublist.refl _)) ?_
            refine XR.callp rfl rfl rfl en16 (pickL_any ms[i].c 8 _ hmsi.c (by decide)) ⟨rfl, rfl, trivial⟩ (List.Sublist.cons _ (List.Sublist.refl _)) ?_
            refine XR.rd rfl rfl rfl (Reads.index_slot (q := (pickI ms[i].c 8).toNat) Tryd.underlying29 z9 rfl rfl (by rw [allK_len]; omega) (hK.isSome (by decide) (by rw [allK_len]; omega)) (by omega)) ?_
            refine XR.rd rfl rfl rfl (Reads.load_at (v := .string (keyC (pickI ms[i].c 8).toNat)) k9 rfl (by rw [← allK_get (i := (pickI ms[i].c 8).toNat) (by omega)]; exact hK.str_at (by rw [allK_len]; omega) rfl)) ?_
            refine XR.rd rfl rfl rfl (bd53v ((hs[hs.length - 1].c + 1 + pickI ms[i].a 7) % 8) (pickI ms[i].b (hs[hs.length - 1].l + 1)) (keyC (pickI ms[i].c 8).toNat) ⟨rfl, rfl, rfl, rfl, rfl, rfl, trivial⟩) ?_
            refine XR.store_agg (vs := hd.cs) 0 rfl rfl z53 rfl (by rw [hhd]; rfl) (by simp [Hand.cs, Value.oneCell']) rfl (by simp [Hand.cs]) (.inl rfl) ?_
            refine XR.nil ?_
            refine XQ.joined b16 trivial ⟨rfl, rfl, rfl, rfl, rfl, rfl, rfl, rfl, rfl, rfl, trivial⟩ rfl (List.Perm.refl _)
        · skip
          refine XQ.then_normal ?_
          refine XC.seq ?_
          refine XC.region ?_
          refine XO.rd rfl rfl rfl (fa37_1 rfl) ?_
          refine XO.rd rfl rfl rfl (Reads.load_own k35 rfl (by first | exact OwnAt.of 0 rfl rfl | exact OwnAt.of 1 rfl rfl | exact OwnAt.of 2 rfl rfl | exact OwnAt.of 3 rfl rfl | exact OwnAt.of 4 rfl rfl | exact OwnAt.of 5 rfl rfl | exact OwnAt.of 6 rfl rfl | exact OwnAt.of 7 rfl rfl)) ?_
          refine XO.rd rfl rfl rfl (Reads.load_whole k53 z53 rfl (by first | exact WholeAt.of 0 rfl | exact WholeAt.of 1 rfl | exact WholeAt.of 2 rfl | exact WholeAt.of 3 rfl | exact WholeAt.of 4 rfl | exact WholeAt.of 5 rfl | exact WholeAt.of 6 rfl | exact WholeAt.of 7 rfl) (by rfl)) ?_
          refine XO.buildL [.agg hd.cs.toArray] hd.cs rfl rfl Tryd.underlying35 el53 rfl (by simp) ⟨rfl, rfl, trivial⟩ rfl rfl (fun bu => ?_)
          refine XO.append (V := (⟨blk, hs.length, cp⟩ : Vec)) (news := hd.cs) 3 rfl rfl Tryd.underlying35 el53 rfl rfl hV rfl (.slice Tryd.underlying35 (.inr (.inr ⟨bu, 0, rfl, fun j v hj => ⟨hd.cs.toArray, 53, (0, 0), by simp, by simpa using hj⟩⟩)) rfl (by simp [Value.oneCell'])) (by simp only; omega) (by simp only; omega) ?_
          intro V3 hV3 _
          have hV4 : V3.Is 3 (handC (hs ++ [hd])) := by rw [handC_append]; simpa [handC] using hV3
          refine XO.rd rfl rfl rfl (fa37_1 rfl) ?_
          refine XO.store 4 rfl z35 rfl rfl rfl rfl (by simp) ?_
          refine XO.nil ?_
          refine XQ.then_normal ?_
          refine XC.seq ?_
          refine XC.region ?_
          refine XO.rd rfl rfl rfl (Reads.move rfl) ?_
          refine XO.rd rfl rfl rfl (Reads.move rfl) ?_
          refine XO.rd rfl rfl rfl (Reads.index_slot (q := i * 3) Tryd.underlying75 z27 rfl rfl (by omega) (hM3.isSome (by decide) (by omega)) (by omega)) ?_
          refine XO.rd rfl rfl rfl (Reads.index_arr_slot (q := i * 3 + 2) Tryd.underlying27 z3 rfl rfl (by decide) (hM3.addr (by decide) (by omega)) rfl) ?_
          refine XO.rd rfl rfl rfl (Reads.load_at (v := .int .i64 ms[i].c) k3 rfl (hM3.q3 hi3 2 _ rfl)) ?_
          refine XO.rd rfl rfl rfl (Reads.tdiv rfl rfl (hmsi.c) (by decide)) ?_
          refine XO.callp rfl rfl en16 (pickL_any _ 2 _ (in64_tdiv8 hmsi.c) (by decide)) ⟨rfl, rfl, trivial⟩ ?_
          refine XO.rd rfl rfl rfl (Reads.cmp rfl rfl rfl) ?_
          refine XO.nil ?_
          refine XQ.then_normal ?_
          obtain ⟨blk6, n6, cp6⟩ := V3
          have hn6 : n6 = (hs ++ [hd]).length := by have h9 := hV4.len; rw [handC_len] at h9; exact (Nat.eq_of_mul_eq_mul_right (by decide) h9).symm
          subst hn6
          have hV6 : (⟨blk6, (hs ++ [hd]).length, cp6⟩ : Vec).Is 3 (handC (hs ++ [hd])) := hV4
          have hl6 : (hs ++ [hd]).length = hs.length + 1 := by simp
          have ha6 := vec_addr3 hV6 (by omega)
          have hk9 : hs.length < (⟨x.d, hs ++ [hd]⟩ : Att).hs.length := by show hs.length < (hs ++ [hd]).length; omega
          have hmore9 : More x (⟨x.d, hs ++ [hd]⟩ : Att) := hmo.add (h := hd) (by show hs.length ≤ 7; omega) ⟨hdc.1, ⟨hdl.1, by have := hlast; omega⟩, hds, by rw [hylast]; exact hdc.2, by rw [hylast]; exact hdl.2⟩
          have hsz9 := formed_sz hmore9.f
          have hct9 := content_size (⟨x.d, hs ++ [hd]⟩ : Att) hs.length
          have hbf9 := before_size hsz9 hk9
          have hmore8 : More x ⟨x.d, hs ++ [(hd.ws (sealOf (keyC hd.c.toNat) (content (⟨x.d, hs ++ [hd]⟩ : Att) hs.length)))]⟩ := hmo.add (h := (hd.ws (sealOf (keyC hd.c.toNat) (content (⟨x.d, hs ++ [hd]⟩ : Att) hs.length)))) (by show hs.length ≤ 7; omega) ⟨hdc.1, ⟨hdl.1, by have := hlast; show hd.l ≤ 3; omega⟩, sealOf_size _ _, by rw [hylast]; exact hdc.2, by rw [hylast]; exact hdl.2⟩
          refine XC.join (ι := Vec × List Hand) (fun q => [(2, .slice a3 ms.length c3), (7, .slice ak allK.length ck), (8, .slice ak1 (known allK s1).length ck1), (9, .pointer (some ⟨b9, 0, none⟩)), (10, .int .i64 (check (known allK s1) x).1), (11, .int .i64 (check (known allK s1) x).2.1), (12, .int .i64 (check (known allK s1) x).2.2), (13, .pointer (some ⟨b13, 0, none⟩)), (14, .int .i64 i)]) (fun q => J91) (fun q => q.1.ent 53 :: some (b13, .cells #[.int .i64 x.d.a, .int .i64 x.d.b, .int .i64 x.d.t, .int .i64 x.d.n, q.1.val] 37 (0, 0)) :: some (b9, .cells ((x).cs ab cb).toArray 37 (0, 0)) :: some (b3, .cells (n.cs a0 c0).toArray 26 (0, 0)) :: ([] ++ Lf)) (fun q => q.1.Is 3 (handC q.2) ∧ More x ⟨x.d, q.2⟩ ∧ q.2.length = x.hs.length + (i + 1)) ?_ (fun qv hqv => ?_)
          · skip
            refine XC.cond rfl (fun h3 => ?_) (fun h3 => ?_)
            · skip
              refine XC.seq ?_
              refine XC.region ?_
              refine XO.rd rfl rfl rfl (fa37_1 rfl) ?_
              refine XO.rd rfl rfl rfl (Reads.load_own (v := (⟨blk6, (hs ++ [hd]).length, cp6⟩ : Vec).val) k35 rfl (by first | exact OwnAt.of 1 rfl rfl | exact OwnAt.of 2 rfl rfl | exact OwnAt.of 3 rfl rfl | exact OwnAt.of 4 rfl rfl)) ?_
              refine XO.rd (v := .int .i64 ((hs ++ [hd]).length : Int)) rfl rfl rfl (Reads.len_slice Tryd.underlying35 rfl) ?_
              refine XO.rd rfl rfl rfl (Reads.sub rfl rfl (by omega)) ?_
              rw [show ((hs ++ [hd]).length : Int) - 1 = (hs.length : Int) by omega]
              refine XO.rd rfl rfl rfl (Reads.assign rfl) ?_
              refine XO.nil ?_
              refine XQ.then_normal ?_
              refine XC.draw m_mixed (some 14) (.pure 0 (.pure 1 (.pure 2 (.pure 3 (.pure 4 (.pure 5 (.pure 6 (.pure 7 (.pure 8 (.pure 9 (.eff 10 (.eff 11 (.pure 12 (.pure 13 (.eff 14 (.done)))))))))))))))) [some (b16, .cells hd.cs.toArray 53 (0, 0)), some (b13, .cells #[.int .i64 x.d.a, .int .i64 x.d.b, .int .i64 x.d.t, .int .i64 x.d.n, (⟨blk6, (hs ++ [hd]).length, cp6⟩ : Vec).val] 37 (0, 0))] (by kernel_rfl) (List.Sublist.cons _ (List.Sublist.cons_cons _ (List.Sublist.cons _ (List.Sublist.cons _ (List.Sublist.cons_cons _ (List.nil_sublist _)))))) ?_
              refine XR.rd rfl rfl rfl (fa37_1 rfl) ?_
              refine XR.rd (v := (⟨blk6, (hs ++ [hd]).length, cp6⟩ : Vec).val) rfl rfl rfl (Reads.load_own k35 rfl (by first | exact OwnAt.of 1 rfl rfl | exact OwnAt.of 2 rfl rfl | exact OwnAt.of 3 rfl rfl)) ?_
              refine XR.rd rfl rfl rfl (Reads.move rfl) ?_
              refine XR.rd rfl rfl rfl (Reads.move rfl) ?_
              refine XR.rd rfl rfl rfl (fa53_0 rfl) ?_
              refine XR.rd rfl rfl rfl (Reads.load_own (v := .int .i64 hd.c) k3 rfl (by first | exact OwnAt.of 1 rfl rfl | exact OwnAt.of 2 rfl rfl | exact OwnAt.of 3 rfl rfl | exact OwnAt.of 0 rfl rfl)) ?_
              refine XR.rd rfl rfl rfl (Reads.index_slot (q := hd.c.toNat) Tryd.underlying29 z9 rfl rfl (by rw [allK_len]; omega) (hK.isSome (by decide) (by rw [allK_len]; omega)) (by omega)) ?_
              refine XR.rd rfl rfl rfl (Reads.load_at (v := .string (keyC hd.c.toNat)) k9 rfl (by rw [← allK_get (i := hd.c.toNat) (by omega)]; exact hK.str_at (by rw [allK_len]; omega) rfl)) ?_
              refine XR.rd (v := .agg ((⟨x.d, hs ++ [hd]⟩ : Att).cs (⟨blk6, (hs ++ [hd]).length, cp6⟩ : Vec).addr cp6).toArray) rfl rfl rfl (Reads.load_whole k37 z37 rfl (by first | exact WholeAt.of 1 rfl | exact WholeAt.of 2 rfl | exact WholeAt.of 3 rfl | exact WholeAt.of 4 rfl) (by rfl)) ?_
              refine XR.rd rfl rfl rfl (Reads.move rfl) ?_
              refine XR.callo (vs := [_, _]) (L1 := [(⟨blk6, (hs ++ [hd]).length, cp6⟩ : Vec).ent 53]) rfl rfl rfl rfl en44 ⟨rfl, rfl, trivial⟩ (FSo.lendA (α := Hand) (by decide) hV6 (flat_hand _ _) (fun J hle hA2 => rcontent_any (⟨x.d, hs ++ [hd]⟩ : Att) (⟨blk6, (hs ++ [hd]).length, cp6⟩ : Vec).addr cp6 hs.length J hA2 hk9 (by show (hs ++ [hd]).length ≤ 1000; omega) hsz9)) (perm_take [3]) ?_
              rintro v' J' L' _ ⟨rfl, hJ', rfl⟩
              replace hJ' := hJ'.symm
              subst hJ'
              refine ⟨.inr (List.Sublist.cons _ (List.Sublist.cons _ (List.Sublist.cons_cons _ (List.Sublist.cons _ (List.Sublist.cons_cons _ (List.nil_sublist _)))))), ?_⟩
              refine XR.callp rfl rfl rfl en43 (rseal_any (keyC hd.c.toNat) (content (⟨x.d, hs ++ [hd]⟩ : Att) hs.length) _ (by omega) (by rw [keyC_size]; decide)) ⟨rfl, rfl, trivial⟩ (List.Sublist.cons _ (List.Sublist.cons _ (List.Sublist.cons_cons _ (List.Sublist.cons _ (List.Sublist.cons_cons _ (List.nil_sublist _)))))) ?_
              refine XR.rd rfl rfl rfl (Reads.index_slot (q := hs.length * 3) Tryd.underlying35 z53 rfl rfl (show 0 ≤ ((hs.length : Nat) : Int) ∧ ((hs.length : Nat) : Int) < (((hs ++ [hd]).length : Nat) : Int) by omega) (by obtain ⟨_, _, h9⟩ := ha6; rw [h9]; rfl) rfl) ?_
              refine XR.rd rfl rfl rfl (fs53_2 rfl ha6) ?_
              refine XR.store_vecs (V := (⟨blk6, (hs ++ [hd]).length, cp6⟩ : Vec)) (e := 53) (k := hs.length * 3 + 2) (v0 := .string (hs ++ [hd])[hs.length].s) 0 rfl rfl z9 rfl rfl rfl hV6 rfl (handC_at (hs ++ [hd]) (by omega) 2 _ rfl) rfl ?_
              intro V7 hV7 hval7
              have hV8 : V7.Is 3 (handC (hs ++ [(hd.ws (sealOf (keyC hd.c.toNat) (content (⟨x.d, hs ++ [hd]⟩ : Att) hs.length)))])) := by
                have h9 := handC_setg (hs ++ [hd]) (j := hs.length) (i := 2) (v := .string (sealOf (keyC hd.c.toNat) (content (⟨x.d, hs ++ [hd]⟩ : Att) hs.length))) (h' := (hd.ws (sealOf (keyC hd.c.toNat) (content (⟨x.d, hs ++ [hd]⟩ : Att) hs.length)))) (by omega) (by decide) (by simp [Hand.ws])
                rw [show (hs ++ [hd]).set hs.length (hd.ws (sealOf (keyC hd.c.toNat) (content (⟨x.d, hs ++ [hd]⟩ : Att) hs.length))) = hs ++ [(hd.ws (sealOf (keyC hd.c.toNat) (content (⟨x.d, hs ++ [hd]⟩ : Att) hs.length)))] by simp] at h9
                rw [← h9]; exact hV7
              rw [← hval7]
              refine XR.nil ?_
              refine XQ.drop (List.Sublist.cons_cons _ (List.Sublist.cons _ (List.Sublist.cons _ (List.Sublist.cons _ (List.Sublist.refl _))))) ?_
              refine XQ.joined (V7, hs ++ [(hd.ws (sealOf (keyC hd.c.toNat) (content (⟨x.d, hs ++ [hd]⟩ : Att) hs.length)))]) ⟨hV8, hmore8, by simp; omega⟩ ⟨rfl, rfl, rfl, rfl, rfl, rfl, rfl, rfl, rfl, trivial⟩ rfl (List.Perm.refl _)
            · skip
              refine XC.skip ?_
              refine XQ.dropn 3 ?_
              refine XQ.joined ((⟨blk6, (hs ++ [hd]).length, cp6⟩ : Vec), hs ++ [hd]) ⟨hV6, hmore9, by simp; omega⟩ ⟨rfl, rfl, rfl, rfl, rfl, rfl, rfl, rfl, rfl, trivial⟩ rfl (List.Perm.refl _)
          · skip
            obtain ⟨V5, hs5⟩ := qv
            obtain ⟨hV5, hmo5, hlen5⟩ := hqv
            simp only at hV5 hmo5 hlen5 ⊢
            refine XQ.block_normal ?_
            refine XQ.then_normal ?_
            refine XC.region ?_
            refine XO.rd rfl rfl rfl (Reads.move rfl) ?_
            refine XO.rd rfl rfl rfl (Reads.add rfl rfl (by omega)) ?_
            refine XO.rd rfl rfl rfl (Reads.assign rfl) ?_
            refine XO.nil ?_
            refine XQ.back (i + 1, V5, hs5) ⟨by simp only; omega, hV5, hmo5, hlen5⟩ (by simp only; omega) ⟨rfl, rfl, rfl, rfl, rfl, rfl, rfl, rfl, rfl, trivial⟩ rfl (List.Perm.refl _)
      · skip
        simp only [cmpInt, decide_eq_false_iff_not] at h2
        refine XC.exit ?_
        refine XQ.then_exit ?_
        refine XQ.then_exit ?_
        refine XQ.block_exit ?_
        refine XQ.then_normal ?_
        refine XC.seq ?_
        refine XC.region ?_
        refine XO.vec_done (α := Hand) (by decide) hV (flat_hand _ _) (fun J92 hle92 hs9 => ?_)
        replace hI := Im.le_trans hI hle92
        replace hG := hG.mono hle92
        replace hC := hC.mono hle92
        replace hM3 := hM3.mono hle92
        replace hK := hK.mono hle92
        replace hK1 := hK1.mono hle92
        replace hA := hA.mono hle92
        obtain ⟨ay, cy, hval2, hcy, hY⟩ := hs9.ex
        rw [show (⟨blk, hs.length, cp⟩ : Vec).val = _ from hval2]
        obtain ⟨y, hy⟩ : ∃ y : Att, y = ⟨x.d, hs⟩ := ⟨_, rfl⟩
        have hyl : y.hs.length = hs.length := by rw [hy]
        have hyh : Arr _ ay y.hs := (by rw [hy]; exact hY)
        replace hmo : More x y := by rw [hy]; exact hmo
        have hst := check_stays hf (ok_known s1) hmo
        have hcx := check_at hf (ok_known s1)
        refine XO.rd rfl rfl rfl (Reads.move rfl) ?_
        refine XO.rd (v := .agg (y.cs ay cy).toArray) rfl rfl rfl (Reads.to (v := .agg ((⟨x.d, hs⟩ : Att).cs ay cy).toArray) (Reads.load_whole k37 z37 rfl (WholeAt.of 0 rfl) (by rfl)) (by rw [hy])) ?_
        refine XO.callp rfl rfl en19 (check_any y ay ak1 cy ck1 (known allK s1) _ hyh (by omega) hK1 (by rw [known_len, allK_len]; decide) hG) ⟨rfl, rfl, trivial⟩ ?_
        refine XO.rd rfl rfl rfl (Reads.move rfl) ?_
        refine XO.rd rfl rfl rfl (Reads.extract rfl rfl) ?_
        refine XO.rd rfl rfl rfl (Reads.extract rfl rfl) ?_
        refine XO.rd rfl rfl rfl (Reads.extract rfl rfl) ?_
        refine XO.rd rfl rfl rfl (Reads.assign rfl) ?_
        refine XO.rd rfl rfl rfl (Reads.assign rfl) ?_
        refine XO.rd rfl rfl rfl (Reads.assign rfl) ?_
        refine XO.nil ?_
        refine XQ.then_normal ?_
        refine XC.seq ?_
        refine XC.seq ?_
        refine XC.region ?_
        refine XO.rd rfl rfl rfl (Reads.move rfl) ?_
        refine XO.rd rfl rfl rfl (Reads.cmp_no rfl rfl rfl (by rw [hcx.1]; rfl)) ?_
        refine XO.rd rfl rfl rfl (Reads.move rfl) ?_
        refine XO.rd (wg rfl rfl rfl) rfl rfl (Reads.move rfl) ?_
        refine XO.rd (wg rfl rfl rfl) rfl rfl (Reads.cmp_no rfl rfl rfl (by rw [(check_at hmo.f (ok_known s1)).1]; rfl)) ?_
        refine XO.rd rfl rfl rfl (Reads.pick_false rfl rfl) ?_
        refine XO.nil ?_
        refine XQ.then_normal ?_
        refine XC.cond rfl (fun hx => by cases hx) (fun _ => ?_)
        refine XC.skip ?_
        refine XQ.then_normal ?_
        refine XC.seq ?_
        refine XC.seq ?_
        refine XC.region ?_
        refine XO.rd rfl rfl rfl (Reads.move rfl) ?_
        refine XO.rd rfl rfl rfl (Reads.cmp rfl rfl rfl) ?_
        refine XO.nil ?_
        refine XQ.then_normal ?_
        refine XC.cond rfl (fun h4 => ?_) (fun h4 => ?_)
        · skip
          have hge := of_decide_eq_true h4
          refine XC.seq ?_
          refine XC.region ?_
          refine XO.rd rfl rfl rfl (Reads.move rfl) ?_
          refine XO.rd rfl rfl rfl (Reads.move rfl) ?_
          refine XO.rd rfl rfl rfl (Reads.cmp_yes rfl rfl rfl (by rw [if_pos hge] at hst; rw [hst]; simp [cmpInt])) ?_
          refine XO.rd rfl rfl rfl (Reads.move rfl) ?_
          refine XO.rd (wg rfl rfl rfl) rfl rfl (Reads.move rfl) ?_
          refine XO.rd (wg rfl rfl rfl) rfl rfl (Reads.move rfl) ?_
          refine XO.rd (wg rfl rfl rfl) rfl rfl (Reads.cmp_yes rfl rfl rfl (by rw [if_pos hge] at hst; rw [hst]; simp [cmpInt])) ?_
          refine XO.rd rfl rfl rfl (Reads.pick_true rfl rfl) ?_
          refine XO.rd rfl rfl rfl (Reads.assign rfl) ?_
          refine XO.nil ?_
          refine XQ.then_normal ?_
          refine XC.ret ?_
          refine XQ.then_ret ?_
          refine XQ.dropn 3 ?_
          refine XQ.done1 (L := []) rfl rfl hI ?_
          exact ⟨rfl, rfl⟩
        · skip
          have hge := of_decide_eq_false h4
          rw [if_neg hge] at hst
          refine XC.skip ?_
          refine XQ.then_normal ?_
          refine XC.seq ?_
          refine XC.region ?_
          refine XO.rd rfl rfl rfl (Reads.move rfl) ?_
          refine XO.rd rfl rfl rfl (fa37_1 rfl) ?_
          refine XO.rd rfl rfl rfl (Reads.load_own k35 rfl (by first | exact OwnAt.of 0 rfl rfl | exact OwnAt.of 1 rfl rfl | exact OwnAt.of 2 rfl rfl | exact OwnAt.of 3 rfl rfl | exact OwnAt.of 4 rfl rfl | exact OwnAt.of 5 rfl rfl | exact OwnAt.of 6 rfl rfl | exact OwnAt.of 7 rfl rfl)) ?_
          refine XO.rd rfl rfl rfl (fa37_1 rfl) ?_
          refine XO.rd rfl rfl rfl (Reads.load_own k35 rfl (by first | exact OwnAt.of 0 rfl rfl | exact OwnAt.of 1 rfl rfl | exact OwnAt.of 2 rfl rfl | exact OwnAt.of 3 rfl rfl | exact OwnAt.of 4 rfl rfl | exact OwnAt.of 5 rfl rfl | exact OwnAt.of 6 rfl rfl | exact OwnAt.of 7 rfl rfl)) ?_
          refine XO.rd rfl rfl rfl (Reads.len_slice Tryd.underlying35 rfl) ?_
          refine XO.rd rfl rfl rfl (Reads.sub rfl rfl (by omega)) ?_
          rw [show (x.hs.length : Int) - 1 = ((x.hs.length - 1 : Nat) : Int) by omega]
          refine XO.rd rfl rfl rfl (Reads.index_slot (q := (x.hs.length - 1) * 3) Tryd.underlying35 z53 rfl rfl (by omega) (hA.isSome (by decide) (by omega)) (by omega)) ?_
          refine XO.rd rfl rfl rfl (fs53_1 rfl (hA.addr (by decide) (by omega))) ?_
          refine XO.rd rfl rfl rfl (Reads.load_at (v := .int .i64 (x.h (x.hs.length - 1)).l) k3 rfl (by rw [x.h_get (show (x.hs.length - 1) < x.hs.length by omega)]; exact hA.hand (show (x.hs.length - 1) < x.hs.length by omega) 1 _ rfl)) ?_
          refine XO.rd rfl rfl rfl (Reads.cmp_yes rfl rfl rfl (decide_eq_true hst.2.1)) ?_
          refine XO.rd rfl rfl rfl (Reads.move rfl) ?_
          refine XO.rd (wg rfl rfl rfl) rfl rfl (Reads.move rfl) ?_
          refine XO.rd (wg rfl rfl rfl) rfl rfl (Reads.cmp rfl rfl rfl) ?_
          refine XO.rd (wg rfl rfl rfl) rfl rfl (Reads.move rfl) ?_
          refine XO.split (d := 161) rfl (fun h5 => ?_) (fun h5 => ?_)
          · skip
            refine XO.s (wg rfl rfl rfl) rfl ?_
            refine XO.s (wg rfl rfl rfl) rfl ?_
            refine XO.s (wg rfl rfl rfl) rfl ?_
            refine XO.s (wg rfl rfl rfl) rfl ?_
            refine XO.s (wg rfl rfl rfl) rfl ?_
            refine XO.rd (wg rfl rfl rfl) rfl rfl (Reads.pick_true rfl rfl) ?_
            refine XO.rd rfl rfl rfl (Reads.pick_true rfl rfl) ?_
            refine XO.rd rfl rfl rfl (Reads.assign rfl) ?_
            refine XO.nil ?_
            refine XQ.then_normal ?_
            refine XC.ret ?_
            refine XQ.dropn 3 ?_
            refine XQ.done1 (L := []) rfl rfl hI ?_
            exact ⟨rfl, rfl⟩
          · skip
            have hneg := of_decide_eq_false h5
            refine XO.rd (wg rfl rfl rfl) rfl rfl (Reads.move rfl) ?_
            refine XO.rd (wg rfl rfl rfl) rfl rfl (fa37_1 rfl) ?_
            refine XO.rd (wg rfl rfl rfl) rfl rfl (Reads.load_own k35 rfl (by first | exact OwnAt.of 0 rfl rfl | exact OwnAt.of 1 rfl rfl | exact OwnAt.of 2 rfl rfl | exact OwnAt.of 3 rfl rfl | exact OwnAt.of 4 rfl rfl | exact OwnAt.of 5 rfl rfl | exact OwnAt.of 6 rfl rfl | exact OwnAt.of 7 rfl rfl)) ?_
            refine XO.rd (wg rfl rfl rfl) rfl rfl (Reads.len_slice Tryd.underlying35 rfl) ?_
            refine XO.rd (wg rfl rfl rfl) rfl rfl (Reads.cmp_yes rfl rfl rfl (decide_eq_true (hst.2.2.resolve_left hneg))) ?_
            refine XO.rd (wg rfl rfl rfl) rfl rfl (Reads.pick_false rfl rfl) ?_
            refine XO.rd rfl rfl rfl (Reads.pick_true rfl rfl) ?_
            refine XO.rd rfl rfl rfl (Reads.assign rfl) ?_
            refine XO.nil ?_
            refine XQ.then_normal ?_
            refine XC.ret ?_
            refine XQ.dropn 3 ?_
            refine XQ.done1 (L := []) rfl rfl hI ?_
            exact ⟨rfl, rfl⟩
    · skip
      simp only [cmpInt, decide_eq_false_iff_not] at h1
      refine XO.s (wg rfl rfl rfl) rfl ?_
      refine XO.s (wg rfl rfl rfl) rfl ?_
      refine XO.rd rfl rfl rfl (Reads.pick_false rfl rfl) ?_
      refine XO.nil ?_
      refine XQ.then_normal ?_
      refine XC.cond rfl (fun hx => by cases hx) (fun _ => ?_)
      refine XC.exit ?_
      refine XQ.then_exit ?_
      refine XQ.then_exit ?_
      refine XQ.block_exit ?_
      refine XQ.then_normal ?_
      refine XC.seq ?_
      refine XC.region ?_
      refine XO.vec_done (α := Hand) (by decide) hV (flat_hand _ _) (fun J93 hle93 hs9 => ?_)
      replace hI := Im.le_trans hI hle93
      replace hG := hG.mono hle93
      replace hC := hC.mono hle93
      replace hM3 := hM3.mono hle93
      replace hK := hK.mono hle93
      replace hK1 := hK1.mono hle93
      replace hA := hA.mono hle93
      obtain ⟨ay, cy, hval2, hcy, hY⟩ := hs9.ex
      rw [show (⟨blk, hs.length, cp⟩ : Vec).val = _ from hval2]
      obtain ⟨y, hy⟩ : ∃ y : Att, y = ⟨x.d, hs⟩ := ⟨_, rfl⟩
      have hyl : y.hs.length = hs.length := by rw [hy]
      have hyh : Arr _ ay y.hs := (by rw [hy]; exact hY)
      replace hmo : More x y := by rw [hy]; exact hmo
      have hst := check_stays hf (ok_known s1) hmo
      have hcx := check_at hf (ok_known s1)
      refine XO.rd rfl rfl rfl (Reads.move rfl) ?_
      refine XO.rd (v := .agg (y.cs ay cy).toArray) rfl rfl rfl (Reads.to (v := .agg ((⟨x.d, hs⟩ : Att).cs ay cy).toArray) (Reads.load_whole k37 z37 rfl (WholeAt.of 0 rfl) (by rfl)) (by rw [hy])) ?_
      refine XO.callp rfl rfl en19 (check_any y ay ak1 cy ck1 (known allK s1) _ hyh (by omega) hK1 (by rw [known_len, allK_len]; decide) hG) ⟨rfl, rfl, trivial⟩ ?_
      refine XO.rd rfl rfl rfl (Reads.move rfl) ?_
      refine XO.rd rfl rfl rfl (Reads.extract rfl rfl) ?_
      refine XO.rd rfl rfl rfl (Reads.extract rfl rfl) ?_
      refine XO.rd rfl rfl rfl (Reads.extract rfl rfl) ?_
      refine XO.rd rfl rfl rfl (Reads.assign rfl) ?_
      refine XO.rd rfl rfl rfl (Reads.assign rfl) ?_
      refine XO.rd rfl rfl rfl (Reads.assign rfl) ?_
      refine XO.nil ?_
      refine XQ.then_normal ?_
      refine XC.seq ?_
      refine XC.seq ?_
      refine XC.region ?_
      refine XO.rd rfl rfl rfl (Reads.move rfl) ?_
      refine XO.rd rfl rfl rfl (Reads.cmp_no rfl rfl rfl (by rw [hcx.1]; rfl)) ?_
      refine XO.rd rfl rfl rfl (Reads.move rfl) ?_
      refine XO.rd (wg rfl rfl rfl) rfl rfl (Reads.move rfl) ?_
      refine XO.rd (wg rfl rfl rfl) rfl rfl (Reads.cmp_no rfl rfl rfl (by rw [(check_at hmo.f (ok_known s1)).1]; rfl)) ?_
      refine XO.rd rfl rfl rfl (Reads.pick_false rfl rfl) ?_
      refine XO.nil ?_
      refine XQ.then_normal ?_
      refine XC.cond rfl (fun hx => by cases hx) (fun _ => ?_)
      refine XC.skip ?_
      refine XQ.then_normal ?_
      refine XC.seq ?_
      refine XC.seq ?_
      refine XC.region ?_
      refine XO.rd rfl rfl rfl (Reads.move rfl) ?_
      refine XO.rd rfl rfl rfl (Reads.cmp rfl rfl rfl) ?_
      refine XO.nil ?_
      refine XQ.then_normal ?_
      refine XC.cond rfl (fun h6 => ?_) (fun h6 => ?_)
      · skip
        have hge := of_decide_eq_true h6
        refine XC.seq ?_
        refine XC.region ?_
        refine XO.rd rfl rfl rfl (Reads.move rfl) ?_
        refine XO.rd rfl rfl rfl (Reads.move rfl) ?_
        refine XO.rd rfl rfl rfl (Reads.cmp_yes rfl rfl rfl (by rw [if_pos hge] at hst; rw [hst]; simp [cmpInt])) ?_
        refine XO.rd rfl rfl rfl (Reads.move rfl) ?_
        refine XO.rd (wg rfl rfl rfl) rfl rfl (Reads.move rfl) ?_
        refine XO.rd (wg rfl rfl rfl) rfl rfl (Reads.move rfl) ?_
        refine XO.rd (wg rfl rfl rfl) rfl rfl (Reads.cmp_yes rfl rfl rfl (by rw [if_pos hge] at hst; rw [hst]; simp [cmpInt])) ?_
        refine XO.rd rfl rfl rfl (Reads.pick_true rfl rfl) ?_
        refine XO.rd rfl rfl rfl (Reads.assign rfl) ?_
        refine XO.nil ?_
        refine XQ.then_normal ?_
        refine XC.ret ?_
        refine XQ.then_ret ?_
        refine XQ.dropn 3 ?_
        refine XQ.done1 (L := []) rfl rfl hI ?_
        exact ⟨rfl, rfl⟩
      · skip
        have hge := of_decide_eq_false h6
        rw [if_neg hge] at hst
        refine XC.skip ?_
        refine XQ.then_normal ?_
        refine XC.seq ?_
        refine XC.region ?_
        refine XO.rd rfl rfl rfl (Reads.move rfl) ?_
        refine XO.rd rfl rfl rfl (fa37_1 rfl) ?_
        refine XO.rd rfl rfl rfl (Reads.load_own k35 rfl (by first | exact OwnAt.of 0 rfl rfl | exact OwnAt.of 1 rfl rfl | exact OwnAt.of 2 rfl rfl | exact OwnAt.of 3 rfl rfl | exact OwnAt.of 4 rfl rfl | exact OwnAt.of 5 rfl rfl | exact OwnAt.of 6 rfl rfl | exact OwnAt.of 7 rfl rfl)) ?_
        refine XO.rd rfl rfl rfl (fa37_1 rfl) ?_
        refine XO.rd rfl rfl rfl (Reads.load_own k35 rfl (by first | exact OwnAt.of 0 rfl rfl | exact OwnAt.of 1 rfl rfl | exact OwnAt.of 2 rfl rfl | exact OwnAt.of 3 rfl rfl | exact OwnAt.of 4 rfl rfl | exact OwnAt.of 5 rfl rfl | exact OwnAt.of 6 rfl rfl | exact OwnAt.of 7 rfl rfl)) ?_
        refine XO.rd rfl rfl rfl (Reads.len_slice Tryd.underlying35 rfl) ?_
        refine XO.rd rfl rfl rfl (Reads.sub rfl rfl (by omega)) ?_
        rw [show (x.hs.length : Int) - 1 = ((x.hs.length - 1 : Nat) : Int) by omega]
        refine XO.rd rfl rfl rfl (Reads.index_slot (q := (x.hs.length - 1) * 3) Tryd.underlying35 z53 rfl rfl (by omega) (hA.isSome (by decide) (by omega)) (by omega)) ?_
        refine XO.rd rfl rfl rfl (fs53_1 rfl (hA.addr (by decide) (by omega))) ?_
        refine XO.rd rfl rfl rfl (Reads.load_at (v := .int .i64 (x.h (x.hs.length - 1)).l) k3 rfl (by rw [x.h_get (show (x.hs.length - 1) < x.hs.length by omega)]; exact hA.hand (show (x.hs.length - 1) < x.hs.length by omega) 1 _ rfl)) ?_
        refine XO.rd rfl rfl rfl (Reads.cmp_yes rfl rfl rfl (decide_eq_true hst.2.1)) ?_
        refine XO.rd rfl rfl rfl (Reads.move rfl) ?_
        refine XO.rd (wg rfl rfl rfl) rfl rfl (Reads.move rfl) ?_
        refine XO.rd (wg rfl rfl rfl) rfl rfl (Reads.cmp rfl rfl rfl) ?_
        refine XO.rd (wg rfl rfl rfl) rfl rfl (Reads.move rfl) ?_
        refine XO.split (d := 161) rfl (fun h7 => ?_) (fun h7 => ?_)
        · skip
          refine XO.s (wg rfl rfl rfl) rfl ?_
          refine XO.s (wg rfl rfl rfl) rfl ?_
          refine XO.s (wg rfl rfl rfl) rfl ?_
          refine XO.s (wg rfl rfl rfl) rfl ?_
          refine XO.s (wg rfl rfl rfl) rfl ?_
          refine XO.rd (wg rfl rfl rfl) rfl rfl (Reads.pick_true rfl rfl) ?_
          refine XO.rd rfl rfl rfl (Reads.pick_true rfl rfl) ?_
          refine XO.rd rfl rfl rfl (Reads.assign rfl) ?_
          refine XO.nil ?_
          refine XQ.then_normal ?_
          refine XC.ret ?_
          refine XQ.dropn 3 ?_
          refine XQ.done1 (L := []) rfl rfl hI ?_
          exact ⟨rfl, rfl⟩
        · skip
          have hneg := of_decide_eq_false h7
          refine XO.rd (wg rfl rfl rfl) rfl rfl (Reads.move rfl) ?_
          refine XO.rd (wg rfl rfl rfl) rfl rfl (fa37_1 rfl) ?_
          refine XO.rd (wg rfl rfl rfl) rfl rfl (Reads.load_own k35 rfl (by first | exact OwnAt.of 0 rfl rfl | exact OwnAt.of 1 rfl rfl | exact OwnAt.of 2 rfl rfl | exact OwnAt.of 3 rfl rfl | exact OwnAt.of 4 rfl rfl | exact OwnAt.of 5 rfl rfl | exact OwnAt.of 6 rfl rfl | exact OwnAt.of 7 rfl rfl)) ?_
          refine XO.rd (wg rfl rfl rfl) rfl rfl (Reads.len_slice Tryd.underlying35 rfl) ?_
          refine XO.rd (wg rfl rfl rfl) rfl rfl (Reads.cmp_yes rfl rfl rfl (decide_eq_true (hst.2.2.resolve_left hneg))) ?_
          refine XO.rd (wg rfl rfl rfl) rfl rfl (Reads.pick_false rfl rfl) ?_
          refine XO.rd rfl rfl rfl (Reads.pick_true rfl rfl) ?_
          refine XO.rd rfl rfl rfl (Reads.assign rfl) ?_
          refine XO.nil ?_
          refine XQ.then_normal ?_
          refine XC.ret ?_
          refine XQ.dropn 3 ?_
          refine XQ.done1 (L := []) rfl rfl hI ?_
          exact ⟨rfl, rfl⟩

end Go.Proofs.YtmlliafhpbfdbaaDoor
