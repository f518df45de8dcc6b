/- Walk: AttestMatchesReference. -/
import Derived.Test.YtmlliafhpbfdbaaDoorMJ
import Derived.Test.YtmlliafhpbfdbaaDoorMI
import Derived.Test.YtmlliafhpbfdbaaDoorMH
import Derived.Test.YtmlliafhpbfdbaaDoorF13
import Derived.Test.YtmlliafhpbfdbaaDoorF14
import Derived.Test.YtmlliafhpbfdbaaDoorF15
namespace Go.Proofs.YtmlliafhpbfdbaaDoor
open Go.Xe Go.Sh Go Go.At

set_option maxHeartbeats 3200000 in
theorem attestMatches_any (n : Num) (a0 : Option Addr) (c0 : Nat) (bd : Q3) (xr : Att) (ar : Option Addr) (cr : Nat) (st : Int) (al : Option Addr) (cl : Nat) (l : List ByteArray) (av : Option Addr) (cv : Nat) (w : List Int) (ii : Int) (I : Im) (hn : n.In) (hC : Arr I a0 n.cars) (hcl : n.cars.length ≤ 9223372036854775807) (hG : Glob I) (hbd : bd.In) (_hcr : xr.hs.length ≤ cr) (hR : Arr I ar xr.hs) (hrl : xr.hs.length ≤ 9223372036854775807) (hst : In64 st) (_hcl2 : l.length ≤ cl) (hL : Arr I al l) (_hls : ∀ y ∈ l, y.size ≤ 9223372036854775807) (hll : l.length ≤ 9223372036854775807) (hcv : w.length ≤ cv) (hW : Arr I av w) (hwl : w.length ≤ 9223372036854775807) (hii : In64 ii) : FC Tryd.prog 5 [.agg (n.cs a0 c0).toArray, .agg bd.cells.toArray, .agg (xr.cs ar cr).toArray, .int .i64 st, .slice al l.length cl, .slice av w.length cv, .int .i64 ii] I (fun u _I' => u = .bool true) := by
  have hI := Im.le_refl I
  obtain ⟨s1, hs1, hs9⟩ := pick_nat st (n := 256) (by decide)
  obtain ⟨x, hx⟩ : ∃ x : Att, x = n.made := ⟨_, rfl⟩
  have hch := n.made_chain
  have hml := n.made_len
  rw [← hx] at hch hml
  have hf := hch.f
  have hsz := formed_sz hf
  obtain ⟨y, hy⟩ : ∃ y : Att, y = bent x bd.a bd.b bd.c := ⟨_, rfl⟩
  have hyl := bent_len x bd.a bd.b bd.c
  rw [← hy] at hyl
  obtain ⟨r, hr9⟩ : ∃ r : Att, r = fewA xr := ⟨_, rfl⟩
  have hrl9 := fewA_len xr
  rw [← hr9] at hrl9
  obtain ⟨lo, hlo⟩ : ∃ lo, lo = shortF l := ⟨_, rfl⟩
  have hlo9 := shortF_len l
  rw [← hlo] at hlo9
  obtain ⟨w9, hw9⟩ : ∃ w9, w9 = w.take 9 := ⟨_, rfl⟩
  have hW9 : Arr I av w9 := by rw [hw9]; exact hW.take 9
  have hw9l : w9.length ≤ 9 ∧ w9.length ≤ w.length := by rw [hw9, List.length_take]; omega
  refine FSo.intro (n := 201) Tryd.func5 rfl rfl rfl (fun K Lf => ?_)
  refine XC.seq ?_
  refine XC.region ?_
  refine XO.box_agg rfl rfl rfl (fun b7 => ?_)
  refine XO.box_agg rfl rfl rfl (fun b8 => ?_)
  refine XO.box_agg rfl rfl rfl (fun b9 => ?_)
  refine XO.rd rfl rfl rfl (Reads.assign rfl) ?_
  refine XO.nil ?_
  refine XQ.then_normal ?_
  refine XC.seq ?_
  refine XC.seq ?_
  refine XC.region ?_
  refine XO.callp rfl rfl en13 (FC.pure (sane_any _ hG)) trivial ?_
  refine XO.rd rfl rfl rfl (Reads.not rfl) ?_
  refine XO.nil ?_
  refine XQ.then_normal ?_
  refine XC.cond rfl (fun hx => by cases hx) (fun _ => ?_)
  refine XC.skip ?_
  refine XQ.then_normal ?_
  refine XC.seq ?_
  refine XC.region ?_
  refine XO.call rfl rfl en15 (all_any _) trivial ?_
  rintro u J96 hle96 hr
  replace hI := Im.le_trans hI hle96
  replace hG := hG.mono hle96
  replace hC := hC.mono hle96
  replace hR := hR.mono hle96
  replace hL := hL.mono hle96
  replace hW9 := hW9.mono hle96
  obtain ⟨ak, ck, rfl, hc_hK, hK⟩ := hr.ex
  refine XO.rd rfl rfl rfl (Reads.assign rfl) ?_
  refine XO.nil ?_
  refine XQ.then_normal ?_
  refine XC.seq ?_
  refine XC.region ?_
  refine XO.rd rfl rfl rfl (Reads.load_whole k26 z26 rfl (by first | exact WholeAt.of 0 rfl | exact WholeAt.of 1 rfl | exact WholeAt.of 2 rfl | exact WholeAt.of 3 rfl | exact WholeAt.of 4 rfl | exact WholeAt.of 5 rfl | exact WholeAt.of 6 rfl | exact WholeAt.of 7 rfl | exact WholeAt.of 8 rfl) (by rfl)) ?_
  refine XO.call rfl rfl en18 (made_any n a0 c0 _ hn hC hcl) ⟨rfl, trivial⟩ ?_
  rintro u J97 hle97 hr
  replace hI := Im.le_trans hI hle97
  replace hG := hG.mono hle97
  replace hC := hC.mono hle97
  replace hR := hR.mono hle97
  replace hL := hL.mono hle97
  replace hW9 := hW9.mono hle97
  replace hK := hK.mono hle97
  rw [← hx] at hr
  obtain ⟨ab, cb, rfl, hcp_hA, hA⟩ := hr
  refine XO.alloc (cs := #[.int .i64 0, .int .i64 0, .int .i64 0, .int .i64 0, .slice none 0 0]) rfl rfl zo37 rfl (fun b16 => ?_)
  refine XO.store_agg (vs := (x).cs ab cb) 0 rfl z37 rfl rfl (by simp [Value.oneCell']) rfl (by simp) ?_
  refine XO.nil ?_
  refine XQ.then_normal ?_
  refine XC.seq ?_
  refine XC.region ?_
  refine XO.rd rfl rfl rfl (Reads.move rfl) ?_
  refine XO.call rfl rfl en28 (short_any al cl l _ hL hll) ⟨rfl, trivial⟩ ?_
  rintro u J98 hle98 hr
  replace hI := Im.le_trans hI hle98
  replace hG := hG.mono hle98
  replace hC := hC.mono hle98
  replace hR := hR.mono hle98
  replace hL := hL.mono hle98
  replace hW9 := hW9.mono hle98
  replace hK := hK.mono hle98
  replace hA := hA.mono hle98
  rw [← hlo] at hr
  obtain ⟨ao, co, rfl, hc_hO, hO⟩ := hr.ex
  refine XO.rd rfl rfl rfl (Reads.assign rfl) ?_
  refine XO.nil ?_
  refine XQ.then_normal ?_
  refine XC.seq ?_
  refine XC.region ?_
  refine XO.rd rfl rfl rfl (Reads.move rfl) ?_
  refine XO.rd rfl rfl rfl (Reads.move rfl) ?_
  refine XO.rd rfl rfl rfl (Reads.len_slice Tryd.underlying23 rfl) ?_
  refine XO.rd (v := .int .i64 (w9.length : Int)) rfl rfl rfl (Reads.to (v := .int .i64 (min (w.length : Int) 9)) (Reads.min rfl rfl) (congrArg (Value.int .i64) (by rw [hw9, List.length_take]; omega))) ?_
  refine XO.rd (v := .slice av w9.length cv) rfl rfl rfl (Reads.to (v := .slice av ((w9.length : Nat) : Int).toNat cv) (Reads.slice_to Tryd.underlying23 z3 rfl rfl (by omega)) (by rw [Int.toNat_natCast])) ?_
  refine XO.rd rfl rfl rfl (Reads.assign rfl) ?_
  refine XO.nil ?_
  refine XQ.then_normal ?_
  refine XC.seq ?_
  refine XC.seq ?_
  refine XC.draw m_mixed none (.pure 0 (.pure 1 (.pure 2 (.pure 3 (.pure 4 (.pure 5 (.pure 6 (.pure 7 (.pure 9 (.pure 13 (.eff 8 (.eff 10 (.eff 11 (.pure 12 (.done))))))))))))))) _ (by kernel_rfl) (List.Sublist.refl _) ?_
  refine XR.rd rfl rfl rfl (Reads.load_whole k37 z37 rfl (by first | exact WholeAt.of 0 rfl | exact WholeAt.of 1 rfl | exact WholeAt.of 2 rfl | exact WholeAt.of 3 rfl | exact WholeAt.of 4 rfl | exact WholeAt.of 5 rfl | exact WholeAt.of 6 rfl | exact WholeAt.of 7 rfl | exact WholeAt.of 8 rfl) (by rfl)) ?_
  refine XR.rd rfl rfl rfl (Reads.load_whole k37 z37 rfl (by first | exact WholeAt.of 0 rfl | exact WholeAt.of 1 rfl | exact WholeAt.of 2 rfl | exact WholeAt.of 3 rfl | exact WholeAt.of 4 rfl | exact WholeAt.of 5 rfl | exact WholeAt.of 6 rfl | exact WholeAt.of 7 rfl | exact WholeAt.of 8 rfl) (by rfl)) ?_
  refine XR.rd rfl rfl rfl (Reads.index_arr_own (q := 0) Tryd.underlying27 z3 rfl rfl (by decide) rfl) ?_
  refine XR.rd rfl rfl rfl (Reads.load_own k3 rfl (by first | exact OwnAt.of 0 rfl rfl | exact OwnAt.of 1 rfl rfl | exact OwnAt.of 2 rfl rfl | exact OwnAt.of 3 rfl rfl | exact OwnAt.of 4 rfl rfl | exact OwnAt.of 5 rfl rfl | exact OwnAt.of 6 rfl rfl | exact OwnAt.of 7 rfl rfl | exact OwnAt.of 8 rfl rfl)) ?_
  refine XR.rd rfl rfl rfl (Reads.index_arr_own (q := 1) Tryd.underlying27 z3 rfl rfl (by decide) rfl) ?_
  refine XR.rd rfl rfl rfl (Reads.load_own k3 rfl (by first | exact OwnAt.of 0 rfl rfl | exact OwnAt.of 1 rfl rfl | exact OwnAt.of 2 rfl rfl | exact OwnAt.of 3 rfl rfl | exact OwnAt.of 4 rfl rfl | exact OwnAt.of 5 rfl rfl | exact OwnAt.of 6 rfl rfl | exact OwnAt.of 7 rfl rfl | exact OwnAt.of 8 rfl rfl)) ?_
  refine XR.rd rfl rfl rfl (Reads.index_arr_own (q := 2) Tryd.underlying27 z3 rfl rfl (by decide) rfl) ?_
  refine XR.rd rfl rfl rfl (Reads.load_own k3 rfl (by first | exact OwnAt.of 0 rfl rfl | exact OwnAt.of 1 rfl rfl | exact OwnAt.of 2 rfl rfl | exact OwnAt.of 3 rfl rfl | exact OwnAt.of 4 rfl rfl | exact OwnAt.of 5 rfl rfl | exact OwnAt.of 6 rfl rfl | exact OwnAt.of 7 rfl rfl | exact OwnAt.of 8 rfl rfl)) ?_
  refine XR.rd rfl rfl rfl (Reads.load_whole k37 z37 rfl (by first | exact WholeAt.of 0 rfl | exact WholeAt.of 1 rfl | exact WholeAt.of 2 rfl | exact WholeAt.of 3 rfl | exact WholeAt.of 4 rfl | exact WholeAt.of 5 rfl | exact WholeAt.of 6 rfl | exact WholeAt.of 7 rfl | exact WholeAt.of 8 rfl) (by rfl)) ?_
  refine XR.rd rfl rfl rfl (Reads.move rfl) ?_
  refine XR.call rfl rfl rfl en17 (bent_any x ab cb bd.a bd.b bd.c _ hA (by omega) (by omega) hbd.a hbd.b hbd.c) ⟨rfl, rfl, rfl, rfl, trivial⟩ (List.Sublist.refl _) ?_
  rintro u J99 hle99 hr
  replace hI := Im.le_trans hI hle99
  replace hG := hG.mono hle99
  replace hC := hC.mono hle99
  replace hR := hR.mono hle99
  replace hL := hL.mono hle99
  replace hW9 := hW9.mono hle99
  replace hK := hK.mono hle99
  replace hA := hA.mono hle99
  replace hO := hO.mono hle99
  rw [← hy] at hr
  obtain ⟨a2, c2, rfl, hcp_hB, hB⟩ := hr
  refine XR.call rfl rfl rfl en29 (few_any xr ar cr _ hR hrl) ⟨rfl, trivial⟩ (List.Sublist.refl _) ?_
  rintro u J100 hle100 hr
  replace hI := Im.le_trans hI hle100
  replace hG := hG.mono hle100
  replace hC := hC.mono hle100
  replace hR := hR.mono hle100
  replace hL := hL.mono hle100
  replace hW9 := hW9.mono hle100
  replace hK := hK.mono hle100
  replace hA := hA.mono hle100
  replace hO := hO.mono hle100
  replace hB := hB.mono hle100
  rw [← hr9] at hr
  obtain ⟨a5, c5, rfl, hcp_hF, hF⟩ := hr
  refine XR.buildL [.agg (x.cs ab cb).toArray, .agg (y.cs a2 c2).toArray, .agg (r.cs a5 c5).toArray] (x.cs ab cb ++ (y.cs a2 c2 ++ r.cs a5 c5)) rfl rfl rfl Tryd.underlying60 el37 rfl (by simp) ⟨rfl, rfl, rfl, rfl, rfl, rfl, trivial⟩ rfl rfl (List.Sublist.refl _) (fun b64 => ?_)
  refine XR.rd rfl rfl rfl (Reads.len_slice Tryd.underlying60 rfl) ?_
  refine XR.nil ?_
  refine XQ.then_normal ?_
  refine XC.block ?_
  refine XC.loop (ι := Nat × Im) (fun q => [(3, .int .i64 st), (4, .slice ao lo.length co), (5, .slice av w9.length cv), (6, .int .i64 ii), (7, .pointer (some ⟨b7, 0, none⟩)), (15, .slice ak allK.length ck), (64, .slice (some ⟨b64, 0, none⟩) 3 3), (65, .int .i64 3), (66, .int .i64 q.1)]) (fun q => q.2) (fun q => some (b64, .cells (x.cs ab cb ++ (y.cs a2 c2 ++ r.cs a5 c5)).toArray 37 (0, 0)) :: some (b16, .cells ((x).cs ab cb).toArray 37 (0, 0)) :: some (b9, .cells (xr.cs ar cr).toArray 37 (0, 0)) :: some (b8, .cells bd.cells.toArray 27 (0, 0)) :: some (b7, .cells (n.cs a0 c0).toArray 26 (0, 0)) :: ([] ++ Lf)) (fun q => q.1 ≤ 3 ∧ I.le q.2 ∧ Glob q.2 ∧ Arr q.2 a0 n.cars ∧ Arr q.2 ak allK ∧ Arr q.2 ab x.hs ∧ Arr q.2 a2 y.hs ∧ Arr q.2 a5 r.hs ∧ Arr q.2 ao lo ∧ Arr q.2 av w9) (fun q => 3 - q.1) (0, _) ⟨Nat.zero_le _, hI, hG, hC, hK, hA, hB, hF, hO, hW9⟩ ⟨rfl, rfl, rfl, rfl, rfl, rfl, rfl, rfl, rfl, trivial⟩ rfl (List.Perm.refl _) (fun q hq => ?_)
  obtain ⟨i, M⟩ := q
  obtain ⟨hi1, hI, hG, hC, hK, hA, hB, hF, hO, hW9⟩ := hq
  simp only at hi1 hI hG hC hK hA hB hF hO hW9 ⊢
  refine XC.seq ?_
  refine XC.region ?_
  refine XO.rd rfl rfl rfl (Reads.cmp rfl rfl rfl) ?_
  refine XO.nil ?_
  refine XQ.then_normal ?_
  refine XC.seq ?_
  refine XC.cond rfl (fun h1 => ?_) (fun h1 => ?_)
  · skip
    simp only [cmpInt, decide_eq_true_eq] at h1
    have hi3 : i < 3 := by omega
    obtain ⟨z, az, cz, hZ, hzl, hcp_hZ, hzc⟩ := three_atts (c := cb) (e := c2) (g := c5) hA hB hF hi3 (m := 9) (by omega) (by omega) (by omega) hcp_hA hcp_hB hcp_hF
    refine XC.skip ?_
    refine XQ.then_normal ?_
    refine XC.seq ?_
    refine XC.block ?_
    refine XC.seq ?_
    refine XC.region ?_
    refine XO.rd rfl rfl rfl (Reads.index_own (q := i * 5) Tryd.underlying60 z37 rfl rfl (by omega) (by omega)) ?_
    refine XO.rd rfl rfl rfl (Reads.load_agg_own (vs := z.cs az cz) k37 z37 rfl (fun j v hj => OwnAt.of 0 rfl (hzc j v hj))) ?_
    refine XO.alloc (cs := #[.int .i64 0, .int .i64 0, .int .i64 0, .int .i64 0, .slice none 0 0]) rfl rfl zo37 rfl (fun b18 => ?_)
    refine XO.store_agg (vs := (z).cs az cz) 0 rfl z37 rfl rfl (by simp [Value.oneCell']) rfl (by simp) ?_
    refine XO.nil ?_
    refine XQ.then_normal ?_
    refine XC.seq ?_
    refine XC.seq ?_
    refine XC.draw m_mixed none (.pure 0 (.pure 2 (.eff 1 (.eff 3 (.pure 4 (.done)))))) _ (by kernel_rfl) (List.Sublist.refl _) ?_
    refine XR.rd rfl rfl rfl (Reads.load_whole k37 z37 rfl (by first | exact WholeAt.of 0 rfl | exact WholeAt.of 1 rfl | exact WholeAt.of 2 rfl | exact WholeAt.of 3 rfl | exact WholeAt.of 4 rfl | exact WholeAt.of 5 rfl | exact WholeAt.of 6 rfl | exact WholeAt.of 7 rfl | exact WholeAt.of 8 rfl) (by rfl)) ?_
    refine XR.rd rfl rfl rfl (Reads.load_whole k37 z37 rfl (by first | exact WholeAt.of 0 rfl | exact WholeAt.of 1 rfl | exact WholeAt.of 2 rfl | exact WholeAt.of 3 rfl | exact WholeAt.of 4 rfl | exact WholeAt.of 5 rfl | exact WholeAt.of 6 rfl | exact WholeAt.of 7 rfl | exact WholeAt.of 8 rfl) (by rfl)) ?_
    refine XR.callp rfl rfl rfl en20 (formed_any z az cz _ hZ (by omega)) ⟨rfl, trivial⟩ (List.Sublist.refl _) ?_
    refine XR.callp rfl rfl rfl en30 (rformed_any z az cz _ hZ (by omega)) ⟨rfl, trivial⟩ (List.Sublist.refl _) ?_
    refine XR.rd rfl rfl rfl (Reads.to (v' := .bool false) (Reads.neq_bool Tryd.underlying4 rfl rfl) (by simp)) ?_
    refine XR.nil ?_
    refine XQ.then_normal ?_
    refine XC.cond rfl (fun hx => by cases hx) (fun _ => ?_)
    refine XC.skip ?_
    refine XQ.then_normal ?_
    refine XC.seq ?_
    refine XC.seq ?_
    refine XC.region ?_
    refine XO.rd rfl rfl rfl (Reads.move rfl) ?_
    refine XO.rd rfl rfl rfl (Reads.move rfl) ?_
    refine XO.callp rfl rfl en16 (pickL_any ii 7 _ hii (by decide)) ⟨rfl, rfl, trivial⟩ ?_
    refine XO.buildL ([Value.int .i64 ii, .int .i64 (pickI ii 7)]) ([Value.int .i64 ii, .int .i64 (pickI ii 7)]) rfl rfl Tryd.underlying23 el3 rfl (by simp) ⟨rfl, rfl, rfl, rfl, trivial⟩ rfl rfl (fun b78 => ?_)
    refine XO.rd rfl rfl rfl (Reads.len_slice Tryd.underlying23 rfl) ?_
    refine XO.rd rfl rfl rfl (Reads.move rfl) ?_
    refine XO.nil ?_
    refine XQ.then_normal ?_
    refine XC.block ?_
    refine XC.loop (ι := Nat × Im) (fun q => [(3, .int .i64 st), (4, .slice ao lo.length co), (5, .slice av w9.length cv), (6, .int .i64 ii), (7, .pointer (some ⟨b7, 0, none⟩)), (15, .slice ak allK.length ck), (18, .pointer (some ⟨b18, 0, none⟩)), (64, .slice (some ⟨b64, 0, none⟩) 3 3), (65, .int .i64 3), (66, .int .i64 i), (78, .slice (some ⟨b78, 0, none⟩) 2 2), (79, .int .i64 2), (80, .int .i64 q.1)]) (fun q => q.2) (fun q => some (b78, .cells ([Value.int .i64 ii, .int .i64 (pickI ii 7)] : List Value).toArray 3 (0, 0)) :: some (b18, .cells ((z).cs az cz).toArray 37 (0, 0)) :: some (b64, .cells (x.cs ab cb ++ (y.cs a2 c2 ++ r.cs a5 c5)).toArray 37 (0, 0)) :: some (b16, .cells ((x).cs ab cb).toArray 37 (0, 0)) :: some (b9, .cells (xr.cs ar cr).toArray 37 (0, 0)) :: some (b8, .cells bd.cells.toArray 27 (0, 0)) :: some (b7, .cells (n.cs a0 c0).toArray 26 (0, 0)) :: ([] ++ Lf)) (fun q => q.1 ≤ 2 ∧ I.le q.2 ∧ Glob q.2 ∧ Arr q.2 a0 n.cars ∧ Arr q.2 ak allK ∧ Arr q.2 ab x.hs ∧ Arr q.2 a2 y.hs ∧ Arr q.2 a5 r.hs ∧ Arr q.2 ao lo ∧ Arr q.2 av w9 ∧ Arr q.2 az z.hs) (fun q => 2 - q.1) (0, _) ⟨Nat.zero_le _, hI, hG, hC, hK, hA, hB, hF, hO, hW9, hZ⟩ ⟨rfl, rfl, rfl, rfl, rfl, rfl, rfl, rfl, rfl, rfl, rfl, rfl, rfl, trivial⟩ rfl (List.Perm.refl _) (fun q hq => ?_)
    obtain ⟨ia, M2⟩ := q
    obtain ⟨hia1, hI, hG, hC, hK, hA, hB, hF, hO, hW9, hZ⟩ := hq
    simp only at hia1 hI hG hC hK hA hB hF hO hW9 hZ ⊢
    refine XC.seq ?_
    refine XC.weaken (E' := [(3, _), (4, _), (5, _), (6, _), (7, _), (15, _), (18, _), (64, _), (65, _), (66, _), (78, _), (79, _), (80, _)]) ⟨rfl, rfl, rfl, rfl, rfl, rfl, rfl, rfl, rfl, rfl, rfl, rfl, rfl, trivial⟩ ?_
    refine XC.region ?_
    refine XO.rd rfl rfl rfl (Reads.cmp rfl rfl rfl) ?_
    refine XO.nil ?_
    refine XQ.then_normal ?_
    refine XC.seq ?_
    refine XC.cond rfl (fun h2 => ?_) (fun h2 => ?_)
    · skip
      simp only [cmpInt, decide_eq_true_eq] at h2
      have hia3 : ia < 2 := by omega
      obtain ⟨k0, _, hk0⟩ := two_ints (a := ii) (b := pickI ii 7) hia3
      refine XC.skip ?_
      refine XQ.then_normal ?_
      refine XC.seq ?_
      refine XC.block ?_
      refine XC.seq ?_
      refine XC.region ?_
      refine XO.rd rfl rfl rfl (Reads.index_own (q := ia) Tryd.underlying23 z3 rfl rfl (by omega) (by omega)) ?_
      refine XO.rd rfl rfl rfl (Reads.load_own k3 rfl (OwnAt.of 0 rfl hk0)) ?_
      refine XO.rd rfl rfl rfl (Reads.assign rfl) ?_
      refine XO.nil ?_
      refine XQ.then_normal ?_
      refine XC.seq ?_
      refine XC.region ?_
      refine XO.rd rfl rfl rfl (Reads.load_whole k37 z37 rfl (by first | exact WholeAt.of 0 rfl | exact WholeAt.of 1 rfl | exact WholeAt.of 2 rfl | exact WholeAt.of 3 rfl | exact WholeAt.of 4 rfl | exact WholeAt.of 5 rfl | exact WholeAt.of 6 rfl | exact WholeAt.of 7 rfl | exact WholeAt.of 8 rfl) (by rfl)) ?_
      refine XO.rd rfl rfl rfl (Reads.move rfl) ?_
      refine XO.call rfl rfl en21 (cut_any z az cz k0 _ hZ (by omega) hcp_hZ) ⟨rfl, rfl, trivial⟩ ?_
      rintro u J101 hle101 hr
      replace hI := Im.le_trans hI hle101
      replace hG := hG.mono hle101
      replace hC := hC.mono hle101
      replace hK := hK.mono hle101
      replace hA := hA.mono hle101
      replace hB := hB.mono hle101
      replace hF := hF.mono hle101
      replace hO := hO.mono hle101
      replace hW9 := hW9.mono hle101
      replace hZ := hZ.mono hle101
      obtain ⟨ao1, co1, rfl, hco_hU1, hU1, hno_hU1⟩ := hr.any4
      refine XO.rd rfl rfl rfl (Reads.move rfl) ?_
      refine XO.rd rfl rfl rfl (Reads.extract rfl rfl) ?_
      refine XO.rd rfl rfl rfl (Reads.extract rfl rfl) ?_
      refine XO.alloc (cs := #[.int .i64 0, .int .i64 0, .int .i64 0, .int .i64 0, .slice none 0 0]) rfl rfl zo37 rfl (fun b21 => ?_)
      refine XO.store_agg (vs := (((cut z k0).getD none0)).cs ao1 co1) 0 rfl z37 rfl rfl (by simp [Value.oneCell']) rfl (by simp) ?_
      refine XO.rd rfl rfl rfl (Reads.assign rfl) ?_
      refine XO.nil ?_
      refine XQ.then_normal ?_
      refine XC.seq ?_
      refine XC.region ?_
      refine XO.rd rfl rfl rfl (Reads.load_whole k37 z37 rfl (by first | exact WholeAt.of 0 rfl | exact WholeAt.of 1 rfl | exact WholeAt.of 2 rfl | exact WholeAt.of 3 rfl | exact WholeAt.of 4 rfl | exact WholeAt.of 5 rfl | exact WholeAt.of 6 rfl | exact WholeAt.of 7 rfl | exact WholeAt.of 8 rfl) (by rfl)) ?_
      refine XO.rd rfl rfl rfl (Reads.move rfl) ?_
      refine XO.call rfl rfl en31 (rcut_any z az cz k0 _ hZ (by omega) hcp_hZ) ⟨rfl, rfl, trivial⟩ ?_
      rintro u J102 hle102 hr
      replace hI := Im.le_trans hI hle102
      replace hG := hG.mono hle102
      replace hC := hC.mono hle102
      replace hK := hK.mono hle102
      replace hA := hA.mono hle102
      replace hB := hB.mono hle102
      replace hF := hF.mono hle102
      replace hO := hO.mono hle102
      replace hW9 := hW9.mono hle102
      replace hZ := hZ.mono hle102
      replace hU1 := hU1.mono hle102
      obtain ⟨ao2, co2, rfl, hco_hU2, hU2, hno_hU2⟩ := hr.any4
      refine XO.rd rfl rfl rfl (Reads.move rfl) ?_
      refine XO.rd rfl rfl rfl (Reads.extract rfl rfl) ?_
      refine XO.rd rfl rfl rfl (Reads.extract rfl rfl) ?_
      refine XO.alloc (cs := #[.int .i64 0, .int .i64 0, .int .i64 0, .int .i64 0, .slice none 0 0]) rfl rfl zo37 rfl (fun b23 => ?_)
      refine XO.store_agg (vs := (((cut z k0).getD none0)).cs ao2 co2) 0 rfl z37 rfl rfl (by simp [Value.oneCell']) rfl (by simp) ?_
      refine XO.rd rfl rfl rfl (Reads.assign rfl) ?_
      refine XO.nil ?_
      refine XQ.then_normal ?_
      refine XC.seq ?_
      refine XC.seq ?_
      refine XC.region ?_
      refine XO.rd rfl rfl rfl (Reads.move rfl) ?_
      refine XO.rd rfl rfl rfl (Reads.move rfl) ?_
      refine XO.rd rfl rfl rfl (Reads.cmp_no rfl rfl rfl (by simp [cmpInt])) ?_
      refine XO.rd rfl rfl rfl (Reads.move rfl) ?_
      refine XO.rd (wg rfl rfl rfl) rfl rfl (Reads.load_whole k37 z37 rfl (by first | exact WholeAt.of 0 rfl | exact WholeAt.of 1 rfl | exact WholeAt.of 2 rfl | exact WholeAt.of 3 rfl | exact WholeAt.of 4 rfl | exact WholeAt.of 5 rfl | exact WholeAt.of 6 rfl | exact WholeAt.of 7 rfl | exact WholeAt.of 8 rfl) (by rfl)) ?_
      refine XO.rd (wg rfl rfl rfl) rfl rfl (Reads.load_whole k37 z37 rfl (by first | exact WholeAt.of 0 rfl | exact WholeAt.of 1 rfl | exact WholeAt.of 2 rfl | exact WholeAt.of 3 rfl | exact WholeAt.of 4 rfl | exact WholeAt.of 5 rfl | exact WholeAt.of 6 rfl | exact WholeAt.of 7 rfl | exact WholeAt.of 8 rfl) (by rfl)) ?_
      refine XO.callp (wg rfl rfl rfl) rfl en32 (rsame_any ((cut z k0).getD none0) ao1 ao2 co1 co2 _ hU1 hU2 (by have := cut_len (x := z) (n := k0); omega)) ⟨rfl, rfl, trivial⟩ ?_
      refine XO.rd (wg rfl rfl rfl) rfl rfl (Reads.not rfl) ?_
      refine XO.rd rfl rfl rfl (Reads.pick_false rfl rfl) ?_
      refine XO.nil ?_
      refine XQ.then_normal ?_
      refine XC.cond rfl (fun hx => by cases hx) (fun _ => ?_)
      refine XC.skip ?_
      refine XQ.then_normal ?_
      refine XC.seq ?_
      refine XC.region ?_
      refine XO.rd rfl rfl rfl (Reads.move rfl) ?_
      refine XO.rd rfl rfl rfl (Reads.move rfl) ?_
      refine XO.rd rfl rfl rfl (Reads.move rfl) ?_
      refine XO.callp rfl rfl en16 (pickL_any st 256 _ hst (by decide)) ⟨rfl, rfl, trivial⟩ ?_
      rw [hs1]
      refine XO.call rfl rfl en14 (known_any ak ck allK s1 _ hK (by rw [allK_len]; decide)) ⟨rfl, rfl, trivial⟩ ?_
      rintro u J103 hle103 hr
      replace hI := Im.le_trans hI hle103
      replace hG := hG.mono hle103
      replace hC := hC.mono hle103
      replace hK := hK.mono hle103
      replace hA := hA.mono hle103
      replace hB := hB.mono hle103
      replace hF := hF.mono hle103
      replace hO := hO.mono hle103
      replace hW9 := hW9.mono hle103
      replace hZ := hZ.mono hle103
      replace hU1 := hU1.mono hle103
      replace hU2 := hU2.mono hle103
      obtain ⟨ak1, ck1, rfl, hc_hK1, hK1⟩ := hr.ex
      refine XO.rd rfl rfl rfl (Reads.move rfl) ?_
      refine XO.buildL ([Value.slice ak allK.length ck, .slice ak1 (known allK s1).length ck1, .slice ao lo.length co]) ([Value.slice ak allK.length ck, .slice ak1 (known allK s1).length ck1, .slice ao lo.length co]) rfl rfl Tryd.underlying62 el29 rfl (by simp) ⟨rfl, rfl, rfl, rfl, rfl, rfl, trivial⟩ rfl rfl (fun b111 => ?_)
      refine XO.rd rfl rfl rfl (Reads.len_slice Tryd.underlying62 rfl) ?_
      refine XO.rd rfl rfl rfl (Reads.move rfl) ?_
      refine XO.nil ?_
      refine XQ.then_normal ?_
      refine XC.block ?_
      refine XC.loop (ι := Nat) (fun q => [(3, .int .i64 st), (4, .slice ao lo.length co), (5, .slice av w9.length cv), (6, .int .i64 ii), (7, .pointer (some ⟨b7, 0, none⟩)), (15, .slice ak allK.length ck), (18, .pointer (some ⟨b18, 0, none⟩)), (20, .int .i64 k0), (64, .slice (some ⟨b64, 0, none⟩) 3 3), (65, .int .i64 3), (66, .int .i64 i), (78, .slice (some ⟨b78, 0, none⟩) 2 2), (79, .int .i64 2), (80, .int .i64 ia), (111, .slice (some ⟨b111, 0, none⟩) 3 3), (112, .int .i64 3), (113, .int .i64 q)]) (fun q => J103) (fun q => some (b111, .cells ([Value.slice ak allK.length ck, .slice ak1 (known allK s1).length ck1, .slice ao lo.length co] : List Value).toArray 29 (0, 0)) :: some (b23, .cells ((((cut z k0).getD none0)).cs ao2 co2).toArray 37 (0, 0)) :: some (b21, .cells ((((cut z k0).getD none0)).cs ao1 co1).toArray 37 (0, 0)) :: some (b78, .cells ([Value.int .i64 ii, .int .i64 (pickI ii 7)] : List Value).toArray 3 (0, 0)) :: some (b18, .cells ((z).cs az cz).toArray 37 (0, 0)) :: some (b64, .cells (x.cs ab cb ++ (y.cs a2 c2 ++ r.cs a5 c5)).toArray 37 (0, 0)) :: some (b16, .cells ((x).cs ab cb).toArray 37 (0, 0)) :: some (b9, .cells (xr.cs ar cr).toArray 37 (0, 0)) :: some (b8, .cells bd.cells.toArray 27 (0, 0)) :: some (b7, .cells (n.cs a0 c0).toArray 26 (0, 0)) :: ([] ++ Lf)) (fun q => q ≤ 3) (fun q => 3 - q) 0 (Nat.zero_le _) ⟨rfl, rfl, rfl, rfl, rfl, rfl, rfl, rfl, rfl, rfl, rfl, rfl, rfl, rfl, rfl, rfl, rfl, trivial⟩ rfl (List.Perm.refl _) (fun ib hib => ?_)
      refine XC.seq ?_
      refine XC.weaken (E' := [(3, _), (4, _), (5, _), (6, _), (7, _), (15, _), (18, _), (20, _), (64, _), (65, _), (66, _), (78, _), (79, _), (80, _), (111, _), (112, _), (113, _)]) ⟨rfl, rfl, rfl, rfl, rfl, rfl, rfl, rfl, rfl, rfl, rfl, rfl, rfl, rfl, rfl, rfl, rfl, trivial⟩ ?_
      refine XC.region ?_
      refine XO.rd rfl rfl rfl (Reads.cmp rfl rfl rfl) ?_
      refine XO.nil ?_
      refine XQ.then_normal ?_
      refine XC.seq ?_
      refine XC.cond rfl (fun h3 => ?_) (fun h3 => ?_)
      · skip
        simp only [cmpInt, decide_eq_true_eq] at h3
        have hib3 : ib < 3 := by omega
        obtain ⟨kk, ka, kc, hkA, hkl9, hkc⟩ := three_keys (d := ck) (e := ck1) (f := co) hK hK1 hO (m := 9) allK_len9 (known_len8 s1) hlo9 hib3
        refine XC.skip ?_
        refine XQ.then_normal ?_
        refine XC.seq ?_
        refine XC.block ?_
        refine XC.seq ?_
        refine XC.region ?_
        refine XO.rd rfl rfl rfl (Reads.index_own (q := ib) Tryd.underlying62 z29 rfl rfl (by omega) (by omega)) ?_
        refine XO.rd rfl rfl rfl (Reads.load_own k29 rfl (OwnAt.of 0 rfl hkc)) ?_
        refine XO.rd rfl rfl rfl (Reads.assign rfl) ?_
        refine XO.nil ?_
        refine XQ.then_normal ?_
        refine XC.seq ?_
        refine XC.draw m_mixed none (.pure 0 (.pure 1 (.pure 2 (.pure 4 (.pure 5 (.pure 6 (.eff 3 (.eff 7 (.pure 8 (.done)))))))))) _ (by kernel_rfl) (List.Sublist.refl _) ?_
        refine XR.rd rfl rfl rfl (Reads.move rfl) ?_
        refine XR.rd rfl rfl rfl (Reads.load_whole k37 z37 rfl (by first | exact WholeAt.of 0 rfl | exact WholeAt.of 1 rfl | exact WholeAt.of 2 rfl | exact WholeAt.of 3 rfl | exact WholeAt.of 4 rfl | exact WholeAt.of 5 rfl | exact WholeAt.of 6 rfl | exact WholeAt.of 7 rfl | exact WholeAt.of 8 rfl) (by rfl)) ?_
        refine XR.rd rfl rfl rfl (Reads.move rfl) ?_
        refine XR.rd rfl rfl rfl (Reads.move rfl) ?_
        refine XR.rd rfl rfl rfl (Reads.load_whole k37 z37 rfl (by first | exact WholeAt.of 0 rfl | exact WholeAt.of 1 rfl | exact WholeAt.of 2 rfl | exact WholeAt.of 3 rfl | exact WholeAt.of 4 rfl | exact WholeAt.of 5 rfl | exact WholeAt.of 6 rfl | exact WholeAt.of 7 rfl | exact WholeAt.of 8 rfl) (by rfl)) ?_
        refine XR.rd rfl rfl rfl (Reads.move rfl) ?_
        refine XR.callp rfl rfl rfl en33 (shown_any z az ka cz kc kk k0 _ hZ (by omega) hkA (by omega) hG) ⟨rfl, rfl, rfl, trivial⟩ (List.Sublist.refl _) ?_
        refine XR.callp rfl rfl rfl en34 (rshown_any z az ka cz kc kk k0 _ hZ (by omega) hkA (by omega)) ⟨rfl, rfl, rfl, trivial⟩ (List.Sublist.refl _) ?_
        refine XR.rd rfl rfl rfl (Reads.to (v' := .bool false) (Reads.neq_bool Tryd.underlying4 rfl rfl) (by simp)) ?_
        refine XR.nil ?_
        refine XQ.then_normal ?_
        refine XC.cond rfl (fun hx => by cases hx) (fun _ => ?_)
        refine XC.skip ?_
        refine XQ.block_normal ?_
        refine XQ.then_normal ?_
        refine XC.region ?_
        refine XO.rd rfl rfl rfl (Reads.add rfl rfl (by omega)) ?_
        refine XO.rd rfl rfl rfl (Reads.move rfl) ?_
        refine XO.nil ?_
        refine XQ.back (ib + 1) (by omega) (by omega) ⟨rfl, rfl, rfl, rfl, rfl, rfl, rfl, rfl, rfl, rfl, rfl, rfl, rfl, rfl, rfl, rfl, rfl, trivial⟩ rfl (List.Perm.refl _)
      · skip
        simp only [cmpInt, decide_eq_false_iff_not] at h3
        refine XC.exit ?_
        refine XQ.then_exit ?_
        refine XQ.then_exit ?_
        refine XQ.block_exit ?_
        refine XQ.block_normal ?_
        refine XQ.then_normal ?_
        refine XC.region ?_
        refine XO.rd rfl rfl rfl (Reads.add rfl rfl (by omega)) ?_
        refine XO.rd rfl rfl rfl (Reads.move rfl) ?_
        refine XO.nil ?_
        refine XQ.dropn 3 ?_
        refine XQ.back (ia + 1, _) ⟨by simp only; omega, hI, hG, hC, hK, hA, hB, hF, hO, hW9, hZ⟩ (by simp only; omega) ⟨rfl, rfl, rfl, rfl, rfl, rfl, rfl, rfl, rfl, rfl, rfl, rfl, rfl, trivial⟩ rfl (List.Perm.refl _)
    · skip
      simp only [cmpInt, decide_eq_false_iff_not] at h2
      refine XC.exit ?_
      refine XQ.then_exit ?_
      refine XQ.then_exit ?_
      refine XQ.block_exit ?_
      refine XQ.then_normal ?_
      refine XC.seq ?_
      refine XC.region ?_
      refine XO.rd rfl rfl rfl (Reads.move rfl) ?_
      refine XO.rd rfl rfl rfl (Reads.move rfl) ?_
      refine XO.rd rfl rfl rfl (Reads.move rfl) ?_
      refine XO.callp rfl rfl en16 (pickL_any st 256 _ hst (by decide)) ⟨rfl, rfl, trivial⟩ ?_
      rw [hs1]
      refine XO.call rfl rfl en14 (known_any ak ck allK s1 _ hK (by rw [allK_len]; decide)) ⟨rfl, rfl, trivial⟩ ?_
      rintro u J104 hle104 hr
      replace hI := Im.le_trans hI hle104
      replace hG := hG.mono hle104
      replace hC := hC.mono hle104
      replace hK := hK.mono hle104
      replace hA := hA.mono hle104
      replace hB := hB.mono hle104
      replace hF := hF.mono hle104
      replace hO := hO.mono hle104
      replace hW9 := hW9.mono hle104
      replace hZ := hZ.mono hle104
      obtain ⟨ak2, ck2, rfl, hc_hK2, hK2⟩ := hr.ex
      refine XO.rd rfl rfl rfl (Reads.move rfl) ?_
      refine XO.buildL ([Value.slice ak allK.length ck, .slice ak2 (known allK s1).length ck2, .slice ao lo.length co]) ([Value.slice ak allK.length ck, .slice ak2 (known allK s1).length ck2, .slice ao lo.length co]) rfl rfl Tryd.underlying62 el29 rfl (by simp) ⟨rfl, rfl, rfl, rfl, rfl, rfl, trivial⟩ rfl rfl (fun b134 => ?_)
      refine XO.rd rfl rfl rfl (Reads.len_slice Tryd.underlying62 rfl) ?_
      refine XO.rd rfl rfl rfl (Reads.move rfl) ?_
      refine XO.nil ?_
      refine XQ.then_normal ?_
      refine XC.block ?_
      refine XC.loop (ι := Nat × Im) (fun q => [(3, .int .i64 st), (4, .slice ao lo.length co), (5, .slice av w9.length cv), (6, .int .i64 ii), (7, .pointer (some ⟨b7, 0, none⟩)), (15, .slice ak allK.length ck), (18, .pointer (some ⟨b18, 0, none⟩)), (64, .slice (some ⟨b64, 0, none⟩) 3 3), (65, .int .i64 3), (66, .int .i64 i), (134, .slice (some ⟨b134, 0, none⟩) 3 3), (135, .int .i64 3), (136, .int .i64 q.1)]) (fun q => q.2) (fun q => some (b134, .cells ([Value.slice ak allK.length ck, .slice ak2 (known allK s1).length ck2, .slice ao lo.length co] : List Value).toArray 29 (0, 0)) :: some (b78, .cells ([Value.int .i64 ii, .int .i64 (pickI ii 7)] : List Value).toArray 3 (0, 0)) :: some (b18, .cells ((z).cs az cz).toArray 37 (0, 0)) :: some (b64, .cells (x.cs ab cb ++ (y.cs a2 c2 ++ r.cs a5 c5)).toArray 37 (0, 0)) :: some (b16, .cells ((x).cs ab cb).toArray 37 (0, 0)) :: some (b9, .cells (xr.cs ar cr).toArray 37 (0, 0)) :: some (b8, .cells bd.cells.toArray 27 (0, 0)) :: some (b7, .cells (n.cs a0 c0).toArray 26 (0, 0)) :: ([] ++ Lf)) (fun q => q.1 ≤ 3 ∧ I.le q.2 ∧ Glob q.2 ∧ Arr q.2 a0 n.cars ∧ Arr q.2 ak allK ∧ Arr q.2 ab x.hs ∧ Arr q.2 a2 y.hs ∧ Arr q.2 a5 r.hs ∧ Arr q.2 ao lo ∧ Arr q.2 av w9 ∧ Arr q.2 az z.hs ∧ Arr q.2 ak2 (known allK s1)) (fun q => 3 - q.1) (0, _) ⟨Nat.zero_le _, hI, hG, hC, hK, hA, hB, hF, hO, hW9, hZ, hK2⟩ ⟨rfl, rfl, rfl, rfl, rfl, rfl, rfl, rfl, rfl, rfl, rfl, rfl, rfl, trivial⟩ rfl (List.Perm.refl _) (fun q hq => ?_)
      obtain ⟨ic, M3⟩ := q
      obtain ⟨hic1, hI, hG, hC, hK, hA, hB, hF, hO, hW9, hZ, hK2⟩ := hq
      simp only at hic1 hI hG hC hK hA hB hF hO hW9 hZ hK2 ⊢
      refine XC.seq ?_
      refine XC.region ?_
      refine XO.rd rfl rfl rfl (Reads.cmp rfl rfl rfl) ?_
      refine XO.nil ?_
      refine XQ.then_normal ?_
      refine XC.seq ?_
      refine XC.cond rfl (fun h4 => ?_) (fun h4 => ?_)
      · skip
        simp only [cmpInt, decide_eq_true_eq] at h4
        have hic3 : ic < 3 := by omega
        obtain ⟨kk, ka, kc, hkA, hkl9, hkc⟩ := three_keys (d := ck) (e := ck2) (f := co) hK hK2 hO (m := 9) allK_len9 (known_len8 s1) hlo9 hic3
        refine XC.skip ?_
        refine XQ.then_normal ?_
        refine XC.seq ?_
        refine XC.block ?_
        refine XC.seq ?_
        refine XC.region ?_
        refine XO.rd rfl rfl rfl (Reads.index_own (q := ic) Tryd.underlying62 z29 rfl rfl (by omega) (by omega)) ?_
        refine XO.rd rfl rfl rfl (Reads.load_own k29 rfl (OwnAt.of 0 rfl hkc)) ?_
        refine XO.rd rfl rfl rfl (Reads.assign rfl) ?_
        refine XO.nil ?_
        refine XQ.then_normal ?_
        refine XC.seq ?_
        refine XC.region ?_
        refine XO.rd rfl rfl rfl (Reads.move rfl) ?_
        refine XO.rd rfl rfl rfl (Reads.load_whole k37 z37 rfl (by first | exact WholeAt.of 0 rfl | exact WholeAt.of 1 rfl | exact WholeAt.of 2 rfl | exact WholeAt.of 3 rfl | exact WholeAt.of 4 rfl | exact WholeAt.of 5 rfl | exact WholeAt.of 6 rfl | exact WholeAt.of 7 rfl | exact WholeAt.of 8 rfl) (by rfl)) ?_
        refine XO.callp rfl rfl en19 (check_any z az ka cz kc kk _ hZ (by omega) hkA (by omega) hG) ⟨rfl, rfl, trivial⟩ ?_
        refine XO.rd rfl rfl rfl (Reads.move rfl) ?_
        refine XO.rd rfl rfl rfl (Reads.extract rfl rfl) ?_
        refine XO.rd rfl rfl rfl (Reads.extract rfl rfl) ?_
        refine XO.rd rfl rfl rfl (Reads.extract rfl rfl) ?_
        refine XO.rd rfl rfl rfl (Reads.assign rfl) ?_
        refine XO.rd rfl rfl rfl (Reads.assign rfl) ?_
        refine XO.rd rfl rfl rfl (Reads.assign rfl) ?_
        refine XO.nil ?_
        refine XQ.then_normal ?_
        refine XC.seq ?_
        refine XC.region ?_
        refine XO.rd rfl rfl rfl (Reads.move rfl) ?_
        refine XO.rd rfl rfl rfl (Reads.load_whole k37 z37 rfl (by first | exact WholeAt.of 0 rfl | exact WholeAt.of 1 rfl | exact WholeAt.of 2 rfl | exact WholeAt.of 3 rfl | exact WholeAt.of 4 rfl | exact WholeAt.of 5 rfl | exact WholeAt.of 6 rfl | exact WholeAt.of 7 rfl | exact WholeAt.of 8 rfl) (by rfl)) ?_
        refine XO.callp rfl rfl en35 (rcheck_any z az ka cz kc kk _ hZ (by omega) hkA (by omega)) ⟨rfl, rfl, trivial⟩ ?_
        refine XO.rd rfl rfl rfl (Reads.move rfl) ?_
        refine XO.rd rfl rfl rfl (Reads.extract rfl rfl) ?_
        refine XO.rd rfl rfl rfl (Reads.extract rfl rfl) ?_
        refine XO.rd rfl rfl rfl (Reads.extract rfl rfl) ?_
        refine XO.rd rfl rfl rfl (Reads.assign rfl) ?_
        refine XO.rd rfl rfl rfl (Reads.assign rfl) ?_
        refine XO.rd rfl rfl rfl (Reads.assign rfl) ?_
        refine XO.nil ?_
        refine XQ.then_normal ?_
        refine XC.seq ?_
        refine XC.seq ?_
        refine XC.weaken (E' := [(3, _), (4, _), (5, _), (6, _), (7, _), (15, _), (18, _), (28, _), (29, _), (30, _), (31, _), (32, _), (33, _), (34, _), (64, _), (65, _), (66, _), (134, _), (135, _), (136, _)]) ⟨rfl, rfl, rfl, rfl, rfl, rfl, rfl, rfl, rfl, rfl, rfl, rfl, rfl, rfl, rfl, rfl, rfl, rfl, rfl, rfl, trivial⟩ ?_
        refine XC.region ?_
        refine XO.rd rfl rfl rfl (Reads.move rfl) ?_
        refine XO.rd rfl rfl rfl (Reads.move rfl) ?_
        refine XO.rd rfl rfl rfl (Reads.cmp_no rfl rfl rfl (by simp [cmpInt])) ?_
        refine XO.rd rfl rfl rfl (Reads.move rfl) ?_
        refine XO.rd (wg rfl rfl rfl) rfl rfl (Reads.move rfl) ?_
        refine XO.rd (wg rfl rfl rfl) rfl rfl (Reads.move rfl) ?_
        refine XO.rd (wg rfl rfl rfl) rfl rfl (Reads.cmp_no rfl rfl rfl (by simp [cmpInt])) ?_
        refine XO.rd rfl rfl rfl (Reads.pick_false rfl rfl) ?_
        refine XO.rd rfl rfl rfl (Reads.move rfl) ?_
        refine XO.rd (wg rfl rfl rfl) rfl rfl (Reads.move rfl) ?_
        refine XO.rd (wg rfl rfl rfl) rfl rfl (Reads.move rfl) ?_
        refine XO.rd (wg rfl rfl rfl) rfl rfl (Reads.cmp_no rfl rfl rfl (by simp [cmpInt])) ?_
        refine XO.rd rfl rfl rfl (Reads.pick_false rfl rfl) ?_
        refine XO.nil ?_
        refine XQ.then_normal ?_
        refine XC.cond rfl (fun hx => by cases hx) (fun _ => ?_)
        refine XC.skip ?_
        refine XQ.then_normal ?_
        refine XC.seq ?_
        refine XC.region ?_
        refine XO.rd rfl rfl rfl (Reads.load_whole k26 z26 rfl (by first | exact WholeAt.of 0 rfl | exact WholeAt.of 1 rfl | exact WholeAt.of 2 rfl | exact WholeAt.of 3 rfl | exact WholeAt.of 4 rfl | exact WholeAt.of 5 rfl | exact WholeAt.of 6 rfl | exact WholeAt.of 7 rfl | exact WholeAt.of 8 rfl) (by rfl)) ?_
        refine XO.call rfl rfl en22 (knows_any n a0 c0 _ hn) ⟨rfl, trivial⟩ ?_
        rintro u J105 hle105 hr
        replace hI := Im.le_trans hI hle105
        replace hG := hG.mono hle105
        replace hC := hC.mono hle105
        replace hK := hK.mono hle105
        replace hA := hA.mono hle105
        replace hB := hB.mono hle105
        replace hF := hF.mono hle105
        replace hO := hO.mono hle105
        replace hW9 := hW9.mono hle105
        replace hZ := hZ.mono hle105
        replace hK2 := hK2.mono hle105
        replace hkA := hkA.mono hle105
        obtain ⟨aw, cw, rfl, hcw, hKn⟩ := hr.ex
        refine XO.rd rfl rfl rfl (Reads.move rfl) ?_
        refine XO.buildL ([Value.slice aw n.knows.length cw, .slice av w9.length cv]) ([Value.slice aw n.knows.length cw, .slice av w9.length cv]) rfl rfl Tryd.underlying64 el23 rfl (by simp) ⟨rfl, rfl, rfl, rfl, trivial⟩ rfl rfl (fun b170 => ?_)
        refine XO.rd rfl rfl rfl (Reads.len_slice Tryd.underlying64 rfl) ?_
        refine XO.rd rfl rfl rfl (Reads.move rfl) ?_
        refine XO.nil ?_
        refine XQ.then_normal ?_
        refine XC.block ?_
        refine XC.loop (ι := Nat) (fun q => [(3, .int .i64 st), (4, .slice ao lo.length co), (5, .slice av w9.length cv), (6, .int .i64 ii), (7, .pointer (some ⟨b7, 0, none⟩)), (15, .slice ak allK.length ck), (18, .pointer (some ⟨b18, 0, none⟩)), (28, .slice ka kk.length kc), (64, .slice (some ⟨b64, 0, none⟩) 3 3), (65, .int .i64 3), (66, .int .i64 i), (134, .slice (some ⟨b134, 0, none⟩) 3 3), (135, .int .i64 3), (136, .int .i64 ic), (170, .slice (some ⟨b170, 0, none⟩) 2 2), (171, .int .i64 2), (172, .int .i64 q)]) (fun q => J105) (fun q => some (b170, .cells ([Value.slice aw n.knows.length cw, .slice av w9.length cv] : List Value).toArray 23 (0, 0)) :: some (b134, .cells ([Value.slice ak allK.length ck, .slice ak2 (known allK s1).length ck2, .slice ao lo.length co] : List Value).toArray 29 (0, 0)) :: some (b78, .cells ([Value.int .i64 ii, .int .i64 (pickI ii 7)] : List Value).toArray 3 (0, 0)) :: some (b18, .cells ((z).cs az cz).toArray 37 (0, 0)) :: some (b64, .cells (x.cs ab cb ++ (y.cs a2 c2 ++ r.cs a5 c5)).toArray 37 (0, 0)) :: some (b16, .cells ((x).cs ab cb).toArray 37 (0, 0)) :: some (b9, .cells (xr.cs ar cr).toArray 37 (0, 0)) :: some (b8, .cells bd.cells.toArray 27 (0, 0)) :: some (b7, .cells (n.cs a0 c0).toArray 26 (0, 0)) :: ([] ++ Lf)) (fun q => q ≤ 2) (fun q => 2 - q) 0 (Nat.zero_le _) ⟨rfl, rfl, rfl, rfl, rfl, rfl, rfl, rfl, rfl, rfl, rfl, rfl, rfl, rfl, rfl, rfl, rfl, trivial⟩ rfl (List.Perm.refl _) (fun iw hiw => ?_)
        refine XC.seq ?_
        refine XC.region ?_
        refine XO.rd rfl rfl rfl (Reads.cmp rfl rfl rfl) ?_
        refine XO.nil ?_
        refine XQ.then_normal ?_
        refine XC.seq ?_
        refine XC.cond rfl (fun h5 => ?_) (fun h5 => ?_)
        · skip
          simp only [cmpInt, decide_eq_true_eq] at h5
          have hiw3 : iw < 2 := by omega
          obtain ⟨ww, wa, wc, hwA, hwl9, hwc⟩ := two_knows (d := cw) (e := cv) hKn hW9 (m := 9) (by rw [n.knows_len]; decide) hw9l.1 hiw3
          refine XC.skip ?_
          refine XQ.then_normal ?_
          refine XC.seq ?_
          refine XC.block ?_
          refine XC.seq ?_
          refine XC.region ?_
          refine XO.rd rfl rfl rfl (Reads.index_own (q := iw) Tryd.underlying64 z23 rfl rfl (by omega) (by omega)) ?_
          refine XO.rd rfl rfl rfl (Reads.load_own k23 rfl (OwnAt.of 0 rfl hwc)) ?_
          refine XO.rd rfl rfl rfl (Reads.assign rfl) ?_
          refine XO.nil ?_
          refine XQ.then_normal ?_
          refine XC.seq ?_
          refine XC.region ?_
          refine XO.rd rfl rfl rfl (Reads.move rfl) ?_
          refine XO.rd rfl rfl rfl (Reads.move rfl) ?_
          refine XO.rd rfl rfl rfl (Reads.load_whole k37 z37 rfl (by first | exact WholeAt.of 0 rfl | exact WholeAt.of 1 rfl | exact WholeAt.of 2 rfl | exact WholeAt.of 3 rfl | exact WholeAt.of 4 rfl | exact WholeAt.of 5 rfl | exact WholeAt.of 6 rfl | exact WholeAt.of 7 rfl | exact WholeAt.of 8 rfl) (by rfl)) ?_
          refine XO.callp rfl rfl en24 (blame_any z az ka wa cz kc wc kk ww _ hZ (by omega) hkA (by omega) hwA (by omega) hG) ⟨rfl, rfl, rfl, trivial⟩ ?_
          refine XO.rd rfl rfl rfl (Reads.move rfl) ?_
          refine XO.rd rfl rfl rfl (Reads.extract rfl rfl) ?_
          refine XO.rd rfl rfl rfl (Reads.extract rfl rfl) ?_
          refine XO.rd rfl rfl rfl (Reads.assign rfl) ?_
          refine XO.rd rfl rfl rfl (Reads.assign rfl) ?_
          refine XO.nil ?_
          refine XQ.then_normal ?_
          refine XC.seq ?_
          refine XC.weaken (E' := [(3, _), (4, _), (5, _), (6, _), (7, _), (15, _), (18, _), (28, _), (36, _), (37, _), (38, _), (64, _), (65, _), (66, _), (134, _), (135, _), (136, _), (170, _), (171, _), (172, _)]) ⟨rfl, rfl, rfl, rfl, rfl, rfl, rfl, rfl, rfl, rfl, rfl, rfl, rfl, rfl, rfl, rfl, rfl, rfl, rfl, rfl, trivial⟩ ?_
          refine XC.region ?_
          refine XO.rd rfl rfl rfl (Reads.move rfl) ?_
          refine XO.rd rfl rfl rfl (Reads.move rfl) ?_
          refine XO.rd rfl rfl rfl (Reads.load_whole k37 z37 rfl (by first | exact WholeAt.of 0 rfl | exact WholeAt.of 1 rfl | exact WholeAt.of 2 rfl | exact WholeAt.of 3 rfl | exact WholeAt.of 4 rfl | exact WholeAt.of 5 rfl | exact WholeAt.of 6 rfl | exact WholeAt.of 7 rfl | exact WholeAt.of 8 rfl) (by rfl)) ?_
          refine XO.callp rfl rfl en36 (FC.pure (rblame_any z az ka wa cz kc wc kk ww _ hZ (by omega) hkA (by omega) hwA hcp_hZ)) ⟨rfl, rfl, rfl, trivial⟩ ?_
          refine XO.rd rfl rfl rfl (Reads.move rfl) ?_
          refine XO.rd rfl rfl rfl (Reads.extract rfl rfl) ?_
          refine XO.rd rfl rfl rfl (Reads.extract rfl rfl) ?_
          refine XO.rd rfl rfl rfl (Reads.assign rfl) ?_
          refine XO.rd rfl rfl rfl (Reads.assign rfl) ?_
          refine XO.nil ?_
          refine XQ.then_normal ?_
          refine XC.seq ?_
          refine XC.region ?_
          refine XO.rd rfl rfl rfl (Reads.move rfl) ?_
          refine XO.rd rfl rfl rfl (Reads.move rfl) ?_
          refine XO.rd rfl rfl rfl (Reads.cmp_no rfl rfl rfl (by simp [cmpInt])) ?_
          refine XO.rd rfl rfl rfl (Reads.move rfl) ?_
          refine XO.rd (wg rfl rfl rfl) rfl rfl (Reads.move rfl) ?_
          refine XO.rd (wg rfl rfl rfl) rfl rfl (Reads.move rfl) ?_
          refine XO.rd (wg rfl rfl rfl) rfl rfl (Reads.cmp_no rfl rfl rfl (by simp [cmpInt])) ?_
          refine XO.rd rfl rfl rfl (Reads.pick_false rfl rfl) ?_
          refine XO.nil ?_
          refine XQ.then_normal ?_
          refine XC.cond rfl (fun hx => by cases hx) (fun _ => ?_)
          refine XC.skip ?_
          refine XQ.block_normal ?_
          refine XQ.then_normal ?_
          refine XC.region ?_
          refine XO.rd rfl rfl rfl (Reads.add rfl rfl (by omega)) ?_
          refine XO.rd rfl rfl rfl (Reads.move rfl) ?_
          refine XO.nil ?_
          refine XQ.back (iw + 1) (by omega) (by omega) ⟨rfl, rfl, rfl, rfl, rfl, rfl, rfl, rfl, rfl, rfl, rfl, rfl, rfl, rfl, rfl, rfl, rfl, trivial⟩ rfl (List.Perm.refl _)
        · skip
          simp only [cmpInt, decide_eq_false_iff_not] at h5
          refine XC.exit ?_
          refine XQ.then_exit ?_
          refine XQ.then_exit ?_
          refine XQ.block_exit ?_
          refine XQ.block_normal ?_
          refine XQ.then_normal ?_
          refine XC.region ?_
          refine XO.rd rfl rfl rfl (Reads.add rfl rfl (by omega)) ?_
          refine XO.rd rfl rfl rfl (Reads.move rfl) ?_
          refine XO.nil ?_
          refine XQ.dropn 1 ?_
          refine XQ.back (ic + 1, _) ⟨by simp only; omega, hI, hG, hC, hK, hA, hB, hF, hO, hW9, hZ, hK2⟩ (by simp only; omega) ⟨rfl, rfl, rfl, rfl, rfl, rfl, rfl, rfl, rfl, rfl, rfl, rfl, rfl, trivial⟩ rfl (List.Perm.refl _)
      · skip
        simp only [cmpInt, decide_eq_false_iff_not] at h4
        refine XC.exit ?_
        refine XQ.then_exit ?_
        refine XQ.then_exit ?_
        refine XQ.block_exit ?_
        refine XQ.block_normal ?_
        refine XQ.then_normal ?_
        refine XC.region ?_
        refine XO.rd rfl rfl rfl (Reads.add rfl rfl (by omega)) ?_
        refine XO.rd rfl rfl rfl (Reads.move rfl) ?_
        refine XO.nil ?_
        refine XQ.dropn 3 ?_
        refine XQ.back (i + 1, _) ⟨by simp only; omega, hI, hG, hC, hK, hA, hB, hF, hO, hW9⟩ (by simp only; omega) ⟨rfl, rfl, rfl, rfl, rfl, rfl, rfl, rfl, rfl, trivial⟩ rfl (List.Perm.refl _)
  · skip
    simp only [cmpInt, decide_eq_false_iff_not] at h1
    refine XC.exit ?_
    refine XQ.then_exit ?_
    refine XQ.then_exit ?_
    refine XQ.block_exit ?_
    refine XQ.then_normal ?_
    refine XC.seq ?_
    refine XC.region ?_
    refine XO.rd rfl rfl rfl (Reads.assign rfl) ?_
    refine XO.nil ?_
    refine XQ.then_normal ?_
    refine XC.ret ?_
    refine XQ.dropn 5 ?_
    refine XQ.done1 (L := []) rfl rfl hI ?_
    exact ⟨rfl, rfl⟩

end Go.Proofs.YtmlliafhpbfdbaaDoor
