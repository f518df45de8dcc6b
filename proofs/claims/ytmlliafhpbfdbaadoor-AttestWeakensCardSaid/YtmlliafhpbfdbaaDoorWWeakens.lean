/- Walk: AttestWeakens. -/
import Derived.Test.YtmlliafhpbfdbaaDoorML
import Derived.Test.YtmlliafhpbfdbaaDoorMK
namespace Go.Proofs.YtmlliafhpbfdbaaDoor
open Go.Xe Go.Sh Go Go.At

set_option maxHeartbeats 1600000 in
theorem attestWeakens_any (n : Num) (a0 : Option Addr) (c0 : Nat) (I : Im) (hn : n.In) (hC : Arr I a0 n.cars) (hcl : n.cars.length ≤ 9223372036854775807) (hG : Glob I) : FC Tryd.prog 7 [.agg (n.cs a0 c0).toArray] I (fun u _I' => u = .bool true) := by
  have hI := Im.le_refl I
  obtain ⟨x, hx⟩ : ∃ x : Att, x = n.made := ⟨_, rfl⟩
  have hch := n.made_chain
  have hml := n.made_len
  have hx0 := n.madeN_first n.cnt
  rw [show n.madeN n.cnt = n.made from rfl] at hx0
  rw [← hx] at hch hml hx0
  refine FSo.intro (n := 115) Tryd.func7 rfl rfl rfl (fun K Lf => ?_)
  refine XC.seq ?_
  refine XC.region ?_
  refine XO.box_agg rfl rfl rfl (fun b1 => ?_)
  refine XO.rd rfl rfl rfl (Reads.assign rfl) ?_
  refine XO.nil ?_
  refine XQ.then_normal ?_
  refine XC.seq ?_
  refine XC.seq ?_
  refine XC.region ?_
  refine XO.callp rfl rfl en13 (FC.pure (sane_any _ hG)) trivial ?_
  refine XO.rd rfl rfl rfl (Reads.not rfl) ?_
  refine XO.nil ?_
  refine XQ.then_normal ?_
  refine XC.cond rfl (fun hx => by cases hx) (fun _ => ?_)
  refine XC.skip ?_
  refine XQ.then_normal ?_
  refine XC.seq ?_
  refine XC.region ?_
  refine XO.rd rfl rfl rfl (Reads.load_whole k26 z26 rfl (by first | exact WholeAt.of 0 rfl | exact WholeAt.of 1 rfl | exact WholeAt.of 2 rfl | exact WholeAt.of 3 rfl | exact WholeAt.of 4 rfl) (by rfl)) ?_
  refine XO.call rfl rfl en42 (passed_any n a0 c0 _ hn hC hcl hG) ⟨rfl, trivial⟩ ?_
  rintro u J65 hle65 hr
  replace hI := Im.le_trans hI hle65
  replace hG := hG.mono hle65
  replace hC := hC.mono hle65
  rw [← hx] at hr
  obtain ⟨ab, cb, rfl, hcp_hA, hA⟩ := hr
  refine XO.rd rfl rfl rfl (Reads.move rfl) ?_
  refine XO.rd rfl rfl rfl (Reads.extract rfl rfl) ?_
  refine XO.rd rfl rfl rfl (Reads.extract rfl rfl) ?_
  refine XO.alloc (cs := #[.int .i64 0, .int .i64 0, .int .i64 0, .int .i64 0, .slice none 0 0]) rfl rfl zo37 rfl (fun b3 => ?_)
  refine XO.store_agg (vs := (x).cs ab cb) 0 rfl z37 rfl rfl (by simp [Value.oneCell']) rfl (by simp) ?_
  refine XO.rd rfl rfl rfl (Reads.assign rfl) ?_
  refine XO.nil ?_
  refine XQ.then_normal ?_
  refine XC.seq ?_
  refine XC.seq ?_
  refine XC.draw m_mixed none (.pure 0 (.pure 1 (.pure 2 (.pure 3 (.eff 4 (.pure 5 (.pure 6 (.pure 7 (.pure 8 (.pure 9 (.pure 10 (.pure 11 (.pure 12 (.pure 13 (.pure 14 (.pure 15 (.pure 16 (.pure 17 (.pure 18 (.pure 19 (.pure 20 (.eff 21 (.pure 22 (.pure 23 (.done))))))))))))))))))))))))) _ (by kernel_rfl) (List.Sublist.refl _) ?_
  refine XR.rd rfl rfl rfl (Reads.move rfl) ?_
  refine XR.rd rfl rfl rfl (Reads.not rfl) ?_
  refine XR.rd rfl rfl rfl (Reads.move rfl) ?_
  refine XR.rd rfl (wg rfl rfl rfl) rfl (Reads.load_whole k37 z37 rfl (by first | exact WholeAt.of 0 rfl | exact WholeAt.of 1 rfl | exact WholeAt.of 2 rfl | exact WholeAt.of 3 rfl | exact WholeAt.of 4 rfl) (by rfl)) ?_
  refine XR.callp rfl (wg rfl rfl rfl) rfl en20 (shown_is hch.f (formed_any x ab cb _ hA (by omega))) ⟨rfl, trivial⟩ (List.Sublist.refl _) ?_
  refine XR.rd rfl (wg rfl rfl rfl) rfl (Reads.not rfl) ?_
  refine XR.rd rfl rfl rfl (Reads.pick_false rfl rfl) ?_
  refine XR.rd rfl rfl rfl (Reads.move rfl) ?_
  refine XR.rd rfl (wg rfl rfl rfl) rfl (fa37_1 rfl) ?_
  refine XR.rd rfl (wg rfl rfl rfl) rfl (Reads.load_own k35 rfl (by first | exact OwnAt.of 0 rfl rfl | exact OwnAt.of 1 rfl rfl | exact OwnAt.of 2 rfl rfl | exact OwnAt.of 3 rfl rfl | exact OwnAt.of 4 rfl rfl)) ?_
  refine XR.rd rfl (wg rfl rfl rfl) rfl (Reads.len_slice Tryd.underlying35 rfl) ?_
  refine XR.rd rfl (wg rfl rfl rfl) rfl (Reads.cmp_no rfl rfl rfl (by simp only [cmpInt, beq_eq_false_iff_ne]; omega)) ?_
  refine XR.rd rfl rfl rfl (Reads.pick_false rfl rfl) ?_
  refine XR.rd rfl rfl rfl (Reads.move rfl) ?_
  refine XR.rd rfl (wg rfl rfl rfl) rfl (fa37_1 rfl) ?_
  refine XR.rd rfl (wg rfl rfl rfl) rfl (Reads.load_own k35 rfl (by first | exact OwnAt.of 0 rfl rfl | exact OwnAt.of 1 rfl rfl | exact OwnAt.of 2 rfl rfl | exact OwnAt.of 3 rfl rfl | exact OwnAt.of 4 rfl rfl)) ?_
  refine XR.rd rfl (wg rfl rfl rfl) rfl (Reads.index_slot (q := (0) * 3) Tryd.underlying35 z53 rfl rfl (by omega) (hA.isSome (by decide) (by omega)) rfl) ?_
  refine XR.rd rfl (wg rfl rfl rfl) rfl (fs53_1 rfl (hA.addr (by decide) (by omega))) ?_
  refine XR.rd rfl (wg rfl rfl rfl) rfl (Reads.load_at (v := .int .i64 (x.h (0)).l) k3 rfl (by rw [x.h_get (show 0 < x.hs.length by omega)]; exact hA.hand (show 0 < x.hs.length by omega) 1 _ rfl)) ?_
  refine XR.rd rfl (wg rfl rfl rfl) rfl (fa26_1 rfl) ?_
  refine XR.rd rfl (wg rfl rfl rfl) rfl (Reads.load_own k3 rfl (by first | exact OwnAt.of 0 rfl rfl | exact OwnAt.of 1 rfl rfl | exact OwnAt.of 2 rfl rfl | exact OwnAt.of 3 rfl rfl | exact OwnAt.of 4 rfl rfl)) ?_
  refine XR.callp rfl (wg rfl rfl rfl) rfl en16 (pickL_any n.lv 4 _ hn.lv (by decide)) ⟨rfl, rfl, trivial⟩ (List.Sublist.refl _) ?_
  refine XR.rd rfl (wg rfl rfl rfl) rfl (Reads.cmp_no rfl rfl rfl (by rw [hx0]; simp [cmpInt])) ?_
  refine XR.rd rfl rfl rfl (Reads.pick_false rfl rfl) ?_
  refine XR.nil ?_
  refine XQ.then_normal ?_
  refine XC.cond rfl (fun hx => by cases hx) (fun _ => ?_)
  refine XC.skip ?_
  refine XQ.then_normal ?_
  refine XC.seq ?_
  refine XC.region ?_
  refine XO.rd rfl rfl rfl (Reads.load_whole k26 z26 rfl (by first | exact WholeAt.of 0 rfl | exact WholeAt.of 1 rfl | exact WholeAt.of 2 rfl | exact WholeAt.of 3 rfl | exact WholeAt.of 4 rfl) (by rfl)) ?_
  refine XO.call rfl rfl en22 (knows_any n a0 c0 _ hn) ⟨rfl, trivial⟩ ?_
  rintro u J66 hle66 hr
  replace hI := Im.le_trans hI hle66
  replace hG := hG.mono hle66
  replace hC := hC.mono hle66
  replace hA := hA.mono hle66
  obtain ⟨aw, cw, rfl, hcw, hKn⟩ := hr.ex
  refine XO.rd rfl rfl rfl (Reads.assign rfl) ?_
  refine XO.nil ?_
  refine XQ.then_normal ?_
  refine XC.seq ?_
  refine XC.seq ?_
  refine XC.region ?_
  refine XO.rd rfl rfl rfl (Reads.assign rfl) ?_
  refine XO.nil ?_
  refine XQ.then_normal ?_
  refine XC.block ?_
  refine XC.loop (ι := Nat) (fun q => [(3, .pointer (some ⟨b3, 0, none⟩)), (5, .slice aw n.knows.length cw), (6, .int .i64 q)]) (fun q => J66) (fun q => some (b3, .cells ((x).cs ab cb).toArray 37 (0, 0)) :: some (b1, .cells (n.cs a0 c0).toArray 26 (0, 0)) :: ([] ++ Lf)) (fun q => 1 ≤ q ∧ q ≤ x.hs.length) (fun q => x.hs.length - q) 1 ⟨by omega, by omega⟩ ⟨rfl, rfl, rfl, trivial⟩ rfl (List.Perm.refl _) (fun i hi => ?_)
  obtain ⟨hi1, hi2⟩ := hi
  refine XC.seq ?_
  refine XC.seq ?_
  refine XC.region ?_
  refine XO.rd rfl rfl rfl (Reads.move rfl) ?_
  refine XO.rd rfl rfl rfl (fa37_1 rfl) ?_
  refine XO.rd rfl rfl rfl (Reads.load_own k35 rfl (by first | exact OwnAt.of 0 rfl rfl | exact OwnAt.of 1 rfl rfl | exact OwnAt.of 2 rfl rfl | exact OwnAt.of 3 rfl rfl | exact OwnAt.of 4 rfl rfl)) ?_
  refine XO.rd rfl rfl rfl (Reads.len_slice Tryd.underlying35 rfl) ?_
  refine XO.rd rfl rfl rfl (Reads.cmp rfl rfl rfl) ?_
  refine XO.nil ?_
  refine XQ.then_normal ?_
  refine XC.cond rfl (fun h1 => ?_) (fun h1 => ?_)
  · skip
    simp only [cmpInt, decide_eq_true_eq] at h1
    have hi3 : i < x.hs.length := by omega
    have hci := formed_c hch.f hi3
    have hcp := formed_c hch.f (i := i - 1) (by omega)
    have hmo := hch.l i (by omega) hi3
    have hlv := (formed_h hch.f hi3).2.2.2.resolve_left (by omega)
    refine XC.skip ?_
    refine XQ.then_normal ?_
    refine XC.seq ?_
    refine XC.block ?_
    refine XC.seq ?_
    refine XC.region ?_
    refine XO.rd rfl rfl rfl (fa37_1 rfl) ?_
    refine XO.rd rfl rfl rfl (Reads.load_own k35 rfl (by first | exact OwnAt.of 0 rfl rfl | exact OwnAt.of 1 rfl rfl | exact OwnAt.of 2 rfl rfl | exact OwnAt.of 3 rfl rfl | exact OwnAt.of 4 rfl rfl)) ?_
    refine XO.rd rfl rfl rfl (Reads.move rfl) ?_
    refine XO.rd rfl rfl rfl (Reads.sub rfl rfl (by omega)) ?_
    rw [show (i : Int) - 1 = ((i - 1 : Nat) : Int) by omega]
    refine XO.rd rfl rfl rfl (Reads.index_slot (q := (i - 1) * 3) Tryd.underlying35 z53 rfl rfl (by omega) (hA.isSome (by decide) (by omega)) rfl) ?_
    refine XO.rd rfl rfl rfl (Reads.load_agg_at (vs := (x.h (i - 1)).cs) k53 z53 rfl (hA.addr (by decide) (by omega)) (by rw [x.h_get (show i - 1 < x.hs.length by omega)]; exact hA.hand (show i - 1 < x.hs.length by omega))) ?_
    refine XO.alloc (cs := #[.int .i64 0, .int .i64 0, .string ⟨#[]⟩]) rfl rfl zo53 rfl (fun b7 => ?_)
    refine XO.store_agg (vs := (x.h (i - 1)).cs) 0 rfl z53 rfl rfl (by simp [Hand.cs, Value.oneCell']) rfl (by simp [Hand.cs]) ?_
    refine XO.own_eq (congrArg (fun c => some (b7, Obj.cells c 53 (0, 0)) :: _) (show _ = (x.h (i - 1)).cs.toArray from rfl)) ?_
    refine XO.nil ?_
    refine XQ.then_normal ?_
    refine XC.seq ?_
    refine XC.weaken (E' := [(3, _), (5, _), (6, _), (7, _)]) ⟨rfl, rfl, rfl, rfl, trivial⟩ ?_
    refine XC.region ?_
    refine XO.rd rfl rfl rfl (fa37_1 rfl) ?_
    refine XO.rd rfl rfl rfl (Reads.load_own k35 rfl (by first | exact OwnAt.of 0 rfl rfl | exact OwnAt.of 1 rfl rfl | exact OwnAt.of 2 rfl rfl | exact OwnAt.of 3 rfl rfl | exact OwnAt.of 4 rfl rfl)) ?_
    refine XO.rd rfl rfl rfl (Reads.move rfl) ?_
    refine XO.rd rfl rfl rfl (Reads.index_slot (q := (i) * 3) Tryd.underlying35 z53 rfl rfl (by omega) (hA.isSome (by decide) (by omega)) rfl) ?_
    refine XO.rd rfl rfl rfl (Reads.load_agg_at (vs := (x.h (i)).cs) k53 z53 rfl (hA.addr (by decide) (by omega)) (by rw [x.h_get (show i < x.hs.length by omega)]; exact hA.hand (show i < x.hs.length by omega))) ?_
    refine XO.alloc (cs := #[.int .i64 0, .int .i64 0, .string ⟨#[]⟩]) rfl rfl zo53 rfl (fun b8 => ?_)
    refine XO.store_agg (vs := (x.h (i)).cs) 0 rfl z53 rfl rfl (by simp [Hand.cs, Value.oneCell']) rfl (by simp [Hand.cs]) ?_
    refine XO.own_eq (congrArg (fun c => some (b8, Obj.cells c 53 (0, 0)) :: _) (show _ = (x.h (i)).cs.toArray from rfl)) ?_
    refine XO.nil ?_
    refine XQ.then_normal ?_
    refine XC.seq ?_
    refine XC.draw m_mixed none (.pure 0 (.pure 1 (.pure 2 (.pure 6 (.pure 7 (.eff 3 (.pure 4 (.pure 5 (.eff 8 (.pure 9 (.pure 10 (.pure 11 (.pure 12 (.done)))))))))))))) _ (by kernel_rfl) (List.Sublist.refl _) ?_
    refine XR.rd rfl rfl rfl (Reads.move rfl) ?_
    refine XR.rd rfl rfl rfl (fa53_0 rfl) ?_
    refine XR.rd rfl rfl rfl (Reads.load_own k3 rfl (by first | exact OwnAt.of 0 rfl rfl | exact OwnAt.of 1 rfl rfl | exact OwnAt.of 2 rfl rfl | exact OwnAt.of 3 rfl rfl | exact OwnAt.of 4 rfl rfl)) ?_
    refine XR.rd rfl rfl rfl (fa53_0 rfl) ?_
    refine XR.rd rfl rfl rfl (Reads.load_own k3 rfl (by first | exact OwnAt.of 0 rfl rfl | exact OwnAt.of 1 rfl rfl | exact OwnAt.of 2 rfl rfl | exact OwnAt.of 3 rfl rfl | exact OwnAt.of 4 rfl rfl)) ?_
    refine XR.callp rfl rfl rfl en16 (pickL_is (v := (x.h i).c) (pick_small hci.1 (by omega)) (pickL_any (x.h i).c 8 _ ⟨by omega, by omega⟩ (by decide))) ⟨rfl, rfl, trivial⟩ (List.Sublist.refl _) ?_
    refine XR.rd rfl rfl rfl (Reads.index_slot (q := (x.h i).c.toNat) Tryd.underlying23 z3 rfl rfl (by rw [n.knows_len]; omega) (hKn.isSome (by decide) (by rw [n.knows_len]; omega)) (by omega)) ?_
    refine XR.rd rfl rfl rfl (Reads.load_at (v := .int .i64 (n.set (x.h i).c : Int)) k3 rfl (by rw [num_set n hci]; have h9 := hKn.int (j := (x.h i).c.toNat) (by rw [n.knows_len]; omega); rw [Nat.mul_one] at h9; exact h9)) ?_
    refine XR.callp rfl rfl rfl en16 (pickL_is (v := (((x.h (i - 1)).c.toNat : Nat) : Int)) ((pick_small hcp.1 (by omega)).trans (by omega)) (pickL_any (x.h (i - 1)).c 8 _ ⟨by omega, by omega⟩ (by decide))) ⟨rfl, rfl, trivial⟩ (List.Sublist.refl _) ?_
    refine XR.rd rfl rfl rfl (Reads.shrn (m := n.set (x.h i).c) (s := (x.h (i - 1)).c.toNat) rfl rfl (by show _ ≤ 64; omega)) ?_
    refine XR.rd rfl rfl rfl (Reads.rem rfl rfl (Int.natCast_nonneg _) (by decide)) ?_
    refine XR.rd (v := .bool (can n.knows x i)) rfl rfl rfl (Reads.to (Reads.cmp rfl rfl rfl) (congrArg Value.bool (by rw [can_set]; exact cmp_bit _))) ?_
    refine XR.rd rfl rfl rfl (Reads.assign rfl) ?_
    refine XR.nil ?_
    refine XQ.then_normal ?_
    refine XC.seq ?_
    refine XC.region ?_
    refine XO.rd rfl rfl rfl (fa53_1 rfl) ?_
    refine XO.rd rfl rfl rfl (Reads.load_own k3 rfl (by first | exact OwnAt.of 0 rfl rfl | exact OwnAt.of 1 rfl rfl | exact OwnAt.of 2 rfl rfl | exact OwnAt.of 3 rfl rfl | exact OwnAt.of 4 rfl rfl)) ?_
    refine XO.rd rfl rfl rfl (fa53_1 rfl) ?_
    refine XO.rd rfl rfl rfl (Reads.load_own k3 rfl (by first | exact OwnAt.of 0 rfl rfl | exact OwnAt.of 1 rfl rfl | exact OwnAt.of 2 rfl rfl | exact OwnAt.of 3 rfl rfl | exact OwnAt.of 4 rfl rfl)) ?_
    refine XO.rd rfl rfl rfl (Reads.cmp_no rfl rfl rfl (decide_eq_false (by omega))) ?_
    refine XO.rd rfl rfl rfl (Reads.move rfl) ?_
    refine XO.rd (wg rfl rfl rfl) rfl rfl (Reads.move rfl) ?_
    refine XO.rd (wg rfl rfl rfl) rfl rfl (Reads.move rfl) ?_
    refine XO.split (d := 82) rfl (fun h2 => ?_) (fun h2 => ?_)
    · skip
      have hcy : can n.knows x i = true := h2
      refine XO.rd (wg rfl rfl rfl) rfl rfl (fa53_1 rfl) ?_
      refine XO.rd (wg rfl rfl rfl) rfl rfl (Reads.load_own k3 rfl (by first | exact OwnAt.of 0 rfl rfl | exact OwnAt.of 1 rfl rfl | exact OwnAt.of 2 rfl rfl | exact OwnAt.of 3 rfl rfl | exact OwnAt.of 4 rfl rfl)) ?_
      refine XO.rd (wg rfl rfl rfl) rfl rfl (fa53_1 rfl) ?_
      refine XO.rd (wg rfl rfl rfl) rfl rfl (Reads.load_own k3 rfl (by first | exact OwnAt.of 0 rfl rfl | exact OwnAt.of 1 rfl rfl | exact OwnAt.of 2 rfl rfl | exact OwnAt.of 3 rfl rfl | exact OwnAt.of 4 rfl rfl)) ?_
      refine XO.rd (wg rfl rfl rfl) rfl rfl (Reads.cmp_no rfl rfl rfl (by rw [hmo, most_yes hcy]; simp [cmpInt])) ?_
      refine XO.rd (wg rfl rfl rfl) rfl rfl (Reads.pick_true rfl rfl) ?_
      refine XO.rd rfl rfl rfl (Reads.pick_false rfl rfl) ?_
      refine XO.rd rfl rfl rfl (Reads.move rfl) ?_
      refine XO.rd (wg rfl rfl rfl) rfl rfl (Reads.move rfl) ?_
      refine XO.rd (wg rfl rfl rfl) rfl rfl (Reads.not rfl) ?_
      refine XO.rd (wg rfl rfl rfl) rfl rfl (Reads.move rfl) ?_
      refine XO.split (d := 93) rfl (fun h3 => ?_) (fun h3 => ?_)
      · skip
        have hcn : can n.knows x i = false := by simpa using h3
        refine XO.rd (wg rfl rfl rfl) rfl rfl (fa53_1 rfl) ?_
        refine XO.rd (wg rfl rfl rfl) rfl rfl (Reads.load_own k3 rfl (by first | exact OwnAt.of 0 rfl rfl | exact OwnAt.of 1 rfl rfl | exact OwnAt.of 2 rfl rfl | exact OwnAt.of 3 rfl rfl | exact OwnAt.of 4 rfl rfl)) ?_
        refine XO.rd (wg rfl rfl rfl) rfl rfl (fa53_1 rfl) ?_
        refine XO.rd (wg rfl rfl rfl) rfl rfl (Reads.load_own k3 rfl (by first | exact OwnAt.of 0 rfl rfl | exact OwnAt.of 1 rfl rfl | exact OwnAt.of 2 rfl rfl | exact OwnAt.of 3 rfl rfl | exact OwnAt.of 4 rfl rfl)) ?_
        refine XO.rd (wg rfl rfl rfl) rfl rfl (Reads.min rfl rfl) ?_
        refine XO.rd (wg rfl rfl rfl) rfl rfl (Reads.cmp_no rfl rfl rfl (by rw [hmo, most_no hcn]; simp [cmpInt])) ?_
        refine XO.rd (wg rfl rfl rfl) rfl rfl (Reads.pick_true rfl rfl) ?_
        refine XO.rd rfl rfl rfl (Reads.pick_false rfl rfl) ?_
        refine XO.nil ?_
        refine XQ.then_normal ?_
        refine XC.cond rfl (fun hx => by cases hx) (fun _ => ?_)
        refine XC.skip ?_
        refine XQ.block_normal ?_
        refine XQ.then_normal ?_
        refine XC.weaken (E' := [(3, _), (5, _), (6, _)]) ⟨rfl, rfl, rfl, trivial⟩ ?_
        refine XC.region ?_
        refine XO.rd rfl rfl rfl (Reads.move rfl) ?_
        refine XO.rd rfl rfl rfl (Reads.add rfl rfl (by omega)) ?_
        refine XO.rd rfl rfl rfl (Reads.assign rfl) ?_
        refine XO.nil ?_
        refine XQ.dropn 2 ?_
        refine XQ.back (i + 1) ⟨by omega, by omega⟩ (by omega) ⟨rfl, rfl, rfl, trivial⟩ rfl (List.Perm.refl _)
      · skip
        refine XO.s (wg rfl rfl rfl) rfl ?_
        refine XO.s (wg rfl rfl rfl) rfl ?_
        refine XO.s (wg rfl rfl rfl) rfl ?_
        refine XO.s (wg rfl rfl rfl) rfl ?_
        refine XO.s (wg rfl rfl rfl) rfl ?_
        refine XO.s (wg rfl rfl rfl) rfl ?_
        refine XO.rd (wg rfl rfl rfl) rfl rfl (Reads.pick_false rfl rfl) ?_
        refine XO.rd rfl rfl rfl (Reads.pick_false rfl rfl) ?_
        refine XO.nil ?_
        refine XQ.then_normal ?_
        refine XC.cond rfl (fun hx => by cases hx) (fun _ => ?_)
        refine XC.skip ?_
        refine XQ.block_normal ?_
        refine XQ.then_normal ?_
        refine XC.weaken (E' := [(3, _), (5, _), (6, _)]) ⟨rfl, rfl, rfl, trivial⟩ ?_
        refine XC.region ?_
        refine XO.rd rfl rfl rfl (Reads.move rfl) ?_
        refine XO.rd rfl rfl rfl (Reads.add rfl rfl (by omega)) ?_
        refine XO.rd rfl rfl rfl (Reads.assign rfl) ?_
        refine XO.nil ?_
        refine XQ.dropn 2 ?_
        refine XQ.back (i + 1) ⟨by omega, by omega⟩ (by omega) ⟨rfl, rfl, rfl, trivial⟩ rfl (List.Perm.refl _)
    · skip
      refine XO.s (wg rfl rfl rfl) rfl ?_
      refine XO.s (wg rfl rfl rfl) rfl ?_
      refine XO.s (wg rfl rfl rfl) rfl ?_
      refine XO.s (wg rfl rfl rfl) rfl ?_
      refine XO.s (wg rfl rfl rfl) rfl ?_
      refine XO.rd (wg rfl rfl rfl) rfl rfl (Reads.pick_false rfl rfl) ?_
      refine XO.rd rfl rfl rfl (Reads.pick_false rfl rfl) ?_
      refine XO.rd rfl rfl rfl (Reads.move rfl) ?_
      refine XO.rd (wg rfl rfl rfl) rfl rfl (Reads.move rfl) ?_
      refine XO.rd (wg rfl rfl rfl) rfl rfl (Reads.not rfl) ?_
      refine XO.rd (wg rfl rfl rfl) rfl rfl (Reads.move rfl) ?_
      refine XO.split (d := 93) rfl (fun h4 => ?_) (fun h4 => ?_)
      · skip
        have hcn : can n.knows x i = false := by simpa using h4
        refine XO.rd (wg rfl rfl rfl) rfl rfl (fa53_1 rfl) ?_
        refine XO.rd (wg rfl rfl rfl) rfl rfl (Reads.load_own k3 rfl (by first | exact OwnAt.of 0 rfl rfl | exact OwnAt.of 1 rfl rfl | exact OwnAt.of 2 rfl rfl | exact OwnAt.of 3 rfl rfl | exact OwnAt.of 4 rfl rfl)) ?_
        refine XO.rd (wg rfl rfl rfl) rfl rfl (fa53_1 rfl) ?_
        refine XO.rd (wg rfl rfl rfl) rfl rfl (Reads.load_own k3 rfl (by first | exact OwnAt.of 0 rfl rfl | exact OwnAt.of 1 rfl rfl | exact OwnAt.of 2 rfl rfl | exact OwnAt.of 3 rfl rfl | exact OwnAt.of 4 rfl rfl)) ?_
        refine XO.rd (wg rfl rfl rfl) rfl rfl (Reads.min rfl rfl) ?_
        refine XO.rd (wg rfl rfl rfl) rfl rfl (Reads.cmp_no rfl rfl rfl (by rw [hmo, most_no hcn]; simp [cmpInt])) ?_
        refine XO.rd (wg rfl rfl rfl) rfl rfl (Reads.pick_true rfl rfl) ?_
        refine XO.rd rfl rfl rfl (Reads.pick_false rfl rfl) ?_
        refine XO.nil ?_
        refine XQ.then_normal ?_
        refine XC.cond rfl (fun hx => by cases hx) (fun _ => ?_)
        refine XC.skip ?_
        refine XQ.block_normal ?_
        refine XQ.then_normal ?_
        refine XC.weaken (E' := [(3, _), (5, _), (6, _)]) ⟨rfl, rfl, rfl, trivial⟩ ?_
        refine XC.region ?_
        refine XO.rd rfl rfl rfl (Reads.move rfl) ?_
        refine XO.rd rfl rfl rfl (Reads.add rfl rfl (by omega)) ?_
        refine XO.rd rfl rfl rfl (Reads.assign rfl) ?_
        refine XO.nil ?_
        refine XQ.dropn 2 ?_
        refine XQ.back (i + 1) ⟨by omega, by omega⟩ (by omega) ⟨rfl, rfl, rfl, trivial⟩ rfl (List.Perm.refl _)
      · skip
        refine XO.s (wg rfl rfl rfl) rfl ?_
        refine XO.s (wg rfl rfl rfl) rfl ?_
        refine XO.s (wg rfl rfl rfl) rfl ?_
        refine XO.s (wg rfl rfl rfl) rfl ?_
        refine XO.s (wg rfl rfl rfl) rfl ?_
        refine XO.s (wg rfl rfl rfl) rfl ?_
        refine XO.rd (wg rfl rfl rfl) rfl rfl (Reads.pick_false rfl rfl) ?_
        refine XO.rd rfl rfl rfl (Reads.pick_false rfl rfl) ?_
        refine XO.nil ?_
        refine XQ.then_normal ?_
        refine XC.cond rfl (fun hx => by cases hx) (fun _ => ?_)
        refine XC.skip ?_
        refine XQ.block_normal ?_
        refine XQ.then_normal ?_
        refine XC.weaken (E' := [(3, _), (5, _), (6, _)]) ⟨rfl, rfl, rfl, trivial⟩ ?_
        refine XC.region ?_
        refine XO.rd rfl rfl rfl (Reads.move rfl) ?_
        refine XO.rd rfl rfl rfl (Reads.add rfl rfl (by omega)) ?_
        refine XO.rd rfl rfl rfl (Reads.assign rfl) ?_
        refine XO.nil ?_
        refine XQ.dropn 2 ?_
        refine XQ.back (i + 1) ⟨by omega, by omega⟩ (by omega) ⟨rfl, rfl, rfl, trivial⟩ rfl (List.Perm.refl _)
  · skip
    simp only [cmpInt, decide_eq_false_iff_not] at h1
    refine XC.exit ?_
    refine XQ.then_exit ?_
    refine XQ.then_exit ?_
    refine XQ.block_exit ?_
    refine XQ.then_normal ?_
    refine XC.seq ?_
    refine XC.draw m_mixed none (.pure 1 (.pure 2 (.eff 0 (.eff 3 (.pure 4 (.pure 5 (.pure 6 (.pure 7 (.pure 8 (.done)))))))))) _ (by kernel_rfl) (List.Sublist.refl _) ?_
    refine XR.rd rfl rfl rfl (Reads.move rfl) ?_
    refine XR.rd rfl rfl rfl (Reads.load_whole k37 z37 rfl (by first | exact WholeAt.of 0 rfl | exact WholeAt.of 1 rfl | exact WholeAt.of 2 rfl | exact WholeAt.of 3 rfl | exact WholeAt.of 4 rfl) (by rfl)) ?_
    refine XR.call rfl rfl rfl en15 (all_any _) trivial (List.Sublist.refl _) ?_
    rintro u J67 hle67 hr
    replace hI := Im.le_trans hI hle67
    replace hG := hG.mono hle67
    replace hC := hC.mono hle67
    replace hA := hA.mono hle67
    replace hKn := hKn.mono hle67
    obtain ⟨ak, ck, rfl, hc_hK, hK⟩ := hr.ex
    refine XR.callp rfl rfl rfl en24 (blame_is (hch.blame n.ok_knows) (blame_any x ab ak aw cb ck cw allK n.knows _ hA (by omega) hK (by rw [allK_len]; decide) hKn (by rw [n.knows_len]; decide) hG)) ⟨rfl, rfl, rfl, trivial⟩ (List.Sublist.refl _) ?_
    refine XR.rd rfl rfl rfl (Reads.move rfl) ?_
    refine XR.rd rfl rfl rfl (Reads.extract rfl rfl) ?_
    refine XR.rd rfl rfl rfl (Reads.extract rfl rfl) ?_
    refine XR.rd rfl rfl rfl (Reads.assign rfl) ?_
    refine XR.rd rfl rfl rfl (Reads.assign rfl) ?_
    refine XR.nil ?_
    refine XQ.then_normal ?_
    refine XC.seq ?_
    refine XC.weaken (E' := [(10, _), (11, _)]) ⟨rfl, rfl, trivial⟩ ?_
    refine XC.region ?_
    refine XO.rd rfl rfl rfl (Reads.move rfl) ?_
    refine XO.rd rfl rfl rfl (Reads.cmp_yes rfl rfl rfl rfl) ?_
    refine XO.rd rfl rfl rfl (Reads.move rfl) ?_
    refine XO.rd (wg rfl rfl rfl) rfl rfl (Reads.move rfl) ?_
    refine XO.rd (wg rfl rfl rfl) rfl rfl (Reads.cmp_yes rfl rfl rfl rfl) ?_
    refine XO.rd rfl rfl rfl (Reads.pick_true rfl rfl) ?_
    refine XO.rd rfl rfl rfl (Reads.assign rfl) ?_
    refine XO.nil ?_
    refine XQ.then_normal ?_
    refine XC.ret ?_
    refine XQ.dropn 2 ?_
    refine XQ.done1 (L := []) rfl rfl hI ?_
    exact ⟨rfl, rfl⟩

end Go.Proofs.YtmlliafhpbfdbaaDoor
