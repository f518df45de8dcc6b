/- Walk: equal attestations. -/
import Derived.Test.YtmlliafhpbfdbaaDoorD25
import Derived.Test.YtmlliafhpbfdbaaDoorK9
namespace Go.Proofs.YtmlliafhpbfdbaaDoor
open Go.Xe Go.Sh Go Go.At

theorem rsame_any (x : Att) (a b : Option Addr) (cap cb : Nat) (I : Im) (hA : Arr I a x.hs) (hB : Arr I b x.hs) (h63 : x.hs.length ≤ 9223372036854775807) : FC Tryd.prog 32 [.agg (x.cs a cap).toArray, .agg (x.cs b cb).toArray] I (fun u I' => u = .bool true ∧ I' = I) := by
  refine FSo.intro (n := 38) Tryd.func32 rfl rfl rfl (fun K Lf => ?_)
  refine XC.seq ?_
  refine XC.region ?_
  refine XO.box_agg rfl rfl rfl (fun b2 => ?_)
  refine XO.box_agg rfl rfl rfl (fun b3 => ?_)
  refine XO.rd rfl rfl rfl (Reads.assign rfl) ?_
  refine XO.nil ?_
  refine XQ.then_normal ?_
  refine XC.seq ?_
  refine XC.seq ?_
  refine XC.region ?_
  refine XO.rd rfl rfl rfl (fa37_0 rfl) ?_
  refine XO.rd rfl rfl rfl (Reads.load_agg_own (vs := x.d.cs) k34 z34 rfl (fun j v hj => OwnAt.of 1 rfl (by simp only [Nat.zero_add]; exact dial_at x a cap hj))) ?_
  refine XO.rd rfl rfl rfl (fa37_0 rfl) ?_
  refine XO.rd rfl rfl rfl (Reads.load_agg_own (vs := x.d.cs) k34 z34 rfl (fun j v hj => OwnAt.of 0 rfl (by simp only [Nat.zero_add]; exact dial_at x b cb hj))) ?_
  refine XO.rd rfl rfl rfl (Reads.to (v' := .bool false) (Reads.dial_ne (p := x.d) (q := x.d) rfl rfl) (by simp)) ?_
  refine XO.rd rfl rfl rfl (Reads.move rfl) ?_
  refine XO.rd (wg rfl rfl rfl) rfl rfl (fa37_1 rfl) ?_
  refine XO.rd (wg rfl rfl rfl) rfl rfl (Reads.load_own k35 rfl (by first | exact OwnAt.of 0 rfl rfl | exact OwnAt.of 1 rfl rfl | exact OwnAt.of 2 rfl rfl | exact OwnAt.of 3 rfl rfl)) ?_
  refine XO.rd (wg rfl rfl rfl) rfl rfl (Reads.len_slice Tryd.underlying35 rfl) ?_
  refine XO.rd (wg rfl rfl rfl) rfl rfl (fa37_1 rfl) ?_
  refine XO.rd (wg rfl rfl rfl) rfl rfl (Reads.load_own k35 rfl (by first | exact OwnAt.of 0 rfl rfl | exact OwnAt.of 1 rfl rfl | exact OwnAt.of 2 rfl rfl | exact OwnAt.of 3 rfl rfl)) ?_
  refine XO.rd (wg rfl rfl rfl) rfl rfl (Reads.len_slice Tryd.underlying35 rfl) ?_
  refine XO.rd (wg rfl rfl rfl) rfl rfl (Reads.cmp_no rfl rfl rfl (by simp [cmpInt])) ?_
  refine XO.rd rfl rfl rfl (Reads.pick_false rfl rfl) ?_
  refine XO.nil ?_
  refine XQ.then_normal ?_
  refine XC.cond rfl (fun hx => by cases hx) (fun _ => ?_)
  refine XC.skip ?_
  refine XQ.then_normal ?_
  refine XC.seq ?_
  refine XC.seq ?_
  refine XC.region ?_
  refine XO.rd rfl rfl rfl (Reads.assign rfl) ?_
  refine XO.nil ?_
  refine XQ.then_normal ?_
  refine XC.block ?_
  refine XC.loop (ι := Nat) (fun q => [(2, .pointer (some ⟨b2, 0, none⟩)), (3, .pointer (some ⟨b3, 0, none⟩)), (5, .int .i64 q)]) (fun q => I) (fun q => some (b3, .cells (x.cs b cb).toArray 37 (0, 0)) :: some (b2, .cells (x.cs a cap).toArray 37 (0, 0)) :: ([] ++ Lf)) (fun q => q ≤ x.hs.length) (fun q => x.hs.length - q) 0 (Nat.zero_le _) ⟨rfl, rfl, rfl, trivial⟩ rfl (List.Perm.refl _) (fun i hi => ?_)
  refine XC.seq ?_
  refine XC.seq ?_
  refine XC.region ?_
  refine XO.rd rfl rfl rfl (Reads.move rfl) ?_
  refine XO.rd rfl rfl rfl (fa37_1 rfl) ?_
  refine XO.rd rfl rfl rfl (Reads.load_own k35 rfl (by first | exact OwnAt.of 0 rfl rfl | exact OwnAt.of 1 rfl rfl | exact OwnAt.of 2 rfl rfl | exact OwnAt.of 3 rfl rfl)) ?_
  refine XO.rd rfl rfl rfl (Reads.len_slice Tryd.underlying35 rfl) ?_
  refine XO.rd rfl rfl rfl (Reads.cmp rfl rfl rfl) ?_
  refine XO.nil ?_
  refine XQ.then_normal ?_
  refine XC.cond rfl (fun h1 => ?_) (fun h1 => ?_)
  · skip
    simp only [cmpInt, decide_eq_true_eq] at h1
    have hi3 : i < x.hs.length := by omega
    refine XC.skip ?_
    refine XQ.then_normal ?_
    refine XC.seq ?_
    refine XC.block ?_
    refine XC.seq ?_
    refine XC.draw m_mixed none (.pure 0 (.pure 1 (.pure 2 (.pure 3 (.pure 4 (.pure 5 (.pure 6 (.pure 7 (.pure 8 (.pure 9 (.pure 10 (.done)))))))))))) _ (by kernel_rfl) (List.Sublist.refl _) ?_
    refine XR.rd rfl rfl rfl (fa37_1 rfl) ?_
    refine XR.rd rfl rfl rfl (Reads.load_own k35 rfl (by first | exact OwnAt.of 0 rfl rfl | exact OwnAt.of 1 rfl rfl | exact OwnAt.of 2 rfl rfl | exact OwnAt.of 3 rfl rfl)) ?_
    refine XR.rd rfl rfl rfl (Reads.move rfl) ?_
    refine XR.rd rfl rfl rfl (Reads.index_slot (q := i * 3) Tryd.underlying35 z53 rfl rfl (by omega) (hA.isSome (by decide) (by omega)) (by omega)) ?_
    refine XR.rd rfl rfl rfl (Reads.load_agg_at (vs := (x.h i).cs) k53 z53 rfl (hA.addr (by decide) (by omega)) (by rw [x.h_get hi3]; exact hA.hand hi3)) ?_
    refine XR.rd rfl rfl rfl (fa37_1 rfl) ?_
    refine XR.rd rfl rfl rfl (Reads.load_own k35 rfl (by first | exact OwnAt.of 0 rfl rfl | exact OwnAt.of 1 rfl rfl | exact OwnAt.of 2 rfl rfl | exact OwnAt.of 3 rfl rfl)) ?_
    refine XR.rd rfl rfl rfl (Reads.move rfl) ?_
    refine XR.rd rfl rfl rfl (Reads.index_slot (q := i * 3) Tryd.underlying35 z53 rfl rfl (by omega) (hB.isSome (by decide) (by omega)) (by omega)) ?_
    refine XR.rd rfl rfl rfl (Reads.load_agg_at (vs := (x.h i).cs) k53 z53 rfl (hB.addr (by decide) (by omega)) (by rw [x.h_get hi3]; exact hB.hand hi3)) ?_
    refine XR.rd rfl rfl rfl (Reads.to (v' := .bool false) (Reads.hand_ne (p := x.h i) (q := x.h i) rfl rfl) (by simp)) ?_
    refine XR.nil ?_
    refine XQ.then_normal ?_
    refine XC.cond rfl (fun hx => by cases hx) (fun _ => ?_)
    refine XC.skip ?_
    refine XQ.block_normal ?_
    refine XQ.then_normal ?_
    refine XC.region ?_
    refine XO.rd rfl rfl rfl (Reads.move rfl) ?_
    refine XO.rd rfl rfl rfl (Reads.add rfl rfl (by omega)) ?_
    refine XO.rd rfl rfl rfl (Reads.assign rfl) ?_
    refine XO.nil ?_
    refine XQ.back (i + 1) (by omega) (by omega) ⟨rfl, rfl, rfl, trivial⟩ rfl (List.Perm.refl _)
  · skip
    simp only [cmpInt, decide_eq_false_iff_not] at h1
    refine XC.exit ?_
    refine XQ.then_exit ?_
    refine XQ.then_exit ?_
    refine XQ.block_exit ?_
    refine XQ.then_normal ?_
    refine XC.seq ?_
    refine XC.region ?_
    refine XO.rd rfl rfl rfl (Reads.assign rfl) ?_
    refine XO.nil ?_
    refine XQ.then_normal ?_
    refine XC.ret ?_
    refine XQ.dropn 2 ?_
    refine XQ.done1 rfl rfl (Im.le_refl _) ?_
    exact ⟨rfl, rfl, rfl⟩

end Go.Proofs.YtmlliafhpbfdbaaDoor
