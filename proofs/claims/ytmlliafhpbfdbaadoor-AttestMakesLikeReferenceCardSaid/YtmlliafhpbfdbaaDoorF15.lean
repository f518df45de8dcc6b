/- Walks: strings, and hands, cut short. -/
import Derived.Test.YtmlliafhpbfdbaaDoorME
import Derived.Test.YtmlliafhpbfdbaaDoorK9
import Derived.Test.YtmlliafhpbfdbaaDoorCJ
namespace Go.Proofs.YtmlliafhpbfdbaaDoor
open Go.Xe Go.Sh Go Go.At Go.RowKit

theorem short_any (al : Option Addr) (cl : Nat) (l : List ByteArray) (I : Im) (hL : Arr I al l) (hll : l.length ≤ 9223372036854775807) : FC Tryd.prog 28 [.slice al l.length cl] I (fun u I' => Sl I' u (shortF l)) := by
  refine FSo.intro (n := 30) Tryd.func28 rfl rfl rfl (fun K Lf => ?_)
  refine XC.seq ?_
  refine XC.region ?_
  refine XO.rd rfl rfl rfl (Reads.assign rfl) ?_
  refine XO.nil ?_
  refine XQ.then_normal ?_
  refine XC.seq ?_
  refine XC.region ?_
  refine XO.rd rfl rfl rfl (Reads.assign rfl) ?_
  refine XO.nil ?_
  refine XQ.then_normal ?_
  refine XC.seq ?_
  refine XC.seq ?_
  refine XC.region ?_
  refine XO.rd rfl rfl rfl (Reads.assign rfl) ?_
  refine XO.nil ?_
  refine XQ.then_normal ?_
  refine XC.block ?_
  refine XC.vec0 9 ?_
  refine XC.loop (ι := Nat × Vec) (fun q => [(0, .slice al l.length cl), (3, q.2.val), (4, .int .i64 q.1)]) (fun q => I) (fun q => q.2.ent 9 :: ([] ++ Lf)) (fun q => q.1 ≤ l.length ∧ q.1 ≤ 9 ∧ q.2.Is 1 (strC ((l.take q.1).map cutS))) (fun q => 9 - q.1) (0, Vec.nil) ⟨Nat.zero_le _, Nat.zero_le _, Vec.nil_is 1⟩ ⟨rfl, rfl, rfl, trivial⟩ rfl (List.Perm.refl _) (fun q hq => ?_)
  obtain ⟨k, V⟩ := q
  obtain ⟨hk1, hk2, hV⟩ := hq
  simp only at hk1 hk2 hV ⊢
  have hVl : V.len = k := by have h9 := hV.len; rw [strC_len, List.length_map, List.length_take] at h9; omega
  refine XC.seq ?_
  refine XC.seq ?_
  refine XC.region ?_
  refine XO.rd rfl rfl rfl (Reads.move rfl) ?_
  refine XO.rd rfl rfl rfl (Reads.move rfl) ?_
  refine XO.rd rfl rfl rfl (Reads.len_slice Tryd.underlying29 rfl) ?_
  refine XO.rd rfl rfl rfl (Reads.cmp rfl rfl rfl) ?_
  refine XO.rd rfl rfl rfl (Reads.move rfl) ?_
  refine XO.split (d := 9) rfl (fun h1 => ?_) (fun h1 => ?_)
  · skip
    simp only [cmpInt, decide_eq_true_eq] at h1
    have hk3 : k < l.length := by omega
    refine XO.rd (wg rfl rfl rfl) rfl rfl (Reads.move rfl) ?_
    refine XO.rd (wg rfl rfl rfl) rfl rfl (Reads.cmp rfl rfl rfl) ?_
    refine XO.rd rfl rfl rfl (Reads.pick_true rfl rfl) ?_
    refine XO.nil ?_
    refine XQ.then_normal ?_
    refine XC.cond rfl (fun h2 => ?_) (fun h2 => ?_)
    · skip
      simp only [cmpInt, decide_eq_true_eq] at h2
      have hk9 : k < 9 := by omega
      refine XC.skip ?_
      refine XQ.then_normal ?_
      refine XC.seq ?_
      refine XC.block ?_
      refine XC.draw m_mixed none (.pure 0 (.pure 1 (.pure 2 (.pure 3 (.pure 4 (.pure 5 (.pure 6 (.pure 7 (.pure 8 (.pure 9 (.pure 10 (.pure 11 (.eff 12 (.eff 13 (.pure 14 (.done)))))))))))))))) _ (by kernel_rfl) (List.Sublist.cons _ (List.Sublist.refl _)) ?_
      refine XR.rd rfl rfl rfl (Reads.move rfl) ?_
      refine XR.rd rfl rfl rfl (Reads.move rfl) ?_
      refine XR.rd rfl rfl rfl (Reads.move rfl) ?_
      refine XR.rd rfl rfl rfl (Reads.index_slot Tryd.underlying29 z9 rfl rfl (by omega) (hL.isSome (by decide) (by omega)) rfl) ?_
      refine XR.rd rfl rfl rfl (Reads.load_at k9 rfl (hL.str hk3)) ?_
      refine XR.rd rfl rfl rfl (Reads.move rfl) ?_
      refine XR.rd rfl rfl rfl (Reads.move rfl) ?_
      refine XR.rd rfl rfl rfl (Reads.index_slot Tryd.underlying29 z9 rfl rfl (by omega) (hL.isSome (by decide) (by omega)) rfl) ?_
      refine XR.rd rfl rfl rfl (Reads.load_at k9 rfl (hL.str hk3)) ?_
      refine XR.rd (v := .int .i64 (l[k].size : Int)) rfl rfl rfl (Reads.len_string Tryd.underlying9 rfl) ?_
      refine XR.rd (v := .int .i64 ((min l[k].size 33 : Nat) : Int)) rfl rfl rfl (Reads.to (v := .int .i64 (min (l[k].size : Int) 33)) (Reads.min rfl rfl) (congrArg (Value.int .i64) (by omega))) ?_
      refine XR.rd (v := .string (cutS l[k])) rfl rfl rfl (Reads.sslice_to (h := min l[k].size 33) Tryd.underlying9 rfl rfl (Nat.min_le_left _ _)) ?_
      refine XR.buildL [.string (cutS l[k])] [.string (cutS l[k])] rfl rfl rfl Tryd.underlying29 el9 rfl (by simp) ⟨rfl, rfl, trivial⟩ rfl rfl (List.Sublist.cons _ (List.Sublist.refl _)) (fun bu => ?_)
      refine XR.append (V := V) (news := strC [cutS l[k]]) 1 rfl rfl rfl Tryd.underlying29 el9 rfl rfl hV rfl (.slice Tryd.underlying29 (readable_row 0 rfl rfl) rfl (strC_one _)) (by omega) (by omega) ?_
      intro V' hV' hVl'
      refine ⟨.inr (List.Sublist.cons _ (List.Sublist.cons _ (List.Sublist.refl _))), ?_⟩
      refine XR.rd rfl rfl rfl (Reads.assign rfl) ?_
      refine XR.nil ?_
      refine XQ.block_normal ?_
      refine XQ.then_normal ?_
      refine XC.region ?_
      refine XO.rd rfl rfl rfl (Reads.move rfl) ?_
      refine XO.rd rfl rfl rfl (Reads.add rfl rfl (by omega)) ?_
      refine XO.rd rfl rfl rfl (Reads.assign rfl) ?_
      refine XO.nil ?_
      refine XQ.dropn 1 ?_
      refine XQ.back (k + 1, V') ⟨by simp only; omega, by simp only; omega, by simp only; rw [short_take hk3 hk9, strC_append]; exact hV'⟩ (by simp only; omega) ⟨rfl, rfl, rfl, trivial⟩ rfl (List.Perm.refl _)
    · skip
      simp only [cmpInt, decide_eq_false_iff_not] at h2
      refine XC.exit ?_
      refine XQ.then_exit ?_
      refine XQ.then_exit ?_
      refine XQ.block_exit ?_
      refine XQ.then_normal ?_
      refine XC.seq ?_
      refine XC.region ?_
      refine XO.rd rfl rfl rfl (Reads.move rfl) ?_
      refine XO.rd rfl rfl rfl (Reads.assign rfl) ?_
      refine XO.nil ?_
      refine XQ.then_normal ?_
      refine XC.ret ?_
      have hV8 : V.Is 1 (strC (shortF l)) := by rw [short_end hk1 hk2 (by omega)] at hV; exact hV
      refine XQ.give_vec (fun hb => ?_)
      refine XQ.done1 (L := []) rfl rfl (Vec.le_give hb) ?_
      exact ⟨rfl, (Vec.sl (by decide) hV8 (flat_strs _ _) hb).2⟩
  · skip
    simp only [cmpInt, decide_eq_false_iff_not] at h1
    refine XO.s (wg rfl rfl rfl) rfl ?_
    refine XO.s (wg rfl rfl rfl) rfl ?_
    refine XO.rd rfl rfl rfl (Reads.pick_false rfl rfl) ?_
    refine XO.nil ?_
    refine XQ.then_normal ?_
    refine XC.cond rfl (fun hx => by cases hx) (fun _ => ?_)
    refine XC.exit ?_
    refine XQ.then_exit ?_
    refine XQ.then_exit ?_
    refine XQ.block_exit ?_
    refine XQ.then_normal ?_
    refine XC.seq ?_
    refine XC.region ?_
    refine XO.rd rfl rfl rfl (Reads.move rfl) ?_
    refine XO.rd rfl rfl rfl (Reads.assign rfl) ?_
    refine XO.nil ?_
    refine XQ.then_normal ?_
    refine XC.ret ?_
    have hV8 : V.Is 1 (strC (shortF l)) := by rw [short_end hk1 hk2 (by omega)] at hV; exact hV
    refine XQ.give_vec (fun hb => ?_)
    refine XQ.done1 (L := []) rfl rfl (Vec.le_give hb) ?_
    exact ⟨rfl, (Vec.sl (by decide) hV8 (flat_strs _ _) hb).2⟩

theorem short_own (al : Option Addr) (cl : Nat) (l : List ByteArray) (I : Im) (hL : Arr I al l) (hll : l.length ≤ 9223372036854775807) : FSo Tryd.prog 28 [.slice al l.length cl] I [] (fun u I' L' => ∃ V : Vec, u = V.val ∧ I' = I ∧ L' = [V.ent 9] ∧ V.Is 1 (strC (shortF l))) := by
  refine FSo.intro (n := 30) Tryd.func28 rfl rfl rfl (fun K Lf => ?_)
  refine XC.seq ?_
  refine XC.region ?_
  refine XO.rd rfl rfl rfl (Reads.assign rfl) ?_
  refine XO.nil ?_
  refine XQ.then_normal ?_
  refine XC.seq ?_
  refine XC.region ?_
  refine XO.rd rfl rfl rfl (Reads.assign rfl) ?_
  refine XO.nil ?_
  refine XQ.then_normal ?_
  refine XC.seq ?_
  refine XC.seq ?_
  refine XC.region ?_
  refine XO.rd rfl rfl rfl (Reads.assign rfl) ?_
  refine XO.nil ?_
  refine XQ.then_normal ?_
  refine XC.block ?_
  refine XC.vec0 9 ?_
  refine XC.loop (ι := Nat × Vec) (fun q => [(0, .slice al l.length cl), (3, q.2.val), (4, .int .i64 q.1)]) (fun q => I) (fun q => q.2.ent 9 :: ([] ++ Lf)) (fun q => q.1 ≤ l.length ∧ q.1 ≤ 9 ∧ q.2.Is 1 (strC ((l.take q.1).map cutS))) (fun q => 9 - q.1) (0, Vec.nil) ⟨Nat.zero_le _, Nat.zero_le _, Vec.nil_is 1⟩ ⟨rfl, rfl, rfl, trivial⟩ rfl (List.Perm.refl _) (fun q hq => ?_)
  obtain ⟨k, V⟩ := q
  obtain ⟨hk1, hk2, hV⟩ := hq
  simp only at hk1 hk2 hV ⊢
  have hVl : V.len = k := by have h9 := hV.len; rw [strC_len, List.length_map, List.length_take] at h9; omega
  refine XC.seq ?_
  refine XC.seq ?_
  refine XC.region ?_
  refine XO.rd rfl rfl rfl (Reads.move rfl) ?_
  refine XO.rd rfl rfl rfl (Reads.move rfl) ?_
  refine XO.rd rfl rfl rfl (Reads.len_slice Tryd.underlying29 rfl) ?_
  refine XO.rd rfl rfl rfl (Reads.cmp rfl rfl rfl) ?_
  refine XO.rd rfl rfl rfl (Reads.move rfl) ?_
  refine XO.split (d := 9) rfl (fun h1 => ?_) (fun h1 => ?_)
  · skip
    simp only [cmpInt, decide_eq_true_eq] at h1
    have hk3 : k < l.length := by omega
    refine XO.rd (wg rfl rfl rfl) rfl rfl (Reads.move rfl) ?_
    refine XO.rd (wg rfl rfl rfl) rfl rfl (Reads.cmp rfl rfl rfl) ?_
    refine XO.rd rfl rfl rfl (Reads.pick_true rfl rfl) ?_
    refine XO.nil ?_
    refine XQ.then_normal ?_
    refine XC.cond rfl (fun h2 => ?_) (fun h2 => ?_)
    · skip
      simp only [cmpInt, decide_eq_true_eq] at h2
      have hk9 : k < 9 := by omega
      refine XC.skip ?_
      refine XQ.then_normal ?_
      refine XC.seq ?_
      refine XC.block ?_
      refine XC.draw m_mixed none (.pure 0 (.pure 1 (.pure 2 (.pure 3 (.pure 4 (.pure 5 (.pure 6 (.pure 7 (.pure 8 (.pure 9 (.pure 10 (.pure 11 (.eff 12 (.eff 13 (.pure 14 (.done)))))))))))))))) _ (by kernel_rfl) (List.Sublist.cons _ (List.Sublist.refl _)) ?_
      refine XR.rd rfl rfl rfl (Reads.move rfl) ?_
      refine XR.rd rfl rfl rfl (Reads.move rfl) ?_
      refine XR.rd rfl rfl rfl (Reads.move rfl) ?_
      refine XR.rd rfl rfl rfl (Reads.index_slot Tryd.underlying29 z9 rfl rfl (by omega) (hL.isSome (by decide) (by omega)) rfl) ?_
      refine XR.rd rfl rfl rfl (Reads.load_at k9 rfl (hL.str hk3)) ?_
      refine XR.rd rfl rfl rfl (Reads.move rfl) ?_
      refine XR.rd rfl rfl rfl (Reads.move rfl) ?_
      refine XR.rd rfl rfl rfl (Reads.index_slot Tryd.underlying29 z9 rfl rfl (by omega) (hL.isSome (by decide) (by omega)) rfl) ?_
      refine XR.rd rfl rfl rfl (Reads.load_at k9 rfl (hL.str hk3)) ?_
      refine XR.rd (v := .int .i64 (l[k].size : Int)) rfl rfl rfl (Reads.len_string Tryd.underlying9 rfl) ?_
      refine XR.rd (v := .int .i64 ((min l[k].size 33 : Nat) : Int)) rfl rfl rfl (Reads.to (v := .int .i64 (min (l[k].size : Int) 33)) (Reads.min rfl rfl) (congrArg (Value.int .i64) (by omega))) ?_
      refine XR.rd (v := .string (cutS l[k])) rfl rfl rfl (Reads.sslice_to (h := min l[k].size 33) Tryd.underlying9 rfl rfl (Nat.min_le_left _ _)) ?_
      refine XR.buildL [.string (cutS l[k])] [.string (cutS l[k])] rfl rfl rfl Tryd.underlying29 el9 rfl (by simp) ⟨rfl, rfl, trivial⟩ rfl rfl (List.Sublist.cons _ (List.Sublist.refl _)) (fun bu => ?_)
      refine XR.append (V := V) (news := strC [cutS l[k]]) 1 rfl rfl rfl Tryd.underlying29 el9 rfl rfl hV rfl (.slice Tryd.underlying29 (readable_row 0 rfl rfl) rfl (strC_one _)) (by omega) (by omega) ?_
      intro V' hV' hVl'
      refine ⟨.inr (List.Sublist.cons _ (List.Sublist.cons _ (List.Sublist.refl _))), ?_⟩
      refine XR.rd rfl rfl rfl (Reads.assign rfl) ?_
      refine XR.nil ?_
      refine XQ.block_normal ?_
      refine XQ.then_normal ?_
      refine XC.region ?_
      refine XO.rd rfl rfl rfl (Reads.move rfl) ?_
      refine XO.rd rfl rfl rfl (Reads.add rfl rfl (by omega)) ?_
      refine XO.rd rfl rfl rfl (Reads.assign rfl) ?_
      refine XO.nil ?_
      refine XQ.dropn 1 ?_
      refine XQ.back (k + 1, V') ⟨by simp only; omega, by simp only; omega, by simp only; rw [short_take hk3 hk9, strC_append]; exact hV'⟩ (by simp only; omega) ⟨rfl, rfl, rfl, trivial⟩ rfl (List.Perm.refl _)
    · skip
      simp only [cmpInt, decide_eq_false_iff_not] at h2
      refine XC.exit ?_
      refine XQ.then_exit ?_
      refine XQ.then_exit ?_
      refine XQ.block_exit ?_
      refine XQ.then_normal ?_
      refine XC.seq ?_
      refine XC.region ?_
      refine XO.rd rfl rfl rfl (Reads.move rfl) ?_
      refine XO.rd rfl rfl rfl (Reads.assign rfl) ?_
      refine XO.nil ?_
      refine XQ.then_normal ?_
      refine XC.ret ?_
      have hV8 : V.Is 1 (strC (shortF l)) := by rw [short_end hk1 hk2 (by omega)] at hV; exact hV
      refine XQ.done1 (L := [V.ent 9]) rfl rfl (Im.le_refl _) ?_
      exact ⟨V, rfl, rfl, rfl, hV8⟩
  · skip
    simp only [cmpInt, decide_eq_false_iff_not] at h1
    refine XO.s (wg rfl rfl rfl) rfl ?_
    refine XO.s (wg rfl rfl rfl) rfl ?_
    refine XO.rd rfl rfl rfl (Reads.pick_false rfl rfl) ?_
    refine XO.nil ?_
    refine XQ.then_normal ?_
    refine XC.cond rfl (fun hx => by cases hx) (fun _ => ?_)
    refine XC.exit ?_
    refine XQ.then_exit ?_
    refine XQ.then_exit ?_
    refine XQ.block_exit ?_
    refine XQ.then_normal ?_
    refine XC.seq ?_
    refine XC.region ?_
    refine XO.rd rfl rfl rfl (Reads.move rfl) ?_
    refine XO.rd rfl rfl rfl (Reads.assign rfl) ?_
    refine XO.nil ?_
    refine XQ.then_normal ?_
    refine XC.ret ?_
    have hV8 : V.Is 1 (strC (shortF l)) := by rw [short_end hk1 hk2 (by omega)] at hV; exact hV
    refine XQ.done1 (L := [V.ent 9]) rfl rfl (Im.le_refl _) ?_
    exact ⟨V, rfl, rfl, rfl, hV8⟩

theorem few_any (x : Att) (a : Option Addr) (cap : Nat) (I : Im) (hA : Arr I a x.hs) (h63 : x.hs.length ≤ 9223372036854775807) : FC Tryd.prog 29 [.agg (x.cs a cap).toArray] I (fun u I' => AttV I' u (fewA x)) := by
  refine FSo.intro (n := 40) Tryd.func29 rfl rfl rfl (fun K Lf => ?_)
  refine XC.seq ?_
  refine XC.region ?_
  refine XO.box_agg rfl rfl rfl (fun b1 => ?_)
  refine XO.alloc (cs := #[.int .i64 0, .int .i64 0, .int .i64 0, .int .i64 0, .slice none 0 0]) rfl rfl zo37 rfl (fun b2 => ?_)
  refine XO.nil ?_
  refine XQ.then_normal ?_
  refine XC.seq ?_
  refine XC.region ?_
  refine XO.rd rfl rfl rfl (fa37_0 rfl) ?_
  refine XO.rd rfl rfl rfl (Reads.load_agg_own (vs := x.d.cs) k34 z34 rfl (fun j v hj => OwnAt.of 1 rfl (by simp only [Nat.zero_add]; exact dial_at x a cap hj))) ?_
  refine XO.rd rfl rfl rfl (bd37 (vs := [(0, .agg x.d.cs.toArray)]) #[.int .i64 x.d.a, .int .i64 x.d.b, .int .i64 x.d.t, .int .i64 x.d.n, .slice none 0 0] ⟨rfl, rfl, trivial⟩ rfl) ?_
  refine XO.alloc (cs := #[.int .i64 0, .int .i64 0, .int .i64 0, .int .i64 0, .slice none 0 0]) rfl rfl zo37 rfl (fun b3 => ?_)
  refine XO.store_agg (vs := [.int .i64 x.d.a, .int .i64 x.d.b, .int .i64 x.d.t, .int .i64 x.d.n, .slice none 0 0]) 0 rfl z37 rfl rfl (by simp [Value.oneCell']) rfl (by simp) ?_
  refine XO.nil ?_
  refine XQ.then_normal ?_
  refine XC.seq ?_
  refine XC.seq ?_
  refine XC.region ?_
  refine XO.rd rfl rfl rfl (Reads.assign rfl) ?_
  refine XO.nil ?_
  refine XQ.then_normal ?_
  refine XC.block ?_
  refine XC.vec0 53 ?_
  refine XC.loop (ι := Nat × Vec) (fun q => [(1, .pointer (some ⟨b1, 0, none⟩)), (2, .pointer (some ⟨b2, 0, none⟩)), (3, .pointer (some ⟨b3, 0, none⟩)), (4, .int .i64 q.1)]) (fun q => I) (fun q => q.2.ent 53 :: some (b3, .cells #[.int .i64 x.d.a, .int .i64 x.d.b, .int .i64 x.d.t, .int .i64 x.d.n, q.2.val] 37 (0, 0)) :: some (b2, .cells #[.int .i64 0, .int .i64 0, .int .i64 0, .int .i64 0, .slice none 0 0] 37 (0, 0)) :: some (b1, .cells (x.cs a cap).toArray 37 (0, 0)) :: ([] ++ Lf)) (fun q => q.1 ≤ x.hs.length ∧ q.1 ≤ 9 ∧ q.2.Is 3 (handC ((x.hs.take q.1).map fewH))) (fun q => 9 - q.1) (0, Vec.nil) ⟨Nat.zero_le _, Nat.zero_le _, Vec.nil_is 3⟩ ⟨rfl, rfl, rfl, rfl, trivial⟩ rfl (List.Perm.refl _) (fun q hq => ?_)
  obtain ⟨k, V⟩ := q
  obtain ⟨hk1, hk2, hV⟩ := hq
  simp only at hk1 hk2 hV ⊢
  have hVl : V.len = k := by have h9 := hV.len; rw [handC_len, List.length_map, List.length_take] at h9; omega
  refine XC.seq ?_
  refine XC.seq ?_
  refine XC.region ?_
  refine XO.rd rfl rfl rfl (Reads.move rfl) ?_
  refine XO.rd rfl rfl rfl (fa37_1 rfl) ?_
  refine XO.rd rfl rfl rfl (Reads.load_own k35 rfl (by first | exact OwnAt.of 0 rfl rfl | exact OwnAt.of 1 rfl rfl | exact OwnAt.of 2 rfl rfl | exact OwnAt.of 3 rfl rfl | exact OwnAt.of 4 rfl rfl | exact OwnAt.of 5 rfl rfl)) ?_
  refine XO.rd rfl rfl rfl (Reads.len_slice Tryd.underlying35 rfl) ?_
  refine XO.rd rfl rfl rfl (Reads.cmp rfl rfl rfl) ?_
  refine XO.rd rfl rfl rfl (Reads.move rfl) ?_
  refine XO.split (d := 14) rfl (fun h1 => ?_) (fun h1 => ?_)
  · skip
    simp only [cmpInt, decide_eq_true_eq] at h1
    have hk3 : k < x.hs.length := by omega
    have hxk := x.h_get hk3
    refine XO.rd (wg rfl rfl rfl) rfl rfl (Reads.move rfl) ?_
    refine XO.rd (wg rfl rfl rfl) rfl rfl (Reads.cmp rfl rfl rfl) ?_
    refine XO.rd rfl rfl rfl (Reads.pick_true rfl rfl) ?_
    refine XO.nil ?_
    refine XQ.then_normal ?_
    refine XC.cond rfl (fun h2 => ?_) (fun h2 => ?_)
    · skip
      simp only [cmpInt, decide_eq_true_eq] at h2
      have hk9 : k < 9 := by omega
      refine XC.skip ?_
      refine XQ.then_normal ?_
      refine XC.seq ?_
      refine XC.block ?_
      refine XC.seq ?_
      refine XC.region ?_
      refine XO.rd rfl rfl rfl (fa37_1 rfl) ?_
      refine XO.rd rfl rfl rfl (Reads.load_own k35 rfl (by first | exact OwnAt.of 0 rfl rfl | exact OwnAt.of 1 rfl rfl | exact OwnAt.of 2 rfl rfl | exact OwnAt.of 3 rfl rfl | exact OwnAt.of 4 rfl rfl | exact OwnAt.of 5 rfl rfl)) ?_
      refine XO.rd rfl rfl rfl (Reads.move rfl) ?_
      refine XO.rd rfl rfl rfl (Reads.index_slot (q := k * 3) Tryd.underlying35 z53 rfl rfl (by omega) (hA.isSome (by decide) (by omega)) rfl) ?_
      refine XO.rd rfl rfl rfl (Reads.load_agg_at (vs := (x.h k).cs) k53 z53 rfl (hA.addr (by decide) (by omega)) (by rw [x.h_get hk3]; exact hA.hand hk3)) ?_
      refine XO.alloc (cs := #[.int .i64 0, .int .i64 0, .string ⟨#[]⟩]) rfl rfl zo53 rfl (fun b5 => ?_)
      refine XO.store_agg (vs := (x.h k).cs) 0 rfl z53 rfl rfl (by simp [Hand.cs, Value.oneCell']) rfl (by simp [Hand.cs]) ?_
      refine XO.own_eq (congrArg (fun c => some (b5, Obj.cells c 53 (0, 0)) :: _) (show _ = (x.h k).cs.toArray from rfl)) ?_
      refine XO.nil ?_
      refine XQ.then_normal ?_
      refine XC.seq ?_
      refine XC.region ?_
      refine XO.rd rfl rfl rfl (fa53_2 rfl) ?_
      refine XO.rd rfl rfl rfl (Reads.load_own k9 rfl (by first | exact OwnAt.of 0 rfl rfl | exact OwnAt.of 1 rfl rfl | exact OwnAt.of 2 rfl rfl | exact OwnAt.of 3 rfl rfl | exact OwnAt.of 4 rfl rfl | exact OwnAt.of 5 rfl rfl)) ?_
      refine XO.rd rfl rfl rfl (fa53_2 rfl) ?_
      refine XO.rd rfl rfl rfl (Reads.load_own k9 rfl (by first | exact OwnAt.of 0 rfl rfl | exact OwnAt.of 1 rfl rfl | exact OwnAt.of 2 rfl rfl | exact OwnAt.of 3 rfl rfl | exact OwnAt.of 4 rfl rfl | exact OwnAt.of 5 rfl rfl)) ?_
      refine XO.rd (v := .int .i64 ((x.h k).s.size : Int)) rfl rfl rfl (Reads.len_string Tryd.underlying9 rfl) ?_
      refine XO.rd (v := .int .i64 ((min (x.h k).s.size 33 : Nat) : Int)) rfl rfl rfl (Reads.to (v := .int .i64 (min ((x.h k).s.size : Int) 33)) (Reads.min rfl rfl) (congrArg (Value.int .i64) (by omega))) ?_
      refine XO.rd (v := .string (cutS (x.h k).s)) rfl rfl rfl (Reads.sslice_to (h := min (x.h k).s.size 33) Tryd.underlying9 rfl rfl (Nat.min_le_left _ _)) ?_
      refine XO.rd rfl rfl rfl (fa53_2 rfl) ?_
      refine XO.store 0 rfl z9 rfl rfl rfl rfl (by simp) ?_
      refine XO.own_eq (congrArg (fun c => some (b5, Obj.cells c 53 (0, 0)) :: _) (show _ = (fewH (x.h k)).cs.toArray from rfl)) ?_
      refine XO.nil ?_
      refine XQ.then_normal ?_
      refine XC.region ?_
      refine XO.rd rfl rfl rfl (fa37_1 rfl) ?_
      refine XO.rd rfl rfl rfl (Reads.load_own k35 rfl (by first | exact OwnAt.of 0 rfl rfl | exact OwnAt.of 1 rfl rfl | exact OwnAt.of 2 rfl rfl | exact OwnAt.of 3 rfl rfl | exact OwnAt.of 4 rfl rfl | exact OwnAt.of 5 rfl rfl)) ?_
      refine XO.rd rfl rfl rfl (Reads.load_whole (c := (fewH (x.h k)).cs.toArray) k53 z53 rfl (WholeAt.of 0 rfl) (by rfl)) ?_
      refine XO.buildL [.agg (fewH (x.h k)).cs.toArray] (fewH (x.h k)).cs rfl rfl Tryd.underlying35 el53 rfl (by simp) ⟨rfl, rfl, trivial⟩ rfl rfl (fun bu => ?_)
      refine XO.append (V := V) (news := (fewH (x.h k)).cs) 2 rfl rfl Tryd.underlying35 el53 rfl rfl hV rfl (.slice Tryd.underlying35 (.inr (.inr ⟨bu, 0, rfl, fun j v hj => ⟨(fewH (x.h k)).cs.toArray, 53, (0, 0), by simp, by simpa using hj⟩⟩)) rfl (by simp [Value.oneCell'])) (by omega) (by omega) ?_
      intro V3 hV3 _
      refine XO.rd rfl rfl rfl (fa37_1 rfl) ?_
      refine XO.store 3 rfl z35 rfl rfl rfl rfl (by simp) ?_
      refine XO.nil ?_
      refine XQ.block_normal ?_
      refine XQ.then_normal ?_
      refine XC.region ?_
      refine XO.rd rfl rfl rfl (Reads.move rfl) ?_
      refine XO.rd rfl rfl rfl (Reads.add rfl rfl (by omega)) ?_
      refine XO.rd rfl rfl rfl (Reads.assign rfl) ?_
      refine XO.nil ?_
      refine XQ.dropn 2 ?_
      refine XQ.back (k + 1, V3) ⟨by simp only; omega, by simp only; omega, by simp only; rw [few_take hk3, handC_append, ← hxk]; simpa [handC] using hV3⟩ (by simp only; omega) ⟨rfl, rfl, rfl, rfl, trivial⟩ rfl (List.Perm.refl _)
    · skip
      simp only [cmpInt, decide_eq_false_iff_not] at h2
      refine XC.exit ?_
      refine XQ.then_exit ?_
      refine XQ.then_exit ?_
      refine XQ.block_exit ?_
      refine XQ.then_normal ?_
      refine XC.seq ?_
      refine XC.region ?_
      refine XO.rd rfl rfl rfl (Reads.load_whole k37 z37 rfl (by first | exact WholeAt.of 0 rfl | exact WholeAt.of 1 rfl | exact WholeAt.of 2 rfl | exact WholeAt.of 3 rfl | exact WholeAt.of 4 rfl | exact WholeAt.of 5 rfl) (by rfl)) ?_
      refine XO.store_agg (vs := [.int .i64 x.d.a, .int .i64 x.d.b, .int .i64 x.d.t, .int .i64 x.d.n, V.val]) 2 rfl z37 rfl rfl (by simp [Value.oneCell']) rfl (by simp) ?_
      refine XO.nil ?_
      refine XQ.then_normal ?_
      refine XC.ret ?_
      have hV8 : V.Is 3 (handC (fewA x).hs) := by rw [few_end hk1 hk2 (by omega)] at hV; exact hV
      refine XQ.give_vec (fun hb => ?_)
      refine XQ.done1ca [] 3 rfl k37 z37 rfl (WholeAt.of 1 rfl) rfl rfl (Vec.le_give hb) ?_
      obtain ⟨a9, c9, h91, h92, h93⟩ := (Vec.sl (e := 53) (α := Hand) (by decide) hV8 (flat_hand _ _) hb).2.ex
      exact ⟨rfl, a9, c9, congrArg (fun z => Value.agg #[.int .i64 x.d.a, .int .i64 x.d.b, .int .i64 x.d.t, .int .i64 x.d.n, z]) h91, h92, h93⟩
  · skip
    simp only [cmpInt, decide_eq_false_iff_not] at h1
    refine XO.s (wg rfl rfl rfl) rfl ?_
    refine XO.s (wg rfl rfl rfl) rfl ?_
    refine XO.rd rfl rfl rfl (Reads.pick_false rfl rfl) ?_
    refine XO.nil ?_
    refine XQ.then_normal ?_
    refine XC.cond rfl (fun hx => by cases hx) (fun _ => ?_)
    refine XC.exit ?_
    refine XQ.then_exit ?_
    refine XQ.then_exit ?_
    refine XQ.block_exit ?_
    refine XQ.then_normal ?_
    refine XC.seq ?_
    refine XC.region ?_
    refine XO.rd rfl rfl rfl (Reads.load_whole k37 z37 rfl (by first | exact WholeAt.of 0 rfl | exact WholeAt.of 1 rfl | exact WholeAt.of 2 rfl | exact WholeAt.of 3 rfl | exact WholeAt.of 4 rfl | exact WholeAt.of 5 rfl) (by rfl)) ?_
    refine XO.store_agg (vs := [.int .i64 x.d.a, .int .i64 x.d.b, .int .i64 x.d.t, .int .i64 x.d.n, V.val]) 2 rfl z37 rfl rfl (by simp [Value.oneCell']) rfl (by simp) ?_
    refine XO.nil ?_
    refine XQ.then_normal ?_
    refine XC.ret ?_
    have hV8 : V.Is 3 (handC (fewA x).hs) := by rw [few_end hk1 hk2 (by omega)] at hV; exact hV
    refine XQ.give_vec (fun hb => ?_)
    refine XQ.done1ca [] 3 rfl k37 z37 rfl (WholeAt.of 1 rfl) rfl rfl (Vec.le_give hb) ?_
    obtain ⟨a9, c9, h91, h92, h93⟩ := (Vec.sl (e := 53) (α := Hand) (by decide) hV8 (flat_hand _ _) hb).2.ex
    exact ⟨rfl, a9, c9, congrArg (fun z => Value.agg #[.int .i64 x.d.a, .int .i64 x.d.b, .int .i64 x.d.t, .int .i64 x.d.n, z]) h91, h92, h93⟩

end Go.Proofs.YtmlliafhpbfdbaaDoor
