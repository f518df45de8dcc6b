/- Walks of layer 6: a further bound. -/
import Derived.Test.YtlgfpieokaegiaaB1
namespace Go.Proofs.Ytlgfpieokaegiaa
open Go.Xe

theorem with_any (b : Btw) (x : Bnd) (a : Option Addr) (cap : Nat) (I : Im) (hA : Arr I a b.bs) (hlen : b.bs.length ≤ 1000000) : FC Try.prog 36 [.agg #[.int .i64 b.n, .slice a b.bs.length cap], .agg x.cs.toArray] I (fun u I' => BtwV I' u (b.more x)) := by
  obtain ⟨ncs, hnf, hnw⟩ := News.arr (P := Try.prog) (tx := 26) (c := cap) Try.underlying26 hA
  refine FSo.intro (n := 15) Try.func36 rfl rfl rfl (fun K Lf => ?_)
  refine XC.seq ?_
  refine XC.region ?_
  refine XO.box_agg rfl rfl rfl (fun b2 => ?_)
  refine XO.box_agg rfl rfl rfl (fun b3 => ?_)
  refine XO.alloc (cs := #[.int .i64 0, .slice none 0 0]) rfl rfl zo28 rfl (fun b4 => ?_)
  refine XO.nil ?_
  refine XQ.then_normal ?_
  refine XC.seq ?_
  refine XC.join (ι := Vec) (fun q => [(4, .pointer (some ⟨b4, 0, none⟩))]) (fun q => I) (fun q => q.ent 30 :: some (b4, .cells #[.int .i64 b.n, q.val] 28 (0, 0)) :: some (b3, .cells x.cs.toArray 30 (0, 0)) :: some (b2, .cells #[.int .i64 b.n, .slice a b.bs.length cap] 28 (0, 0)) :: ([] ++ Lf)) (fun q => ∃ cs, q.Is 3 cs ∧ Flat I cs (b.bs ++ [x])) ?_ (fun q hq => ?_)
  · skip
    refine XC.draw m_mixed (some 10) (.pure 0 (.pure 1 (.pure 3 (.pure 4 (.pure 6 (.alt 2 (.alt 5 (.eff 7 (.eff 8 (.pure 9 (.eff 10 (.done))))) (.eff 7 (.eff 5 (.eff 8 (.pure 9 (.eff 10 (.done))))))) (.eff 7 (.eff 2 (.eff 5 (.eff 8 (.pure 9 (.eff 10 (.done))))))))))))) _ (by kernel_rfl) (List.Sublist.refl _) ?_
    refine XR.rd rfl rfl rfl (fa28_0 rfl) ?_
    refine XR.rd rfl rfl rfl (Reads.load_own k3 rfl (by first | exact OwnAt.of 0 rfl rfl | exact OwnAt.of 1 rfl rfl | exact OwnAt.of 2 rfl rfl | exact OwnAt.of 3 rfl rfl | exact OwnAt.of 4 rfl rfl | exact OwnAt.of 5 rfl rfl | exact OwnAt.of 6 rfl rfl | exact OwnAt.of 7 rfl rfl | exact OwnAt.of 8 rfl rfl)) ?_
    refine XR.rd rfl rfl rfl (fa28_1 rfl) ?_
    refine XR.rd rfl rfl rfl (Reads.load_own k26 rfl (by first | exact OwnAt.of 0 rfl rfl | exact OwnAt.of 1 rfl rfl | exact OwnAt.of 2 rfl rfl | exact OwnAt.of 3 rfl rfl | exact OwnAt.of 4 rfl rfl | exact OwnAt.of 5 rfl rfl | exact OwnAt.of 6 rfl rfl | exact OwnAt.of 7 rfl rfl | exact OwnAt.of 8 rfl rfl)) ?_
    refine XR.rd rfl rfl rfl (Reads.load_whole k30 z30 rfl (by first | exact WholeAt.of 0 rfl | exact WholeAt.of 1 rfl | exact WholeAt.of 2 rfl | exact WholeAt.of 3 rfl | exact WholeAt.of 4 rfl | exact WholeAt.of 5 rfl | exact WholeAt.of 6 rfl | exact WholeAt.of 7 rfl | exact WholeAt.of 8 rfl) (by rfl)) ?_
    refine XR.alt ?_ ?_
    · skip
      refine XR.buildL [] [] rfl rfl rfl Try.underlying26 el30 rfl (by simp) trivial rfl rfl (List.Sublist.refl _) (fun b7 => ?_)
      refine XR.alt ?_ ?_
      · skip
        refine XR.append (V := ⟨some (b7, #[]), 0, 0⟩) 0 rfl rfl rfl Try.underlying26 el30 rfl rfl (vec_zero b7 3) rfl (hnw _) (by simp only; omega) (by simp only; omega) ?_
        intro V1 hV1 hVl1
        simp only [Nat.zero_add] at hVl1
        refine ⟨.inr (List.Sublist.cons _ (List.Sublist.refl _)), ?_⟩
        refine XR.buildL [.agg x.cs.toArray] x.cs rfl rfl rfl Try.underlying26 el30 rfl (by simp) ⟨rfl, rfl, trivial⟩ rfl rfl (List.Sublist.cons _ (List.Sublist.refl _)) (fun b12 => ?_)
        refine XR.append (V := V1) 1 rfl rfl rfl Try.underlying26 el30 rfl rfl hV1 rfl (.slice Try.underlying26 (.inr (.inr ⟨b12, 0, rfl, fun j v hj => ⟨x.cs.toArray, 30, (0, 0), by simp, by simpa using hj⟩⟩)) rfl (by simp [Bnd.cs, Value.oneCell'])) (by omega) (by omega) ?_
        intro V2 hV2 _
        refine ⟨.inr (List.Sublist.cons _ (List.Sublist.cons _ (List.Sublist.refl _))), ?_⟩
        refine XR.rd rfl rfl rfl (bd28 (vs := [(0, _), (1, _)]) #[_, _] ⟨rfl, rfl, rfl, rfl, trivial⟩ rfl) ?_
        refine XR.store_agg (vs := [.int .i64 b.n, V2.val]) 2 rfl rfl z28 rfl rfl (by simp [Value.oneCell']) rfl (by simp) (.inl rfl) ?_
        refine XR.nil ?_
        refine XQ.dropn 1 ?_
        refine XQ.joined V2 ⟨_, hV2, (hnf.append (Flat.single (α := Bnd) rfl))⟩ ⟨rfl, trivial⟩ rfl (List.Perm.refl _)
      · skip
        refine XR.buildL [.agg x.cs.toArray] x.cs rfl rfl rfl Try.underlying26 el30 rfl (by simp) ⟨rfl, rfl, trivial⟩ rfl rfl (List.Sublist.cons _ (List.Sublist.refl _)) (fun b12 => ?_)
        refine XR.append (V := ⟨some (b7, #[]), 0, 0⟩) 1 rfl rfl rfl Try.underlying26 el30 rfl rfl (vec_zero b7 3) rfl (hnw _) (by simp only; omega) (by simp only; omega) ?_
        intro V1 hV1 hVl1
        simp only [Nat.zero_add] at hVl1
        refine ⟨.inr (List.Sublist.cons _ (List.Sublist.cons _ (List.Sublist.refl _))), ?_⟩
        refine XR.append (V := V1) 1 rfl rfl rfl Try.underlying26 el30 rfl rfl hV1 rfl (.slice Try.underlying26 (.inr (.inr ⟨b12, 0, rfl, fun j v hj => ⟨x.cs.toArray, 30, (0, 0), by simp, by simpa using hj⟩⟩)) rfl (by simp [Bnd.cs, Value.oneCell'])) (by omega) (by omega) ?_
        intro V2 hV2 _
        refine ⟨.inr (List.Sublist.cons _ (List.Sublist.cons _ (List.Sublist.refl _))), ?_⟩
        refine XR.rd rfl rfl rfl (bd28 (vs := [(0, _), (1, _)]) #[_, _] ⟨rfl, rfl, rfl, rfl, trivial⟩ rfl) ?_
        refine XR.store_agg (vs := [.int .i64 b.n, V2.val]) 2 rfl rfl z28 rfl rfl (by simp [Value.oneCell']) rfl (by simp) (.inl rfl) ?_
        refine XR.nil ?_
        refine XQ.dropn 1 ?_
        refine XQ.joined V2 ⟨_, hV2, (hnf.append (Flat.single (α := Bnd) rfl))⟩ ⟨rfl, trivial⟩ rfl (List.Perm.refl _)
    · skip
      refine XR.buildL [.agg x.cs.toArray] x.cs rfl rfl rfl Try.underlying26 el30 rfl (by simp) ⟨rfl, rfl, trivial⟩ rfl rfl (List.Sublist.refl _) (fun b12 => ?_)
      refine XR.buildL [] [] rfl rfl rfl Try.underlying26 el30 rfl (by simp) trivial rfl rfl (List.Sublist.cons _ (List.Sublist.refl _)) (fun b7 => ?_)
      refine XR.append (V := ⟨some (b7, #[]), 0, 0⟩) 0 rfl rfl rfl Try.underlying26 el30 rfl rfl (vec_zero b7 3) rfl (hnw _) (by simp only; omega) (by simp only; omega) ?_
      intro V1 hV1 hVl1
      simp only [Nat.zero_add] at hVl1
      refine ⟨.inr (List.Sublist.cons _ (List.Sublist.cons _ (List.Sublist.refl _))), ?_⟩
      refine XR.append (V := V1) 0 rfl rfl rfl Try.underlying26 el30 rfl rfl hV1 rfl (.slice Try.underlying26 (.inr (.inr ⟨b12, 0, rfl, fun j v hj => ⟨x.cs.toArray, 30, (0, 0), by simp, by simpa using hj⟩⟩)) rfl (by simp [Bnd.cs, Value.oneCell'])) (by omega) (by omega) ?_
      intro V2 hV2 _
      refine ⟨.inr (List.Sublist.cons _ (List.Sublist.cons _ (List.Sublist.refl _))), ?_⟩
      refine XR.rd rfl rfl rfl (bd28 (vs := [(0, _), (1, _)]) #[_, _] ⟨rfl, rfl, rfl, rfl, trivial⟩ rfl) ?_
      refine XR.store_agg (vs := [.int .i64 b.n, V2.val]) 2 rfl rfl z28 rfl rfl (by simp [Value.oneCell']) rfl (by simp) (.inl rfl) ?_
      refine XR.nil ?_
      refine XQ.perm (perm_take [1]) ?_
      refine XQ.dropn 1 ?_
      refine XQ.joined V2 ⟨_, hV2, (hnf.append (Flat.single (α := Bnd) rfl))⟩ ⟨rfl, trivial⟩ rfl (List.Perm.refl _)
  · skip
    obtain ⟨cs, hV, hfl⟩ := hq
    refine XQ.then_normal ?_
    refine XC.ret ?_
    refine XQ.give_vec (fun hb => ?_)
    refine XQ.done1ca [] 3 rfl k28 z28 rfl (WholeAt.of 0 rfl) rfl rfl (Vec.le_give hb) ?_
    obtain ⟨a9, c9, h91, h92, h93⟩ := (Vec.sl (e := 30) (α := Bnd) (by decide) hV hfl hb).2.ex
    exact ⟨rfl, a9, c9, congrArg (fun z => Value.agg #[Value.int .i64 b.n, z]) h91, h92, h93⟩

end Go.Proofs.Ytlgfpieokaegiaa
