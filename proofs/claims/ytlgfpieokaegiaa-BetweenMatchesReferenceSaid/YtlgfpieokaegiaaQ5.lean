/- Walks of layer 6: the law's bent sets of bounds. -/
import Derived.Test.YtlgfpieokaegiaaQ4
import Derived.Test.YtlgfpieokaegiaaP15
import Derived.Test.YtlgfpieokaegiaaB6
namespace Go.Proofs.Ytlgfpieokaegiaa
open Go.Xe

theorem flat_bnd_eq {I : Im} {cs : List Value} : ∀ {bs : List Bnd}, Flat I cs bs → cs = bndC bs := by
  intro bs h
  induction h with
  | nil => rfl
  | cons h1 _ ih => rw [ih, show _ = _ from h1]; simp [bndC]
theorem bent_any (b : Btw) (k n1 at_ : Int) (a : Option Addr) (cap : Nat) (I : Im) (hA : Arr I a b.bs) (hlen : b.bs.length ≤ 1000000) (hk : In64 k) (ha : In64 at_) : FC Try.prog 14 [.agg #[.int .i64 b.n, .slice a b.bs.length cap], .int .i64 k, .int .i64 n1, .int .i64 at_] I (fun u I' => ∃ c : Btw, c.bs.length ≤ b.bs.length + 1 ∧ BtwV I' u c) := by
  obtain ⟨ncs, hnf, hnw⟩ := News.arr (P := Try.prog) (tx := 26) (c := cap) Try.underlying26 hA
  refine FSo.intro (n := 64) Try.func14 rfl rfl rfl (fun K Lf => ?_)
  refine XC.seq ?_
  refine XC.region ?_
  refine XO.box_agg rfl rfl rfl (fun b4 => ?_)
  refine XO.alloc (cs := #[.int .i64 0, .slice none 0 0]) rfl rfl zo28 rfl (fun b8 => ?_)
  refine XO.nil ?_
  refine XQ.then_normal ?_
  refine XC.seq ?_
  refine XC.join (ι := Vec × Nat) (fun q => [(1, .int .i64 k), (2, .int .i64 n1), (3, .int .i64 at_), (8, .pointer (some ⟨b8, 0, none⟩)), (9, .pointer (some ⟨q.2, 0, none⟩))]) (fun q => I) (fun q => q.1.ent 30 :: some (q.2, .cells #[.int .i64 b.n, q.1.val] 28 (0, 0)) :: some (b8, .cells #[.int .i64 0, .slice none 0 0] 28 (0, 0)) :: some (b4, .cells #[.int .i64 b.n, .slice a b.bs.length cap] 28 (0, 0)) :: ([] ++ Lf)) (fun q => q.1.Is 3 (bndC b.bs)) ?_ (fun q hq => ?_)
  · skip
    refine XC.draw m_mixed (some 8) (.pure 0 (.pure 1 (.pure 3 (.pure 4 (.alt 2 (.alt 5 (.pure 6 (.eff 7 (.eff 8 (.done)))) (.eff 7 (.eff 5 (.pure 6 (.eff 8 (.done)))))) (.eff 7 (.eff 2 (.eff 5 (.pure 6 (.eff 8 (.done))))))))))) _ (by kernel_rfl) (List.Sublist.refl _) ?_
    refine XR.rd rfl rfl rfl (fa28_0 rfl) ?_
    refine XR.rd rfl rfl rfl (Reads.load_own k3 rfl (by first | exact OwnAt.of 0 rfl rfl | exact OwnAt.of 1 rfl rfl | exact OwnAt.of 2 rfl rfl | exact OwnAt.of 3 rfl rfl | exact OwnAt.of 4 rfl rfl | exact OwnAt.of 5 rfl rfl | exact OwnAt.of 6 rfl rfl | exact OwnAt.of 7 rfl rfl | exact OwnAt.of 8 rfl rfl)) ?_
    refine XR.rd rfl rfl rfl (fa28_1 rfl) ?_
    refine XR.rd rfl rfl rfl (Reads.load_own k26 rfl (by first | exact OwnAt.of 0 rfl rfl | exact OwnAt.of 1 rfl rfl | exact OwnAt.of 2 rfl rfl | exact OwnAt.of 3 rfl rfl | exact OwnAt.of 4 rfl rfl | exact OwnAt.of 5 rfl rfl | exact OwnAt.of 6 rfl rfl | exact OwnAt.of 7 rfl rfl | exact OwnAt.of 8 rfl rfl)) ?_
    refine XR.alt ?_ ?_
    · skip
      refine XR.buildL [] [] rfl rfl rfl Try.underlying26 el30 rfl (by simp) trivial rfl rfl (List.Sublist.refl _) (fun b13 => ?_)
      refine XR.alt ?_ ?_
      · skip
        refine XR.append (V := ⟨some (b13, #[]), 0, 0⟩) 0 rfl rfl rfl Try.underlying26 el30 rfl rfl (vec_zero b13 3) rfl (hnw _) (by simp only; omega) (by simp only; omega) ?_
        intro V1 hV1 hVl1
        simp only [Nat.zero_add] at hVl1
        refine ⟨.inr (List.Sublist.cons _ (List.Sublist.refl _)), ?_⟩
        refine XR.rd rfl rfl rfl (bd28 (vs := [(0, .int .i64 b.n), (1, V1.val)]) #[.int .i64 b.n, V1.val] ⟨rfl, rfl, rfl, rfl, trivial⟩ rfl) ?_
        refine XR.alloc (cs := #[.int .i64 0, .slice none 0 0]) rfl rfl rfl zo28 rfl (List.Sublist.cons _ (List.Sublist.refl _)) (fun b9 => ?_)
        refine XR.store_agg (vs := [.int .i64 b.n, V1.val]) 0 rfl rfl z28 rfl rfl (by simp [Value.oneCell']) rfl (by simp) (.inl rfl) ?_
        refine XR.nil ?_
        refine XQ.perm (perm_take [1]) ?_
        refine XQ.joined (V1, b9) (by rw [show ncs = bndC b.bs from flat_bnd_eq hnf] at hV1; simpa using hV1) ⟨rfl, rfl, rfl, rfl, rfl, trivial⟩ rfl (List.Perm.refl _)
      · skip
        refine XR.alloc (cs := #[.int .i64 0, .slice none 0 0]) rfl rfl rfl zo28 rfl (List.Sublist.cons _ (List.Sublist.refl _)) (fun b9 => ?_)
        refine XR.append (V := ⟨some (b13, #[]), 0, 0⟩) 1 rfl rfl rfl Try.underlying26 el30 rfl rfl (vec_zero b13 3) rfl (hnw _) (by simp only; omega) (by simp only; omega) ?_
        intro V1 hV1 hVl1
        simp only [Nat.zero_add] at hVl1
        refine ⟨.inr (List.Sublist.cons _ (List.Sublist.cons _ (List.Sublist.refl _))), ?_⟩
        refine XR.rd rfl rfl rfl (bd28 (vs := [(0, .int .i64 b.n), (1, V1.val)]) #[.int .i64 b.n, V1.val] ⟨rfl, rfl, rfl, rfl, trivial⟩ rfl) ?_
        refine XR.store_agg (vs := [.int .i64 b.n, V1.val]) 0 rfl rfl z28 rfl rfl (by simp [Value.oneCell']) rfl (by simp) (.inl rfl) ?_
        refine XR.nil ?_
        refine XQ.perm (perm_take [1]) ?_
        refine XQ.joined (V1, b9) (by rw [show ncs = bndC b.bs from flat_bnd_eq hnf] at hV1; simpa using hV1) ⟨rfl, rfl, rfl, rfl, rfl, trivial⟩ rfl (List.Perm.refl _)
    · skip
      refine XR.alloc (cs := #[.int .i64 0, .slice none 0 0]) rfl rfl rfl zo28 rfl (List.Sublist.refl _) (fun b9 => ?_)
      refine XR.buildL [] [] rfl rfl rfl Try.underlying26 el30 rfl (by simp) trivial rfl rfl (List.Sublist.cons _ (List.Sublist.refl _)) (fun b13 => ?_)
      refine XR.append (V := ⟨some (b13, #[]), 0, 0⟩) 0 rfl rfl rfl Try.underlying26 el30 rfl rfl (vec_zero b13 3) rfl (hnw _) (by simp only; omega) (by simp only; omega) ?_
      intro V1 hV1 hVl1
      simp only [Nat.zero_add] at hVl1
      refine ⟨.inr (List.Sublist.cons _ (List.Sublist.cons _ (List.Sublist.refl _))), ?_⟩
      refine XR.rd rfl rfl rfl (bd28 (vs := [(0, .int .i64 b.n), (1, V1.val)]) #[.int .i64 b.n, V1.val] ⟨rfl, rfl, rfl, rfl, trivial⟩ rfl) ?_
      refine XR.store_agg (vs := [.int .i64 b.n, V1.val]) 1 rfl rfl z28 rfl rfl (by simp [Value.oneCell']) rfl (by simp) (.inl rfl) ?_
      refine XR.nil ?_
      refine XQ.joined (V1, b9) (by rw [show ncs = bndC b.bs from flat_bnd_eq hnf] at hV1; simpa using hV1) ⟨rfl, rfl, rfl, rfl, rfl, trivial⟩ rfl (List.Perm.refl _)
  · skip
    obtain ⟨V, b9⟩ := q
    have hV : V.Is 3 (bndC b.bs) := hq
    have hVl : V.len = b.bs.length := by have := hV.len; rw [bndC_len] at this; omega
    simp only
    refine XQ.then_normal ?_
    refine XC.seq ?_
    refine XC.seq ?_
    refine XC.region ?_
    refine XO.rd rfl rfl rfl (fa28_1 rfl) ?_
    refine XO.rd rfl rfl rfl (Reads.load_own k26 rfl (by first | exact OwnAt.of 0 rfl rfl | exact OwnAt.of 1 rfl rfl | exact OwnAt.of 2 rfl rfl | exact OwnAt.of 3 rfl rfl | exact OwnAt.of 4 rfl rfl | exact OwnAt.of 5 rfl rfl | exact OwnAt.of 6 rfl rfl | exact OwnAt.of 7 rfl rfl | exact OwnAt.of 8 rfl rfl)) ?_
    refine XO.rd rfl rfl rfl (Reads.len_slice Try.underlying26 rfl) ?_
    refine XO.rd rfl rfl rfl (Reads.cmp rfl rfl rfl) ?_
    refine XO.nil ?_
    refine XQ.then_normal ?_
    refine XC.cond rfl (fun h1 => ?_) (fun h1 => ?_)
    · skip
      simp only [cmpInt, beq_iff_eq] at h1
      refine XC.seq ?_
      refine XC.region ?_
      refine XO.rd rfl rfl rfl (fa28_1 rfl) ?_
      refine XO.rd rfl rfl rfl (Reads.load_own k26 rfl (by first | exact OwnAt.of 0 rfl rfl | exact OwnAt.of 1 rfl rfl | exact OwnAt.of 2 rfl rfl | exact OwnAt.of 3 rfl rfl | exact OwnAt.of 4 rfl rfl | exact OwnAt.of 5 rfl rfl | exact OwnAt.of 6 rfl rfl | exact OwnAt.of 7 rfl rfl | exact OwnAt.of 8 rfl rfl)) ?_
      refine XO.rd rfl rfl rfl (Reads.move rfl) ?_
      refine XO.rd rfl rfl rfl (bd30 (vs := [(0, .int .i64 n1)]) #[.int .i64 n1, .int .i64 0, .int .i64 0] ⟨rfl, rfl, trivial⟩ rfl) ?_
      refine XO.buildL [.agg #[.int .i64 n1, .int .i64 0, .int .i64 0]] [.int .i64 n1, .int .i64 0, .int .i64 0] rfl rfl Try.underlying26 el30 rfl (by simp) ⟨rfl, rfl, trivial⟩ rfl rfl (fun bu => ?_)
      refine XO.append (V := V) (news := [.int .i64 n1, .int .i64 0, .int .i64 0]) 1 rfl rfl Try.underlying26 el30 rfl rfl hV rfl (.slice Try.underlying26 (.inr (.inr ⟨bu, 0, rfl, fun j v hj => ⟨#[.int .i64 n1, .int .i64 0, .int .i64 0], 30, (0, 0), by simp, by simpa using hj⟩⟩)) rfl (by simp [Value.oneCell'])) (by omega) (by omega) ?_
      intro V' hV' _
      have hV3 : V'.Is 3 (bndC (b.bs ++ [⟨n1, 0, 0⟩])) := by rw [bndC_append]; exact hV'
      refine XO.rd rfl rfl rfl (fa28_1 rfl) ?_
      refine XO.store 2 rfl z26 rfl rfl rfl rfl (by simp) ?_
      refine XO.nil ?_
      refine XQ.then_normal ?_
      refine XC.seq ?_
      refine XC.region ?_
      refine XO.rd rfl rfl rfl (Reads.load_whole k28 z28 rfl (by first | exact WholeAt.of 0 rfl | exact WholeAt.of 1 rfl | exact WholeAt.of 2 rfl | exact WholeAt.of 3 rfl | exact WholeAt.of 4 rfl | exact WholeAt.of 5 rfl | exact WholeAt.of 6 rfl | exact WholeAt.of 7 rfl | exact WholeAt.of 8 rfl) (by rfl)) ?_
      refine XO.store_agg (vs := [.int .i64 b.n, V'.val]) 3 rfl z28 rfl rfl (by simp [Value.oneCell']) rfl (by simp) ?_
      refine XO.nil ?_
      refine XQ.then_normal ?_
      refine XC.ret ?_
      refine XQ.then_ret ?_
      refine XQ.perm (perm_take [1]) ?_
      refine XQ.give_vec (fun hb => ?_)
      refine XQ.done1ca [] 4 rfl k28 z28 rfl (WholeAt.of 2 rfl) rfl rfl (Vec.le_give hb) ?_
      obtain ⟨a9, c9, h91, h92, h93⟩ := (Vec.sl (e := 30) (α := Bnd) (by decide) hV3 (flat_bnd _ _) hb).2.ex
      exact ⟨rfl, ⟨b.n, b.bs ++ [⟨n1, 0, 0⟩]⟩, by simp, a9, c9, congrArg (fun z => Value.agg #[Value.int .i64 b.n, z]) h91, h92, h93⟩
    · skip
      simp only [cmpInt, beq_eq_false_iff_ne] at h1
      have hpj := pickI_range (c := at_) (n := b.bs.length) (by omega)
      have hj : (pickI at_ b.bs.length).toNat < b.bs.length := by omega
      refine XC.skip ?_
      refine XQ.then_normal ?_
      refine XC.seq ?_
      refine XC.region ?_
      refine XO.rd rfl rfl rfl (Reads.move rfl) ?_
      refine XO.rd rfl rfl rfl (fa28_1 rfl) ?_
      refine XO.rd rfl rfl rfl (Reads.load_own k26 rfl (by first | exact OwnAt.of 0 rfl rfl | exact OwnAt.of 1 rfl rfl | exact OwnAt.of 2 rfl rfl | exact OwnAt.of 3 rfl rfl | exact OwnAt.of 4 rfl rfl | exact OwnAt.of 5 rfl rfl | exact OwnAt.of 6 rfl rfl | exact OwnAt.of 7 rfl rfl | exact OwnAt.of 8 rfl rfl)) ?_
      refine XO.rd rfl rfl rfl (Reads.len_slice Try.underlying26 rfl) ?_
      rw [hVl]
      refine XO.callp rfl rfl en38 (pickR_any at_ _ _ ha (by omega)) ⟨rfl, rfl, trivial⟩ ?_
      refine XO.rd rfl rfl rfl (Reads.assign rfl) ?_
      refine XO.nil ?_
      refine XQ.then_normal ?_
      refine XC.seq ?_
      refine XC.seq ?_
      refine XC.region ?_
      refine XO.rd rfl rfl rfl (Reads.move rfl) ?_
      refine XO.callp rfl rfl en38 (pickR_any k 4 _ hk (by decide)) ⟨rfl, rfl, trivial⟩ ?_
      refine XO.nil ?_
      refine XQ.then_normal ?_
      refine XC.join (ι := Vec × Int) (fun q => [(8, .pointer (some ⟨b8, 0, none⟩)), (9, .pointer (some ⟨b9, 0, none⟩))]) (fun q => I) (fun q => q.1.ent 30 :: some (b9, .cells #[.int .i64 q.2, q.1.val] 28 (0, 0)) :: some (b8, .cells #[.int .i64 0, .slice none 0 0] 28 (0, 0)) :: some (b4, .cells #[.int .i64 b.n, .slice a b.bs.length cap] 28 (0, 0)) :: ([] ++ Lf)) (fun q => ∃ bs : List Bnd, bs.length = b.bs.length ∧ q.1.Is 3 (bndC bs)) ?_ (fun q hq => ?_)
      · skip
        refine XC.block ?_
        refine XC.seq ?_
        refine XC.region ?_
        refine XO.rd rfl rfl rfl (Reads.cmp rfl rfl rfl) ?_
        refine XO.rd rfl rfl rfl (Reads.assign rfl) ?_
        refine XO.nil ?_
        refine XQ.then_normal ?_
        refine XC.cond rfl (fun h2 => ?_) (fun h2 => ?_)
        · skip
          refine XC.region ?_
          refine XO.rd rfl rfl rfl (Reads.move rfl) ?_
          refine XO.rd rfl rfl rfl (fa28_0 rfl) ?_
          refine XO.store 1 rfl z3 rfl rfl rfl rfl (by simp) ?_
          refine XO.nil ?_
          refine XQ.block_normal ?_
          refine XQ.joined (V, n1) ⟨b.bs, rfl, hV⟩ ⟨rfl, rfl, trivial⟩ rfl (List.Perm.refl _)
        · skip
          refine XC.seq ?_
          refine XC.region ?_
          refine XO.rd rfl rfl rfl (Reads.cmp rfl rfl rfl) ?_
          refine XO.rd rfl rfl rfl (Reads.assign rfl) ?_
          refine XO.nil ?_
          refine XQ.then_normal ?_
          refine XC.cond rfl (fun h3 => ?_) (fun h3 => ?_)
          · skip
            refine XC.region ?_
            refine XO.rd rfl rfl rfl (fa28_1 rfl) ?_
            refine XO.rd rfl rfl rfl (Reads.load_own k26 rfl (by first | exact OwnAt.of 0 rfl rfl | exact OwnAt.of 1 rfl rfl | exact OwnAt.of 2 rfl rfl | exact OwnAt.of 3 rfl rfl | exact OwnAt.of 4 rfl rfl | exact OwnAt.of 5 rfl rfl | exact OwnAt.of 6 rfl rfl | exact OwnAt.of 7 rfl rfl | exact OwnAt.of 8 rfl rfl)) ?_
            refine XO.rd rfl rfl rfl (Reads.move rfl) ?_
            refine XO.rd rfl rfl rfl (Reads.move rfl) ?_
            refine XO.rd rfl rfl rfl (Reads.index_slot (q := (pickI at_ b.bs.length).toNat * 3) Try.underlying26 z30 rfl rfl (by omega) (vec_isSomes hV (bndC_get b.bs hj).1) (by simp)) ?_
            refine XO.rd rfl rfl rfl (fs30_0 rfl (vec_addr hV (bndC_get b.bs hj).1)) ?_
            refine XO.store_vecs (V := V) (e := 30) (k := (pickI at_ b.bs.length).toNat * 3 + 0) 0 rfl z3 rfl rfl rfl hV rfl (bndC_get b.bs hj).1 ?_
            intro V' hV' hval
            rw [bndC_set b.bs (fun y => ⟨n1, y.to, y.mo⟩) hj (by decide) (fun y _ => by simp [Bnd.cs])] at hV'
            rw [← hval]
            refine XO.nil ?_
            refine XQ.block_normal ?_
            refine XQ.joined (V', b.n) ⟨b.bs.modify (pickI at_ b.bs.length).toNat (fun y => ⟨n1, y.to, y.mo⟩), by simp, hV'⟩ ⟨rfl, rfl, trivial⟩ rfl (List.Perm.refl _)
          · skip
            refine XC.seq ?_
            refine XC.region ?_
            refine XO.rd rfl rfl rfl (Reads.cmp rfl rfl rfl) ?_
            refine XO.rd rfl rfl rfl (Reads.assign rfl) ?_
            refine XO.nil ?_
            refine XQ.then_normal ?_
            refine XC.cond rfl (fun h4 => ?_) (fun h4 => ?_)
            · skip
              refine XC.region ?_
              refine XO.rd rfl rfl rfl (fa28_1 rfl) ?_
              refine XO.rd rfl rfl rfl (Reads.load_own k26 rfl (by first | exact OwnAt.of 0 rfl rfl | exact OwnAt.of 1 rfl rfl | exact OwnAt.of 2 rfl rfl | exact OwnAt.of 3 rfl rfl | exact OwnAt.of 4 rfl rfl | exact OwnAt.of 5 rfl rfl | exact OwnAt.of 6 rfl rfl | exact OwnAt.of 7 rfl rfl | exact OwnAt.of 8 rfl rfl)) ?_
              refine XO.rd rfl rfl rfl (Reads.move rfl) ?_
              refine XO.rd rfl rfl rfl (Reads.move rfl) ?_
              refine XO.rd rfl rfl rfl (Reads.index_slot (q := (pickI at_ b.bs.length).toNat * 3) Try.underlying26 z30 rfl rfl (by omega) (vec_isSomes hV (bndC_get b.bs hj).1) (by simp)) ?_
              refine XO.rd rfl rfl rfl (fs30_1 rfl (vec_addr hV (bndC_get b.bs hj).1)) ?_
              refine XO.store_vecs (V := V) (e := 30) (k := (pickI at_ b.bs.length).toNat * 3 + 1) 0 rfl z3 rfl rfl rfl hV rfl (bndC_get b.bs hj).2.1 ?_
              intro V' hV' hval
              rw [bndC_set b.bs (fun y => ⟨y.fr, n1, y.mo⟩) hj (by decide) (fun y _ => by simp [Bnd.cs])] at hV'
              rw [← hval]
              refine XO.nil ?_
              refine XQ.block_normal ?_
              refine XQ.joined (V', b.n) ⟨b.bs.modify (pickI at_ b.bs.length).toNat (fun y => ⟨y.fr, n1, y.mo⟩), by simp, hV'⟩ ⟨rfl, rfl, trivial⟩ rfl (List.Perm.refl _)
            · skip
              refine XC.region ?_
              refine XO.rd rfl rfl rfl (fa28_1 rfl) ?_
              refine XO.rd rfl rfl rfl (Reads.load_own k26 rfl (by first | exact OwnAt.of 0 rfl rfl | exact OwnAt.of 1 rfl rfl | exact OwnAt.of 2 rfl rfl | exact OwnAt.of 3 rfl rfl | exact OwnAt.of 4 rfl rfl | exact OwnAt.of 5 rfl rfl | exact OwnAt.of 6 rfl rfl | exact OwnAt.of 7 rfl rfl | exact OwnAt.of 8 rfl rfl)) ?_
              refine XO.rd rfl rfl rfl (Reads.move rfl) ?_
              refine XO.rd rfl rfl rfl (Reads.move rfl) ?_
              refine XO.rd rfl rfl rfl (Reads.index_slot (q := (pickI at_ b.bs.length).toNat * 3) Try.underlying26 z30 rfl rfl (by omega) (vec_isSomes hV (bndC_get b.bs hj).1) (by simp)) ?_
              refine XO.rd rfl rfl rfl (fs30_2 rfl (vec_addr hV (bndC_get b.bs hj).1)) ?_
              refine XO.store_vecs (V := V) (e := 30) (k := (pickI at_ b.bs.length).toNat * 3 + 2) 0 rfl z3 rfl rfl rfl hV rfl (bndC_get b.bs hj).2.2 ?_
              intro V' hV' hval
              rw [bndC_set b.bs (fun y => ⟨y.fr, y.to, n1⟩) hj (by decide) (fun y _ => by simp [Bnd.cs])] at hV'
              rw [← hval]
              refine XO.nil ?_
              refine XQ.block_normal ?_
              refine XQ.joined (V', b.n) ⟨b.bs.modify (pickI at_ b.bs.length).toNat (fun y => ⟨y.fr, y.to, n1⟩), by simp, hV'⟩ ⟨rfl, rfl, trivial⟩ rfl (List.Perm.refl _)
      · skip
        obtain ⟨V2, n2⟩ := q
        obtain ⟨bs2, hl2, hV2⟩ := hq
        simp only at hV2 ⊢
        refine XQ.then_normal ?_
        refine XC.seq ?_
        refine XC.region ?_
        refine XO.rd rfl rfl rfl (Reads.load_whole k28 z28 rfl (by first | exact WholeAt.of 0 rfl | exact WholeAt.of 1 rfl | exact WholeAt.of 2 rfl | exact WholeAt.of 3 rfl | exact WholeAt.of 4 rfl | exact WholeAt.of 5 rfl | exact WholeAt.of 6 rfl | exact WholeAt.of 7 rfl | exact WholeAt.of 8 rfl) (by rfl)) ?_
        refine XO.store_agg (vs := [.int .i64 n2, V2.val]) 2 rfl z28 rfl rfl (by simp [Value.oneCell']) rfl (by simp) ?_
        refine XO.nil ?_
        refine XQ.then_normal ?_
        refine XC.ret ?_
        refine XQ.give_vec (fun hb => ?_)
        refine XQ.done1ca [] 3 rfl k28 z28 rfl (WholeAt.of 1 rfl) rfl rfl (Vec.le_give hb) ?_
        obtain ⟨a9, c9, h91, h92, h93⟩ := (Vec.sl (e := 30) (α := Bnd) (by decide) hV2 (flat_bnd _ _) hb).2.ex
        exact ⟨rfl, ⟨n2, bs2⟩, by simp only; omega, a9, c9, congrArg (fun z => Value.agg #[Value.int .i64 n2, z]) h91, h92, h93⟩

theorem few_any (b : Btw) (a : Option Addr) (cap : Nat) (I : Im) (hcap : b.bs.length ≤ cap) (h63 : b.bs.length ≤ 9223372036854775807) : FC Try.prog 15 [.agg #[.int .i64 b.n, .slice a b.bs.length cap]] I (fun u I' => u = .agg #[.int .i64 b.n, .slice a (b.bs.take 6).length cap] ∧ I' = I) := by
  refine FSo.intro (n := 13) Try.func15 rfl rfl rfl (fun K Lf => ?_)
  refine XC.seq ?_
  refine XC.region ?_
  refine XO.box_agg rfl rfl rfl (fun b1 => ?_)
  refine XO.alloc (cs := #[.int .i64 0, .slice none 0 0]) rfl rfl zo28 rfl (fun b2 => ?_)
  refine XO.nil ?_
  refine XQ.then_normal ?_
  refine XC.seq ?_
  refine XC.draw m_mixed (some 10) (.pure 0 (.pure 1 (.pure 2 (.pure 3 (.pure 4 (.pure 5 (.pure 6 (.pure 7 (.pure 8 (.pure 9 (.eff 10 (.done)))))))))))) _ (by kernel_rfl) (List.Sublist.refl _) ?_
  refine XR.rd rfl rfl rfl (fa28_0 rfl) ?_
  refine XR.rd rfl rfl rfl (Reads.load_own k3 rfl (by first | exact OwnAt.of 0 rfl rfl | exact OwnAt.of 1 rfl rfl | exact OwnAt.of 2 rfl rfl | exact OwnAt.of 3 rfl rfl)) ?_
  refine XR.rd rfl rfl rfl (fa28_1 rfl) ?_
  refine XR.rd rfl rfl rfl (Reads.load_own k26 rfl (by first | exact OwnAt.of 0 rfl rfl | exact OwnAt.of 1 rfl rfl | exact OwnAt.of 2 rfl rfl | exact OwnAt.of 3 rfl rfl)) ?_
  refine XR.rd rfl rfl rfl (fa28_1 rfl) ?_
  refine XR.rd rfl rfl rfl (Reads.load_own k26 rfl (by first | exact OwnAt.of 0 rfl rfl | exact OwnAt.of 1 rfl rfl | exact OwnAt.of 2 rfl rfl | exact OwnAt.of 3 rfl rfl)) ?_
  refine XR.rd rfl rfl rfl (Reads.len_slice Try.underlying26 rfl) ?_
  refine XR.rd rfl rfl rfl (Reads.min rfl rfl) ?_
  refine XR.rd rfl rfl rfl (Reads.slice_to Try.underlying26 z30 rfl rfl (by omega)) ?_
  rw [show (min (b.bs.length : Int) 6).toNat = (b.bs.take 6).length by rw [List.length_take]; omega]
  refine XR.rd rfl rfl rfl (bd28 (vs := [(0, .int .i64 b.n), (1, .slice a (b.bs.take 6).length cap)]) #[.int .i64 b.n, .slice a (b.bs.take 6).length cap] ⟨rfl, rfl, rfl, rfl, trivial⟩ rfl) ?_
  refine XR.store_agg (vs := [.int .i64 b.n, .slice a (b.bs.take 6).length cap]) 0 rfl rfl z28 rfl rfl (by simp [Value.oneCell']) rfl (by simp) (.inl rfl) ?_
  refine XR.nil ?_
  refine XQ.then_normal ?_
  refine XC.ret ?_
  refine XQ.done1ca [] 2 rfl k28 z28 rfl (WholeAt.of 0 rfl) rfl rfl (Im.le_refl _) ?_
  exact ⟨rfl, rfl, rfl⟩

end Go.Proofs.Ytlgfpieokaegiaa
