/- Walks of layer 6: BetweenMirrors. -/
import Derived.Test.YtlgfpieokaegiaaB7
import Derived.Test.YtlgfpieokaegiaaP3
namespace Go.Proofs.Ytlgfpieokaegiaa
open Go.Xe

theorem mirrors_any (x : Nums) (ah ab ay : Option Addr) (ch cb cy : Nat) (y : List Int) (c : Int) (I : Im) (hx : x.Ok) (hH : Arr I ah x.hidden) (hB : Arr I ab x.bnds) (hY : Arr I ay y) (hyk : ∀ v ∈ y, In64 v) (hcb : In64 c) : FC Try.prog 9 [.agg #[.int .i64 x.n, .slice ah x.hidden.length ch, .slice ab x.bnds.length cb, .int .i64 x.miss], .slice ay y.length cy, .int .i64 c] I (fun u I' => u = .bool true) := by
  have hI := Im.le_refl I
  have hN := x.hidN_range
  have hsm := x.made_small
  have hok := x.made_ok
  have hml := x.made_len
  have hmsm := hsm.mir
  have hmok : x.made.mir.ok = true := hmsm.ok (by simp [Btw.mir]; omega)
  have hpc := pickI_range (c := c) (n := 1000000) (by omega)
  have hmx := mixP_range x y
  have ha0 := hsm.allowed (p := mixP x.hidF y) hok (fun i _ => by have := hmx i; omega)
  have ha1 := hsm.allowed (p := moveP (mixP x.hidF y) (pickI c 1000000 - 500000)) hok (fun i _ => by have := hmx i; unfold moveP; omega)
  have ha2 := hmsm.allowed (p := fun i => -mixP x.hidF y i) hmok (fun i _ => by have := hmx i; omega)
  have hal1 : x.made.allowed ((List.range x.hidN).map (moveP (mixP x.hidF y) (pickI c 1000000 - 500000))) = x.made.allowed ((List.range x.hidN).map (mixP x.hidF y)) := by rw [Bool.eq_iff_iff, ha0, ha1, Sit.move]
  have hal2 : x.made.mir.allowed ((List.range x.hidN).map fun i => -mixP x.hidF y i) = x.made.allowed ((List.range x.hidN).map (mixP x.hidF y)) := by rw [Bool.eq_iff_iff, ha0, ha2, Sit.turn]
  have hnf : x.made.dist.fine x.hidN = false → x.made.allowed ((List.range x.hidN).map (mixP x.hidF y)) = false := fun hf => by
    rw [Bool.eq_false_iff]; intro hh
    have := (hsm.sit (ha0.1 hh) (fun i _ => by have := hmx i; omega)).1
    rw [hf] at this; cases this
  generalize hIS : x.made.allowed ((List.range x.hidN).map (mixP x.hidF y)) = is at hal1 hal2 hnf
  refine FSo.intro (n := 201) Try.func9 rfl rfl rfl (fun K Lf => ?_)
  refine XC.seq ?_
  refine XC.region ?_
  refine XO.box_agg rfl rfl rfl (fun b3 => ?_)
  refine XO.rd rfl rfl rfl (Reads.assign rfl) ?_
  refine XO.nil ?_
  refine XQ.then_normal ?_
  refine XC.seq ?_
  refine XC.seq ?_
  refine XC.region ?_
  refine XO.call rfl rfl en10 (sane_any _) trivial ?_
  rintro u J34 hle34 hr
  replace hI := Im.le_trans hI hle34
  replace hH := hH.mono hle34
  replace hB := hB.mono hle34
  replace hY := hY.mono hle34
  subst hr
  refine XO.rd rfl rfl rfl (Reads.not rfl) ?_
  refine XO.nil ?_
  refine XQ.then_normal ?_
  refine XC.cond rfl (fun hx => by cases hx) (fun _ => ?_)
  refine XC.skip ?_
  refine XQ.then_normal ?_
  refine XC.seq ?_
  refine XC.region ?_
  refine XO.rd rfl rfl rfl (Reads.load_whole k25 z25 rfl (by first | exact WholeAt.of 0 rfl | exact WholeAt.of 1 rfl | exact WholeAt.of 2 rfl | exact WholeAt.of 3 rfl | exact WholeAt.of 4 rfl | exact WholeAt.of 5 rfl | exact WholeAt.of 6 rfl | exact WholeAt.of 7 rfl | exact WholeAt.of 8 rfl) (by rfl)) ?_
  refine XO.call rfl rfl en12 (made_any x ah ab ch cb _ hx hH hB) ⟨rfl, trivial⟩ ?_
  rintro u J35 hle35 hr
  replace hI := Im.le_trans hI hle35
  replace hH := hH.mono hle35
  replace hB := hB.mono hle35
  replace hY := hY.mono hle35
  obtain ⟨a, cap, rfl, hcap, hA⟩ := hr
  refine XO.alloc (cs := #[.int .i64 0, .slice none 0 0]) rfl rfl zo28 rfl (fun b7 => ?_)
  refine XO.store_agg (vs := [.int .i64 x.made.n, .slice a x.made.bs.length cap]) 0 rfl z28 rfl rfl (by simp [Value.oneCell']) rfl (by simp) ?_
  refine XO.nil ?_
  refine XQ.then_normal ?_
  refine XC.seq ?_
  refine XC.region ?_
  refine XO.rd rfl rfl rfl (fa28_0 rfl) ?_
  refine XO.rd rfl rfl rfl (Reads.load_own k3 rfl (by first | exact OwnAt.of 0 rfl rfl | exact OwnAt.of 1 rfl rfl | exact OwnAt.of 2 rfl rfl | exact OwnAt.of 3 rfl rfl | exact OwnAt.of 4 rfl rfl | exact OwnAt.of 5 rfl rfl | exact OwnAt.of 6 rfl rfl | exact OwnAt.of 7 rfl rfl | exact OwnAt.of 8 rfl rfl)) ?_
  refine XO.rd rfl rfl rfl (bd28 (vs := [(0, _)]) #[_, .slice none 0 0] ⟨rfl, rfl, trivial⟩ rfl) ?_
  refine XO.alloc (cs := #[.int .i64 0, .slice none 0 0]) rfl rfl zo28 rfl (fun b8 => ?_)
  refine XO.store_agg (vs := [.int .i64 x.made.n, .slice none 0 0]) 0 rfl z28 rfl rfl (by simp [Value.oneCell']) rfl (by simp) ?_
  refine XO.nil ?_
  refine XQ.then_normal ?_
  refine XC.seq ?_
  refine XC.seq ?_
  refine XC.region ?_
  refine XO.rd rfl rfl rfl (Reads.assign rfl) ?_
  refine XO.nil ?_
  refine XQ.then_normal ?_
  refine XC.join (ι := Vec) (fun q => [(1, .slice ay y.length cy), (2, .int .i64 c), (3, .pointer (some ⟨b3, 0, none⟩)), (7, .pointer (some ⟨b7, 0, none⟩)), (8, .pointer (some ⟨b8, 0, none⟩))]) (fun q => J35) (fun q => some (b8, .cells #[.int .i64 x.made.n, q.val] 28 (0, 0)) :: q.ent 30 :: some (b7, .cells #[.int .i64 x.made.n, .slice a x.made.bs.length cap] 28 (0, 0)) :: some (b3, .cells #[.int .i64 x.n, .slice ah x.hidden.length ch, .slice ab x.bnds.length cb, .int .i64 x.miss] 25 (0, 0)) :: ([] ++ Lf)) (fun q => q.Is 3 (bndC (x.made.bs.map Bnd.mir))) ?_ (fun q hq => ?_)
  · skip
    refine XC.block ?_
    refine XC.vec0 30 ?_
    refine XC.loop (ι := Nat × Vec) (fun q => [(1, .slice ay y.length cy), (2, .int .i64 c), (3, .pointer (some ⟨b3, 0, none⟩)), (7, .pointer (some ⟨b7, 0, none⟩)), (8, .pointer (some ⟨b8, 0, none⟩)), (9, .int .i64 q.1)]) (fun q => J35) (fun q => some (b8, .cells #[.int .i64 x.made.n, q.2.val] 28 (0, 0)) :: q.2.ent 30 :: some (b7, .cells #[.int .i64 x.made.n, .slice a x.made.bs.length cap] 28 (0, 0)) :: some (b3, .cells #[.int .i64 x.n, .slice ah x.hidden.length ch, .slice ab x.bnds.length cb, .int .i64 x.miss] 25 (0, 0)) :: ([] ++ Lf)) (fun q => q.1 ≤ x.made.bs.length ∧ q.2.Is 3 (bndC ((x.made.bs.take q.1).map Bnd.mir))) (fun q => x.made.bs.length - q.1) (0, Vec.nil) ⟨Nat.zero_le _, by simpa [bndC] using Vec.nil_is 3⟩ ⟨rfl, rfl, rfl, rfl, rfl, rfl, trivial⟩ rfl (perm_take [1]) (fun q hq => ?_)
    obtain ⟨k, V⟩ := q
    obtain ⟨hk1, hV⟩ := hq
    simp only at hk1 hV ⊢
    have hVl : V.len = k := by have := hV.len; rw [bndC_len] at this; simp at this; omega
    refine XC.seq ?_
    refine XC.seq ?_
    refine XC.region ?_
    refine XO.rd rfl rfl rfl (Reads.move rfl) ?_
    refine XO.rd rfl rfl rfl (fa28_1 rfl) ?_
    refine XO.rd rfl rfl rfl (Reads.load_own k26 rfl (by first | exact OwnAt.of 0 rfl rfl | exact OwnAt.of 1 rfl rfl | exact OwnAt.of 2 rfl rfl | exact OwnAt.of 3 rfl rfl | exact OwnAt.of 4 rfl rfl | exact OwnAt.of 5 rfl rfl | exact OwnAt.of 6 rfl rfl | exact OwnAt.of 7 rfl rfl | exact OwnAt.of 8 rfl rfl)) ?_
    refine XO.rd rfl rfl rfl (Reads.len_slice Try.underlying26 rfl) ?_
    refine XO.rd rfl rfl rfl (Reads.cmp rfl rfl rfl) ?_
    refine XO.nil ?_
    refine XQ.then_normal ?_
    refine XC.cond rfl (fun h1 => ?_) (fun h1 => ?_)
    · skip
      simp only [cmpInt, decide_eq_true_eq] at h1
      have hk3 : k < x.made.bs.length := by omega
      refine XC.skip ?_
      refine XQ.then_normal ?_
      refine XC.seq ?_
      refine XC.block ?_
      refine XC.draw m_mixed (some 24) (.pure 0 (.pure 1 (.pure 2 (.pure 3 (.pure 4 (.pure 5 (.pure 6 (.pure 7 (.pure 8 (.pure 9 (.pure 10 (.pure 11 (.pure 12 (.pure 13 (.pure 14 (.pure 15 (.pure 16 (.pure 17 (.pure 18 (.pure 19 (.pure 20 (.eff 21 (.eff 22 (.pure 23 (.eff 24 (.done)))))))))))))))))))))))))) [some (b8, .cells #[.int .i64 x.made.n, V.val] 28 (0, 0)), some (b7, .cells #[.int .i64 x.made.n, .slice a x.made.bs.length cap] 28 (0, 0))] (by kernel_rfl) (List.Sublist.cons_cons _ (List.Sublist.cons _ (List.Sublist.cons_cons _ (List.nil_sublist _)))) ?_
      refine XR.rd rfl rfl rfl (fa28_1 rfl) ?_
      refine XR.rd rfl rfl rfl (Reads.load_own k26 rfl (by first | exact OwnAt.of 0 rfl rfl | exact OwnAt.of 1 rfl rfl | exact OwnAt.of 2 rfl rfl | exact OwnAt.of 3 rfl rfl | exact OwnAt.of 4 rfl rfl | exact OwnAt.of 5 rfl rfl | exact OwnAt.of 6 rfl rfl | exact OwnAt.of 7 rfl rfl | exact OwnAt.of 8 rfl rfl)) ?_
      refine XR.rd rfl rfl rfl (fa28_1 rfl) ?_
      refine XR.rd rfl rfl rfl (Reads.load_own k26 rfl (by first | exact OwnAt.of 0 rfl rfl | exact OwnAt.of 1 rfl rfl | exact OwnAt.of 2 rfl rfl | exact OwnAt.of 3 rfl rfl | exact OwnAt.of 4 rfl rfl | exact OwnAt.of 5 rfl rfl | exact OwnAt.of 6 rfl rfl | exact OwnAt.of 7 rfl rfl | exact OwnAt.of 8 rfl rfl)) ?_
      refine XR.rd rfl rfl rfl (Reads.move rfl) ?_
      refine XR.rd rfl rfl rfl (Reads.index_slot (q := k * 3) Try.underlying26 z30 rfl rfl (by omega) (hA.isSome (by decide) (by omega)) (by simp)) ?_
      refine XR.rd rfl rfl rfl (fs30_1 rfl (hA.addr (by decide) (by omega))) ?_
      refine XR.rd rfl rfl rfl (Reads.load_at k3 rfl (hA.bnd hk3 1 _ rfl)) ?_
      refine XR.rd rfl rfl rfl (fa28_1 rfl) ?_
      refine XR.rd rfl rfl rfl (Reads.load_own k26 rfl (by first | exact OwnAt.of 0 rfl rfl | exact OwnAt.of 1 rfl rfl | exact OwnAt.of 2 rfl rfl | exact OwnAt.of 3 rfl rfl | exact OwnAt.of 4 rfl rfl | exact OwnAt.of 5 rfl rfl | exact OwnAt.of 6 rfl rfl | exact OwnAt.of 7 rfl rfl | exact OwnAt.of 8 rfl rfl)) ?_
      refine XR.rd rfl rfl rfl (Reads.move rfl) ?_
      refine XR.rd rfl rfl rfl (Reads.index_slot (q := k * 3) Try.underlying26 z30 rfl rfl (by omega) (hA.isSome (by decide) (by omega)) (by simp)) ?_
      refine XR.rd rfl rfl rfl (fs30_0 rfl (hA.addr (by decide) (by omega))) ?_
      refine XR.rd rfl rfl rfl (Reads.load_at k3 rfl (hA.bnd hk3 0 _ rfl)) ?_
      refine XR.rd rfl rfl rfl (fa28_1 rfl) ?_
      refine XR.rd rfl rfl rfl (Reads.load_own k26 rfl (by first | exact OwnAt.of 0 rfl rfl | exact OwnAt.of 1 rfl rfl | exact OwnAt.of 2 rfl rfl | exact OwnAt.of 3 rfl rfl | exact OwnAt.of 4 rfl rfl | exact OwnAt.of 5 rfl rfl | exact OwnAt.of 6 rfl rfl | exact OwnAt.of 7 rfl rfl | exact OwnAt.of 8 rfl rfl)) ?_
      refine XR.rd rfl rfl rfl (Reads.move rfl) ?_
      refine XR.rd rfl rfl rfl (Reads.index_slot (q := k * 3) Try.underlying26 z30 rfl rfl (by omega) (hA.isSome (by decide) (by omega)) (by simp)) ?_
      refine XR.rd rfl rfl rfl (fs30_2 rfl (hA.addr (by decide) (by omega))) ?_
      refine XR.rd rfl rfl rfl (Reads.load_at k3 rfl (hA.bnd hk3 2 _ rfl)) ?_
      refine XR.rd rfl rfl rfl (bd30 (vs := [(0, _), (1, _), (2, _)]) #[_, _, _] ⟨rfl, rfl, rfl, rfl, rfl, rfl, trivial⟩ rfl) ?_
      refine XR.buildL [.agg ((Bnd.mir x.made.bs[k]).cs.toArray)] (Bnd.mir x.made.bs[k]).cs rfl rfl rfl Try.underlying26 el30 rfl (by simp) ⟨rfl, rfl, trivial⟩ rfl rfl (List.Sublist.cons_cons _ (List.Sublist.cons _ (List.Sublist.cons_cons _ (List.nil_sublist _)))) (fun bu => ?_)
      refine XR.append (V := V) 2 rfl rfl rfl Try.underlying26 el30 rfl rfl hV rfl (.slice Try.underlying26 (.inr (.inr ⟨bu, 0, rfl, fun j v hj => ⟨((Bnd.mir x.made.bs[k]).cs.toArray), 30, (0, 0), by simp, by simpa using hj⟩⟩)) rfl (by simp [Bnd.cs, Value.oneCell'])) (by omega) (by omega) ?_
      intro V' hV' _
      rw [← bndC_map_succ Bnd.mir x.made.bs hk3] at hV'
      refine ⟨.inr (List.Sublist.cons _ (List.Sublist.cons_cons _ (List.Sublist.cons _ (List.Sublist.cons_cons _ (List.nil_sublist _))))), ?_⟩
      refine XR.rd rfl rfl rfl (fa28_1 rfl) ?_
      refine XR.store 1 rfl rfl z26 rfl rfl rfl rfl (by simp) (.inl rfl) ?_
      refine XR.nil ?_
      refine XQ.block_normal ?_
      refine XQ.then_normal ?_
      refine XC.region ?_
      refine XO.rd rfl rfl rfl (Reads.move rfl) ?_
      refine XO.rd rfl rfl rfl (Reads.add rfl rfl (by omega)) ?_
      refine XO.rd rfl rfl rfl (Reads.assign rfl) ?_
      refine XO.nil ?_
      refine XQ.dropn 1 ?_
      refine XQ.back (k + 1, V') ⟨by simp only; omega, hV'⟩ (by simp only; omega) ⟨rfl, rfl, rfl, rfl, rfl, rfl, trivial⟩ rfl (List.Perm.refl _)
    · skip
      simp only [cmpInt, decide_eq_false_iff_not] at h1
      rw [List.take_of_length_le (by omega)] at hV
      refine XC.exit ?_
      refine XQ.then_exit ?_
      refine XQ.then_exit ?_
      refine XQ.block_exit ?_
      refine XQ.joined V hV ⟨rfl, rfl, rfl, rfl, rfl, trivial⟩ rfl (List.Perm.refl _)
  · skip
    obtain ⟨Vm, rfl⟩ : ∃ Vm, Vm = q := ⟨_, rfl⟩
    have hVm := hq
    clear hq
    have hVml : Vm.len = x.made.bs.length := by have := hVm.len; rw [bndC_len] at this; simp at this; omega
    have hmlen : x.made.mir.bs.length = Vm.len := by simp [Btw.mir, hVml]
    refine XQ.then_normal ?_
    refine XC.seq ?_
    refine XC.region ?_
    refine XO.perm (perm_take [1]) ?_
    refine XO.vec_done (α := Bnd) (by decide) hVm (flat_bnd _ x.made.mir.bs) (fun J36 hle36 hM => ?_)
    replace hI := Im.le_trans hI hle36
    replace hH := hH.mono hle36
    replace hB := hB.mono hle36
    replace hY := hY.mono hle36
    replace hA := hA.mono hle36
    refine XO.rd rfl rfl rfl (Reads.load_whole k25 z25 rfl (WholeAt.of 2 rfl) (by rfl)) ?_
    refine XO.callo (vs := [_]) (L1 := []) rfl rfl rfl en26 ⟨rfl, trivial⟩ (hiddenO_any x ah ab ch cb _ hx hH hB) (List.Perm.refl _) ?_
    rintro v' J' L' _ ⟨Vh, rfl, hJ', rfl, hVh⟩
    replace hJ' := hJ'.symm
    subst hJ'
    have hvl0 := row_len hVh
    refine XO.rd rfl rfl rfl (Reads.assign rfl) ?_
    refine XO.nil ?_
    refine XQ.then_normal ?_
    refine XC.seq ?_
    refine XC.seq ?_
    refine XC.region ?_
    refine XO.rd rfl rfl rfl (Reads.assign rfl) ?_
    refine XO.nil ?_
    refine XQ.then_normal ?_
    refine XC.join (ι := Vec) (fun q => [(2, .int .i64 c), (7, .pointer (some ⟨b7, 0, none⟩)), (8, .pointer (some ⟨b8, 0, none⟩)), (10, q.val)]) (fun q => J36) (fun q => q.ent 3 :: some (b8, .cells #[.int .i64 x.made.n, Vm.val] 28 (0, 0)) :: some (b7, .cells #[.int .i64 x.made.n, .slice a x.made.bs.length cap] 28 (0, 0)) :: some (b3, .cells #[.int .i64 x.n, .slice ah x.hidden.length ch, .slice ab x.bnds.length cb, .int .i64 x.miss] 25 (0, 0)) :: ([] ++ Lf)) (fun q => q.Is 1 (rowC x.hidN (mixP x.hidF y))) ?_ (fun q hq => ?_)
    · skip
      refine XC.block ?_
      refine XC.loop (ι := Nat × Vec) (fun q => [(1, .slice ay y.length cy), (2, .int .i64 c), (7, .pointer (some ⟨b7, 0, none⟩)), (8, .pointer (some ⟨b8, 0, none⟩)), (10, q.2.val), (11, .int .i64 q.1)]) (fun q => J36) (fun q => q.2.ent 3 :: some (b8, .cells #[.int .i64 x.made.n, Vm.val] 28 (0, 0)) :: some (b7, .cells #[.int .i64 x.made.n, .slice a x.made.bs.length cap] 28 (0, 0)) :: some (b3, .cells #[.int .i64 x.n, .slice ah x.hidden.length ch, .slice ab x.bnds.length cb, .int .i64 x.miss] 25 (0, 0)) :: ([] ++ Lf)) (fun q => q.1 ≤ x.hidN ∧ q.2.Is 1 (rowC x.hidN (fun j => if j < q.1 then mixP x.hidF y j else x.hidF j))) (fun q => x.hidN - q.1) (0, Vh) ⟨Nat.zero_le _, by simpa using hVh⟩ ⟨rfl, rfl, rfl, rfl, rfl, rfl, trivial⟩ rfl (List.Perm.refl _) (fun q hq => ?_)
      clear hVh hvl0 Vh
      obtain ⟨k, V⟩ := q
      obtain ⟨hk1, hV⟩ := hq
      simp only at hk1 hV ⊢
      have hVl := row_len hV
      refine XC.seq ?_
      refine XC.seq ?_
      refine XC.region ?_
      refine XO.rd rfl rfl rfl (Reads.move rfl) ?_
      refine XO.rd rfl rfl rfl (Reads.move rfl) ?_
      refine XO.rd rfl rfl rfl (Reads.len_slice Try.underlying22 rfl) ?_
      rw [hVl]
      refine XO.rd rfl rfl rfl (Reads.cmp rfl rfl rfl) ?_
      refine XO.rd rfl rfl rfl (Reads.move rfl) ?_
      refine XO.split (d := 66) rfl (fun h2 => ?_) (fun h2 => ?_)
      · skip
        simp only [cmpInt, decide_eq_true_eq] at h2
        have hkN : k < x.hidN := by omega
        refine XO.rd (wg rfl rfl rfl) rfl rfl (Reads.move rfl) ?_
        refine XO.rd (wg rfl rfl rfl) rfl rfl (Reads.move rfl) ?_
        refine XO.rd (wg rfl rfl rfl) rfl rfl (Reads.len_slice Try.underlying22 rfl) ?_
        refine XO.rd (wg rfl rfl rfl) rfl rfl (Reads.cmp rfl rfl rfl) ?_
        refine XO.rd rfl rfl rfl (Reads.pick_true rfl rfl) ?_
        refine XO.nil ?_
        refine XQ.then_normal ?_
        refine XC.cond rfl (fun h3 => ?_) (fun h3 => ?_)
        · skip
          simp only [cmpInt, decide_eq_true_eq] at h3
          have hk3 : k < y.length := by omega
          have hfk := x.hidF_range k
          have hpk := pickI_range (c := y[k]) (n := 21) (by omega)
          refine XC.skip ?_
          refine XQ.then_normal ?_
          refine XC.seq ?_
          refine XC.block ?_
          refine XC.draw m_mixed (some 14) (.pure 0 (.pure 1 (.pure 2 (.pure 3 (.pure 4 (.pure 5 (.pure 6 (.pure 7 (.pure 8 (.pure 9 (.eff 10 (.pure 11 (.pure 12 (.pure 13 (.eff 14 (.done)))))))))))))))) _ (by kernel_rfl) (List.Sublist.refl _) ?_
          refine XR.rd rfl rfl rfl (Reads.move rfl) ?_
          refine XR.rd rfl rfl rfl (Reads.move rfl) ?_
          refine XR.rd rfl rfl rfl (Reads.move rfl) ?_
          refine XR.rd rfl rfl rfl (Reads.move rfl) ?_
          refine XR.rd rfl rfl rfl (Reads.index_slot (q := k) Try.underlying22 z3 rfl rfl (by omega) (row_some hV (by omega)) (by simp)) ?_
          refine XR.rd rfl rfl rfl (Reads.load_vecq (e := 3) (v := .int .i64 (x.hidF k)) k3 rfl hV (List.mem_cons_self ..) (by simp [rowC, hkN])) ?_
          refine XR.rd rfl rfl rfl (Reads.move rfl) ?_
          refine XR.rd rfl rfl rfl (Reads.move rfl) ?_
          refine XR.rd rfl rfl rfl (Reads.index_slot Try.underlying22 z3 rfl rfl (by omega) (hY.isSome (by decide) (by omega)) rfl) ?_
          refine XR.rd rfl rfl rfl (Reads.load_at k3 rfl (hY.int hk3)) ?_
          refine XR.callp rfl rfl rfl en13 (pickL_any y[k] 21 _ (hyk _ (List.getElem_mem hk3)) (by decide)) ⟨rfl, rfl, trivial⟩ (List.Sublist.refl _) ?_
          refine XR.rd rfl rfl rfl (Reads.add rfl rfl (by omega)) ?_
          refine XR.rd rfl rfl rfl (Reads.sub rfl rfl (by omega)) ?_
          refine XR.rd rfl rfl rfl (Reads.index_slot (q := k) Try.underlying22 z3 rfl rfl (by omega) (row_some hV (by omega)) (by simp)) ?_
          refine XR.store_vec (V := V) (e := 3) (k := k) 0 rfl rfl z3 rfl rfl rfl hV rfl (by rw [rowC_len]; exact hkN) rfl ?_
          intro V' hV' hval
          refine XR.nil ?_
          refine XQ.block_normal ?_
          refine XQ.then_normal ?_
          refine XC.region ?_
          refine XO.rd rfl rfl rfl (Reads.move rfl) ?_
          refine XO.rd rfl rfl rfl (Reads.add rfl rfl (by omega)) ?_
          refine XO.rd rfl rfl rfl (Reads.assign rfl) ?_
          refine XO.nil ?_
          rw [← hval]
          refine XQ.back (k + 1, V') ⟨by simp only; omega, by rw [rowC_set hkN, part_step (by simp [mixP, hk3])] at hV'; exact hV'⟩ (by simp only; omega) ⟨rfl, rfl, rfl, rfl, rfl, rfl, trivial⟩ rfl (List.Perm.refl _)
        · skip
          simp only [cmpInt, decide_eq_false_iff_not] at h3
          have hVe : V.Is 1 (rowC x.hidN (mixP x.hidF y)) := by rw [rowC_congr (g := mixP x.hidF y) (fun j hj => by split; rfl; simp [mixP, show y[j]? = none from List.getElem?_eq_none (by omega)])] at hV; exact hV
          refine XC.exit ?_
          refine XQ.then_exit ?_
          refine XQ.then_exit ?_
          refine XQ.block_exit ?_
          refine XQ.joined V hVe ⟨rfl, rfl, rfl, rfl, trivial⟩ rfl (List.Perm.refl _)
      · skip
        simp only [cmpInt, decide_eq_false_iff_not] at h2
        have hVe : V.Is 1 (rowC x.hidN (mixP x.hidF y)) := by rw [rowC_congr (g := mixP x.hidF y) (fun j hj => by rw [if_pos (by omega)])] at hV; exact hV
        refine XO.s (wg rfl rfl rfl) rfl ?_
        refine XO.s (wg rfl rfl rfl) rfl ?_
        refine XO.s (wg rfl rfl rfl) rfl ?_
        refine XO.s (wg rfl rfl rfl) rfl ?_
        refine XO.rd rfl rfl rfl (Reads.pick_false rfl rfl) ?_
        refine XO.nil ?_
        refine XQ.then_normal ?_
        refine XC.cond rfl (fun hx => by cases hx) (fun _ => ?_)
        refine XC.exit ?_
        refine XQ.then_exit ?_
        refine XQ.then_exit ?_
        refine XQ.block_exit ?_
        refine XQ.joined V hVe ⟨rfl, rfl, rfl, rfl, trivial⟩ rfl (List.Perm.refl _)
    · skip
      obtain ⟨Vh, rfl⟩ : ∃ Vh, Vh = q := ⟨_, rfl⟩
      have hVh := hq
      clear hq
      have hVhl := row_len hVh
      refine XQ.then_normal ?_
      refine XC.seq ?_
      refine XC.region ?_
      refine XO.vec_done (α := Int) (by decide) hVh (flat_row _ _ _) (fun J37 hle37 hs => ?_)
      replace hI := Im.le_trans hI hle37
      replace hH := hH.mono hle37
      replace hB := hB.mono hle37
      replace hY := hY.mono hle37
      replace hA := hA.mono hle37
      replace hM := hM.mono hle37
      refine XO.rd rfl rfl rfl (Reads.assign rfl) ?_
      refine XO.nil ?_
      refine XQ.then_normal ?_
      refine XC.seq ?_
      refine XC.region ?_
      refine XO.rd rfl rfl rfl (Reads.assign rfl) ?_
      refine XO.nil ?_
      refine XQ.then_normal ?_
      refine XC.seq ?_
      refine XC.seq ?_
      refine XC.region ?_
      refine XO.rd rfl rfl rfl (Reads.assign rfl) ?_
      refine XO.nil ?_
      refine XQ.then_normal ?_
      refine XC.block ?_
      refine XC.vec0 3 ?_
      refine XC.vec0 3 ?_
      refine XC.loop (ι := Nat × Vec × Vec) (fun q => [(2, .int .i64 c), (7, .pointer (some ⟨b7, 0, none⟩)), (8, .pointer (some ⟨b8, 0, none⟩)), (10, Vh.val), (12, q.2.1.val), (13, q.2.2.val), (14, .int .i64 q.1)]) (fun q => J37) (fun q => q.2.1.ent 3 :: q.2.2.ent 3 :: some (b8, .cells #[.int .i64 x.made.n, Vm.val] 28 (0, 0)) :: some (b7, .cells #[.int .i64 x.made.n, .slice a x.made.bs.length cap] 28 (0, 0)) :: some (b3, .cells #[.int .i64 x.n, .slice ah x.hidden.length ch, .slice ab x.bnds.length cb, .int .i64 x.miss] 25 (0, 0)) :: ([] ++ Lf)) (fun q => q.1 ≤ x.hidN ∧ q.2.1.Is 1 (rowC q.1 (moveP (mixP x.hidF y) (pickI c 1000000 - 500000))) ∧ q.2.2.Is 1 (rowC q.1 (fun i => -mixP x.hidF y i))) (fun q => x.hidN - q.1) (0, Vec.nil, Vec.nil) ⟨Nat.zero_le _, Vec.nil_is 1, Vec.nil_is 1⟩ ⟨rfl, rfl, rfl, rfl, rfl, rfl, rfl, trivial⟩ rfl (List.Perm.refl _) (fun q hq => ?_)
      obtain ⟨k, Va, Vb⟩ := q
      obtain ⟨hk1, hVa, hVb⟩ := hq
      simp only at hk1 hVa hVb ⊢
      have hVal := row_len hVa
      have hVbl := row_len hVb
      refine XC.seq ?_
      refine XC.seq ?_
      refine XC.region ?_
      refine XO.rd rfl rfl rfl (Reads.move rfl) ?_
      refine XO.rd rfl rfl rfl (Reads.move rfl) ?_
      refine XO.rd rfl rfl rfl (Reads.len_slice Try.underlying22 rfl) ?_
      rw [hVhl]
      refine XO.rd rfl rfl rfl (Reads.cmp rfl rfl rfl) ?_
      refine XO.nil ?_
      refine XQ.then_normal ?_
      refine XC.cond rfl (fun h4 => ?_) (fun h4 => ?_)
      · skip
        simp only [cmpInt, decide_eq_true_eq] at h4
        have hkN : k < x.hidN := by omega
        have hmk := hmx k
        refine XC.skip ?_
        refine XQ.then_normal ?_
        refine XC.seq ?_
        refine XC.block ?_
        refine XC.seq ?_
        refine XC.draw m_mixed none (.pure 0 (.pure 1 (.pure 2 (.pure 3 (.pure 4 (.pure 5 (.eff 6 (.pure 7 (.pure 8 (.eff 9 (.eff 10 (.pure 11 (.done))))))))))))) [] (by kernel_rfl) (List.nil_sublist _) ?_
        refine XR.rd rfl rfl rfl (Reads.move rfl) ?_
        refine XR.rd rfl rfl rfl (Reads.move rfl) ?_
        refine XR.rd rfl rfl rfl (Reads.move rfl) ?_
        refine XR.rd rfl rfl rfl (Reads.index_slot (q := k * 1) Try.underlying22 z3 rfl rfl (by omega) (row_int hs.arr.1 hkN).isSome (by simp)) ?_
        refine XR.rd rfl rfl rfl (Reads.load_at k3 rfl (row_int hs.arr.1 hkN)) ?_
        refine XR.rd rfl rfl rfl (Reads.move rfl) ?_
        refine XR.callp rfl rfl rfl en13 (pickL_any c 1000000 _ hcb (by decide)) ⟨rfl, rfl, trivial⟩ (List.nil_sublist _) ?_
        refine XR.rd rfl rfl rfl (Reads.add rfl rfl (by omega)) ?_
        refine XR.rd rfl rfl rfl (Reads.sub rfl rfl (by omega)) ?_
        rw [show mixP x.hidF y k + pickI c 1000000 - 500000 = moveP (mixP x.hidF y) (pickI c 1000000 - 500000) k by unfold moveP; omega]
        refine XR.buildL [.int .i64 (moveP (mixP x.hidF y) (pickI c 1000000 - 500000) k)] [.int .i64 (moveP (mixP x.hidF y) (pickI c 1000000 - 500000) k)] rfl rfl rfl Try.underlying22 el3 rfl (by simp) ⟨rfl, rfl, trivial⟩ rfl rfl (List.nil_sublist _) (fun bu => ?_)
        refine XR.append (V := Va) 1 rfl rfl rfl Try.underlying22 el3 rfl rfl hVa rfl (.slice Try.underlying22 (.inr (.inr ⟨bu, 0, rfl, fun j v hj => ⟨#[.int .i64 (moveP (mixP x.hidF y) (pickI c 1000000 - 500000) k)], 3, (0, 0), by simp, by simpa using hj⟩⟩)) rfl (by simp [Value.oneCell'])) (by omega) (by omega) ?_
        intro Va' hVa' _
        refine ⟨.inr (List.nil_sublist _), ?_⟩
        refine XR.rd rfl rfl rfl (Reads.assign rfl) ?_
        refine XR.nil ?_
        refine XQ.then_normal ?_
        refine XC.region ?_
        refine XO.rd rfl rfl rfl (Reads.move rfl) ?_
        refine XO.rd rfl rfl rfl (Reads.move rfl) ?_
        refine XO.rd rfl rfl rfl (Reads.move rfl) ?_
        refine XO.rd rfl rfl rfl (Reads.index_slot (q := k * 1) Try.underlying22 z3 rfl rfl (by omega) (row_int hs.arr.1 hkN).isSome (by simp)) ?_
        refine XO.rd rfl rfl rfl (Reads.load_at k3 rfl (row_int hs.arr.1 hkN)) ?_
        refine XO.rd rfl rfl rfl (Reads.neg rfl (by omega)) ?_
        refine XO.buildL [.int .i64 (-mixP x.hidF y k)] [.int .i64 (-mixP x.hidF y k)] rfl rfl Try.underlying22 el3 rfl (by simp) ⟨rfl, rfl, trivial⟩ rfl rfl (fun bu2 => ?_)
        refine XO.append (V := Vb) 3 rfl rfl Try.underlying22 el3 rfl rfl hVb rfl (.slice Try.underlying22 (.inr (.inr ⟨bu2, 0, rfl, fun j v hj => ⟨#[.int .i64 (-mixP x.hidF y k)], 3, (0, 0), by simp, by simpa using hj⟩⟩)) rfl (by simp [Value.oneCell'])) (by omega) (by omega) ?_
        intro Vb' hVb' _
        refine XO.rd rfl rfl rfl (Reads.assign rfl) ?_
        refine XO.nil ?_
        refine XQ.block_normal ?_
        refine XQ.then_normal ?_
        refine XC.region ?_
        refine XO.rd rfl rfl rfl (Reads.move rfl) ?_
        refine XO.rd rfl rfl rfl (Reads.add rfl rfl (by omega)) ?_
        refine XO.rd rfl rfl rfl (Reads.assign rfl) ?_
        refine XO.nil ?_
        refine XQ.dropn 2 ?_
        refine XQ.back (k + 1, Va', Vb') ⟨by simp only; omega, by rw [rowC_succ]; exact hVa', by rw [rowC_succ]; exact hVb'⟩ (by simp only; omega) ⟨rfl, rfl, rfl, rfl, rfl, rfl, rfl, trivial⟩ rfl (List.Perm.refl _)
      · skip
        simp only [cmpInt, decide_eq_false_iff_not] at h4
        have hkN : k = x.hidN := by omega
        subst hkN
        refine XC.exit ?_
        refine XQ.then_exit ?_
        refine XQ.then_exit ?_
        refine XQ.block_exit ?_
        refine XQ.then_normal ?_
        refine XC.seq ?_
        refine XC.region ?_
        refine XO.vec_done (α := Int) (by decide) hVa (flat_row _ _ _) (fun J38 hle38 hsa => ?_)
        replace hI := Im.le_trans hI hle38
        replace hH := hH.mono hle38
        replace hB := hB.mono hle38
        replace hY := hY.mono hle38
        replace hA := hA.mono hle38
        replace hM := hM.mono hle38
        replace hs := hs.mono hle38
        refine XO.vec_done (α := Int) (by decide) hVb (flat_row _ _ _) (fun J39 hle39 hsb => ?_)
        replace hI := Im.le_trans hI hle39
        replace hH := hH.mono hle39
        replace hB := hB.mono hle39
        replace hY := hY.mono hle39
        replace hA := hA.mono hle39
        replace hM := hM.mono hle39
        replace hs := hs.mono hle39
        replace hsa := hsa.mono hle39
        refine XO.rd rfl rfl rfl (Reads.load_whole k28 z28 rfl (WholeAt.of 1 rfl) (by rfl)) ?_
        refine XO.rd rfl rfl rfl (Reads.move rfl) ?_
        have hal := FC.boolEq (allowed_any x.made a cap Vh.addr ((List.range x.hidN).map (mixP x.hidF y)) Vh.cap _ hA hs.arr.1 (by omega) (by simp; omega)) hIS
        simp only [List.length_map, List.length_range] at hal
        rw [← hVhl] at hal
        refine XO.callp rfl rfl en27 hal ⟨rfl, rfl, trivial⟩ ?_
        refine XO.rd rfl rfl rfl (Reads.assign rfl) ?_
        refine XO.nil ?_
        refine XQ.then_normal ?_
        refine XC.seq ?_
        refine XC.seq ?_
        refine XC.region ?_
        refine XO.rd rfl rfl rfl (Reads.load_whole k28 z28 rfl (by first | exact WholeAt.of 0 rfl | exact WholeAt.of 1 rfl | exact WholeAt.of 2 rfl | exact WholeAt.of 3 rfl | exact WholeAt.of 4 rfl | exact WholeAt.of 5 rfl | exact WholeAt.of 6 rfl | exact WholeAt.of 7 rfl | exact WholeAt.of 8 rfl) (by rfl)) ?_
        refine XO.rd rfl rfl rfl (Reads.move rfl) ?_
        have hal := FC.boolEq (allowed_any x.made a cap Va.addr ((List.range x.hidN).map (moveP (mixP x.hidF y) (pickI c 1000000 - 500000))) Va.cap _ hA hsa.arr.1 (by omega) (by simp; omega)) hal1
        simp only [List.length_map, List.length_range] at hal
        rw [← hVal] at hal
        refine XO.callp rfl rfl en27 hal ⟨rfl, rfl, trivial⟩ ?_
        refine XO.rd rfl rfl rfl (Reads.move rfl) ?_
        refine XO.rd rfl rfl rfl (Reads.neq_bool Try.underlying4 rfl rfl) ?_
        rw [show (is != is) = false by simp]
        refine XO.rd rfl rfl rfl (Reads.move rfl) ?_
        refine XO.rd (wg rfl rfl rfl) rfl rfl (Reads.load_whole k28 z28 rfl (by first | exact WholeAt.of 0 rfl | exact WholeAt.of 1 rfl | exact WholeAt.of 2 rfl | exact WholeAt.of 3 rfl | exact WholeAt.of 4 rfl | exact WholeAt.of 5 rfl | exact WholeAt.of 6 rfl | exact WholeAt.of 7 rfl | exact WholeAt.of 8 rfl) (by rfl)) ?_
        refine XO.rd (wg rfl rfl rfl) rfl rfl (Reads.move rfl) ?_
        have hal := FC.boolEq (allowed_any x.made.mir Vm.addr Vm.cap Vb.addr ((List.range x.hidN).map fun i => -mixP x.hidF y i) Vb.cap _ hM.arr.1 hsb.arr.1 (by simp [Btw.mir]; omega) (by simp; omega)) hal2
        simp only [List.length_map, List.length_range, hmlen] at hal
        rw [← hVbl] at hal
        refine XO.callp (wg rfl rfl rfl) rfl en27 hal ⟨rfl, rfl, trivial⟩ ?_
        refine XO.rd (wg rfl rfl rfl) rfl rfl (Reads.move rfl) ?_
        refine XO.rd (wg rfl rfl rfl) rfl rfl (Reads.neq_bool Try.underlying4 rfl rfl) ?_
        rw [show (is != is) = false by simp]
        refine XO.rd rfl rfl rfl (Reads.pick_false rfl rfl) ?_
        refine XO.nil ?_
        refine XQ.then_normal ?_
        refine XC.cond rfl (fun hx => by cases hx) (fun _ => ?_)
        refine XC.skip ?_
        refine XQ.then_normal ?_
        refine XC.seq ?_
        refine XC.region ?_
        refine XO.rd rfl rfl rfl (Reads.load_whole k28 z28 rfl (by first | exact WholeAt.of 0 rfl | exact WholeAt.of 1 rfl | exact WholeAt.of 2 rfl | exact WholeAt.of 3 rfl | exact WholeAt.of 4 rfl | exact WholeAt.of 5 rfl | exact WholeAt.of 6 rfl | exact WholeAt.of 7 rfl | exact WholeAt.of 8 rfl) (by rfl)) ?_
        refine XO.call rfl rfl en16 (close_any x.made a cap _ hA (by omega)) ⟨rfl, trivial⟩ ?_
        rintro u J40 hle40 hr
        replace hI := Im.le_trans hI hle40
        replace hH := hH.mono hle40
        replace hB := hB.mono hle40
        replace hY := hY.mono hle40
        replace hA := hA.mono hle40
        replace hM := hM.mono hle40
        replace hs := hs.mono hle40
        replace hsa := hsa.mono hle40
        replace hsb := hsb.mono hle40
        obtain ⟨ad, cd, rfl, hD⟩ := hr.any
        simp only [(hsm.close_eq hok).1, (hsm.close_eq hok).2, rowsD_len] at hD ⊢
        refine XO.rd rfl rfl rfl (Reads.move rfl) ?_
        refine XO.rd rfl rfl rfl (Reads.extract rfl rfl) ?_
        refine XO.rd rfl rfl rfl (Reads.extract rfl rfl) ?_
        refine XO.rd rfl rfl rfl (Reads.assign rfl) ?_
        refine XO.rd rfl rfl rfl (Reads.assign rfl) ?_
        refine XO.nil ?_
        refine XQ.then_normal ?_
        refine XC.seq ?_
        refine XC.region ?_
        refine XO.rd rfl rfl rfl (Reads.load_whole k28 z28 rfl (by first | exact WholeAt.of 0 rfl | exact WholeAt.of 1 rfl | exact WholeAt.of 2 rfl | exact WholeAt.of 3 rfl | exact WholeAt.of 4 rfl | exact WholeAt.of 5 rfl | exact WholeAt.of 6 rfl | exact WholeAt.of 7 rfl | exact WholeAt.of 8 rfl) (by rfl)) ?_
        have hcl := close_any x.made.mir Vm.addr Vm.cap _ hM.arr.1 (by simp [Btw.mir]; omega)
        rw [hmlen] at hcl
        refine XO.call rfl rfl en16 (hcl) ⟨rfl, trivial⟩ ?_
        rintro u J41 hle41 hr
        replace hI := Im.le_trans hI hle41
        replace hH := hH.mono hle41
        replace hB := hB.mono hle41
        replace hY := hY.mono hle41
        replace hA := hA.mono hle41
        replace hM := hM.mono hle41
        replace hs := hs.mono hle41
        replace hsa := hsa.mono hle41
        replace hsb := hsb.mono hle41
        replace hD := hD.mono hle41
        obtain ⟨ae, ce, rfl, hE⟩ := hr.any
        simp only [(hmsm.close_eq hmok).1, (hmsm.close_eq hmok).2, rowsD_len, hsm.mir_fine] at hE ⊢
        generalize hN1 : (if x.made.dist.fine x.hidN = true then x.hidN else 0) = N1
        refine XO.rd rfl rfl rfl (Reads.move rfl) ?_
        refine XO.rd rfl rfl rfl (Reads.extract rfl rfl) ?_
        refine XO.rd rfl rfl rfl (Reads.extract rfl rfl) ?_
        refine XO.rd rfl rfl rfl (Reads.assign rfl) ?_
        refine XO.rd rfl rfl rfl (Reads.assign rfl) ?_
        refine XO.nil ?_
        refine XQ.then_normal ?_
        refine XC.seq ?_
        refine XC.seq ?_
        refine XC.region ?_
        refine XO.rd rfl rfl rfl (Reads.move rfl) ?_
        refine XO.rd rfl rfl rfl (Reads.move rfl) ?_
        refine XO.rd rfl rfl rfl (Reads.cmp rfl rfl rfl) ?_
        rw [cmp_ne_self]
        refine XO.rd rfl rfl rfl (Reads.move rfl) ?_
        refine XO.rd (wg rfl rfl rfl) rfl rfl (Reads.move rfl) ?_
        refine XO.rd (wg rfl rfl rfl) rfl rfl (Reads.len_slice Try.underlying38 rfl) ?_
        refine XO.rd (wg rfl rfl rfl) rfl rfl (Reads.move rfl) ?_
        refine XO.rd (wg rfl rfl rfl) rfl rfl (Reads.len_slice Try.underlying38 rfl) ?_
        refine XO.rd (wg rfl rfl rfl) rfl rfl (Reads.cmp rfl rfl rfl) ?_
        rw [cmp_ne_self]
        refine XO.rd rfl rfl rfl (Reads.pick_false rfl rfl) ?_
        refine XO.nil ?_
        refine XQ.then_normal ?_
        refine XC.cond rfl (fun hx => by cases hx) (fun _ => ?_)
        refine XC.skip ?_
        refine XQ.then_normal ?_
        refine XC.seq ?_
        refine XC.seq ?_
        refine XC.weaken (E' := [(15, _), (16, _), (17, _), (18, _)]) ⟨rfl, rfl, rfl, rfl, trivial⟩ ?_
        refine XC.region ?_
        refine XO.rd rfl rfl rfl (Reads.assign rfl) ?_
        refine XO.nil ?_
        refine XQ.then_normal ?_
        refine XC.block ?_
        refine XC.dropn 3 ?_
        refine XC.loop (ι := Nat) (fun q => [(15, .bool is), (16, .slice ad N1 cd), (17, .int .i64 (if x.made.dist.fine x.hidN = true then 0 else 60)), (18, .slice ae N1 ce), (20, .int .i64 q)]) (fun q => J41) (fun q => [] ++ Lf) (fun q => q ≤ N1) (fun q => N1 - q) 0 (Nat.zero_le _) ⟨rfl, rfl, rfl, rfl, rfl, trivial⟩ rfl (List.Perm.refl _) (fun i hi => ?_)
        refine XC.seq ?_
        refine XC.seq ?_
        refine XC.region ?_
        refine XO.rd rfl rfl rfl (Reads.move rfl) ?_
        refine XO.rd rfl rfl rfl (Reads.move rfl) ?_
        refine XO.rd rfl rfl rfl (Reads.len_slice Try.underlying38 rfl) ?_
        refine XO.rd rfl rfl rfl (Reads.cmp rfl rfl rfl) ?_
        refine XO.nil ?_
        refine XQ.then_normal ?_
        refine XC.cond rfl (fun h5 => ?_) (fun h5 => ?_)
        · skip
          simp only [cmpInt, decide_eq_true_eq] at h5
          have hf : x.made.dist.fine x.hidN = true := by
            cases hf : x.made.dist.fine x.hidN with
            | true => rfl
            | false => simp [hf] at hN1; omega
          have hN2 : N1 = x.hidN := by simp [hf] at hN1; omega
          have hiN : i < x.hidN := by omega
          refine XC.skip ?_
          refine XQ.then_normal ?_
          refine XC.seq ?_
          refine XC.block ?_
          refine XC.seq ?_
          refine XC.region ?_
          refine XO.rd rfl rfl rfl (Reads.assign rfl) ?_
          refine XO.nil ?_
          refine XQ.then_normal ?_
          refine XC.block ?_
          refine XC.loop (ι := Nat) (fun q => [(15, .bool is), (16, .slice ad N1 cd), (17, .int .i64 (if x.made.dist.fine x.hidN = true then 0 else 60)), (18, .slice ae N1 ce), (20, .int .i64 i), (21, .int .i64 q)]) (fun q => J41) (fun q => [] ++ Lf) (fun q => q ≤ N1) (fun q => N1 - q) 0 (Nat.zero_le _) ⟨rfl, rfl, rfl, rfl, rfl, rfl, trivial⟩ rfl (List.Perm.refl _) (fun k hk => ?_)
          refine XC.seq ?_
          refine XC.seq ?_
          refine XC.region ?_
          refine XO.rd rfl rfl rfl (Reads.move rfl) ?_
          refine XO.rd rfl rfl rfl (Reads.move rfl) ?_
          refine XO.rd rfl rfl rfl (Reads.len_slice Try.underlying38 rfl) ?_
          refine XO.rd rfl rfl rfl (Reads.cmp rfl rfl rfl) ?_
          refine XO.nil ?_
          refine XQ.then_normal ?_
          refine XC.cond rfl (fun h6 => ?_) (fun h6 => ?_)
          · skip
            simp only [cmpInt, decide_eq_true_eq] at h6
            have hkN : k < x.hidN := by omega
            subst hN2
            have hD2 := hD
            simp only [Btw.rowsD, hf, if_true] at hD2
            have hE2 := hE
            simp only [Btw.rowsD, hsm.mir_fine, hf, if_true] at hE2
            obtain ⟨ar, cr, hr1, hr2⟩ := tab_row hD2 hiN
            obtain ⟨aq, cq, hq1, hq2⟩ := tab_row hE2 hkN
            refine XC.skip ?_
            refine XQ.then_normal ?_
            refine XC.seq ?_
            refine XC.block ?_
            refine XC.seq ?_
            refine XC.draw m_mixed none (.pure 0 (.pure 1 (.pure 2 (.pure 3 (.pure 4 (.pure 5 (.pure 6 (.pure 7 (.pure 8 (.pure 9 (.pure 10 (.pure 11 (.pure 12 (.pure 13 (.pure 14 (.pure 15 (.pure 16 (.pure 17 (.pure 18 (.pure 19 (.pure 20 (.pure 21 (.pure 22 (.pure 23 (.pure 24 (.pure 25 (.pure 26 (.pure 27 (.pure 28 (.pure 29 (.pure 30 (.pure 31 (.pure 32 (.pure 33 (.pure 34 (.done)))))))))))))))))))))))))))))))))))) _ (by kernel_rfl) (List.Sublist.refl _) ?_
            refine XR.rd rfl rfl rfl (Reads.move rfl) ?_
            refine XR.rd rfl rfl rfl (Reads.move rfl) ?_
            refine XR.rd rfl rfl rfl (Reads.index_slot Try.underlying38 z22 rfl rfl (by omega) hr1.isSome rfl) ?_
            refine XR.rd rfl rfl rfl (Reads.load_at k22 rfl hr1) ?_
            refine XR.rd rfl rfl rfl (Reads.len_slice Try.underlying22 rfl) ?_
            refine XR.rd rfl rfl rfl (Reads.move rfl) ?_
            refine XR.rd rfl rfl rfl (Reads.len_slice Try.underlying38 rfl) ?_
            refine XR.rd rfl rfl rfl (Reads.cmp rfl rfl rfl) ?_
            rw [cmp_ne_self]
            refine XR.rd rfl rfl rfl (Reads.move rfl) ?_
            refine XR.rd rfl (wg rfl rfl rfl) rfl (Reads.move rfl) ?_
            refine XR.rd rfl (wg rfl rfl rfl) rfl (Reads.move rfl) ?_
            refine XR.rd rfl (wg rfl rfl rfl) rfl (Reads.index_slot Try.underlying38 z22 rfl rfl (by omega) hq1.isSome rfl) ?_
            refine XR.rd rfl (wg rfl rfl rfl) rfl (Reads.load_at k22 rfl hq1) ?_
            refine XR.rd rfl (wg rfl rfl rfl) rfl (Reads.len_slice Try.underlying22 rfl) ?_
            refine XR.rd rfl (wg rfl rfl rfl) rfl (Reads.move rfl) ?_
            refine XR.rd rfl (wg rfl rfl rfl) rfl (Reads.len_slice Try.underlying38 rfl) ?_
            refine XR.rd rfl (wg rfl rfl rfl) rfl (Reads.cmp rfl rfl rfl) ?_
            rw [cmp_ne_self]
            refine XR.rd rfl rfl rfl (Reads.pick_false rfl rfl) ?_
            refine XR.rd rfl rfl rfl (Reads.move rfl) ?_
            refine XR.rd rfl (wg rfl rfl rfl) rfl (Reads.move rfl) ?_
            refine XR.rd rfl (wg rfl rfl rfl) rfl (Reads.move rfl) ?_
            refine XR.rd rfl (wg rfl rfl rfl) rfl (Reads.index_slot Try.underlying38 z22 rfl rfl (by omega) hr1.isSome rfl) ?_
            refine XR.rd rfl (wg rfl rfl rfl) rfl (Reads.load_at k22 rfl hr1) ?_
            refine XR.rd rfl (wg rfl rfl rfl) rfl (Reads.move rfl) ?_
            refine XR.rd rfl (wg rfl rfl rfl) rfl (Reads.index_slot (q := k * 1) Try.underlying22 z3 rfl rfl (by omega) (row_int hr2 hkN).isSome (by simp)) ?_
            refine XR.rd rfl (wg rfl rfl rfl) rfl (Reads.load_at k3 rfl (row_int hr2 hkN)) ?_
            refine XR.rd rfl (wg rfl rfl rfl) rfl (Reads.move rfl) ?_
            refine XR.rd rfl (wg rfl rfl rfl) rfl (Reads.move rfl) ?_
            refine XR.rd rfl (wg rfl rfl rfl) rfl (Reads.index_slot Try.underlying38 z22 rfl rfl (by omega) hq1.isSome rfl) ?_
            refine XR.rd rfl (wg rfl rfl rfl) rfl (Reads.load_at k22 rfl hq1) ?_
            refine XR.rd rfl (wg rfl rfl rfl) rfl (Reads.move rfl) ?_
            refine XR.rd rfl (wg rfl rfl rfl) rfl (Reads.index_slot (q := i * 1) Try.underlying22 z3 rfl rfl (by omega) (row_int hq2 hiN).isSome (by simp)) ?_
            refine XR.rd rfl (wg rfl rfl rfl) rfl (Reads.load_at k3 rfl (row_int hq2 hiN)) ?_
            refine XR.rd rfl (wg rfl rfl rfl) rfl (Reads.cmp rfl rfl rfl) ?_
            rw [← hsm.mir_dist hf hiN hkN, cmp_ne_self]
            refine XR.rd rfl rfl rfl (Reads.pick_false rfl rfl) ?_
            refine XR.nil ?_
            refine XQ.then_normal ?_
            refine XC.cond rfl (fun hx => by cases hx) (fun _ => ?_)
            refine XC.skip ?_
            refine XQ.block_normal ?_
            refine XQ.then_normal ?_
            refine XC.weaken (E' := [(15, _), (16, _), (17, _), (18, _), (20, _), (21, _)]) ⟨rfl, rfl, rfl, rfl, rfl, rfl, trivial⟩ ?_
            refine XC.region ?_
            refine XO.rd rfl rfl rfl (Reads.move rfl) ?_
            refine XO.rd rfl rfl rfl (Reads.add rfl rfl (by omega)) ?_
            refine XO.rd rfl rfl rfl (Reads.assign rfl) ?_
            refine XO.nil ?_
            refine XQ.back (k + 1) (by omega) (by omega) ⟨rfl, rfl, rfl, rfl, rfl, rfl, trivial⟩ rfl (List.Perm.refl _)
          · skip
            skip
            refine XC.exit ?_
            refine XQ.then_exit ?_
            refine XQ.then_exit ?_
            refine XQ.block_exit ?_
            refine XQ.block_normal ?_
            refine XQ.then_normal ?_
            refine XC.region ?_
            refine XO.rd rfl rfl rfl (Reads.move rfl) ?_
            refine XO.rd rfl rfl rfl (Reads.add rfl rfl (by omega)) ?_
            refine XO.rd rfl rfl rfl (Reads.assign rfl) ?_
            refine XO.nil ?_
            refine XQ.back (i + 1) (by omega) (by omega) ⟨rfl, rfl, rfl, rfl, rfl, trivial⟩ rfl (List.Perm.refl _)
        · skip
          skip
          refine XC.exit ?_
          refine XQ.then_exit ?_
          refine XQ.then_exit ?_
          refine XQ.block_exit ?_
          refine XQ.then_normal ?_
          refine XC.seq ?_
          refine XC.region ?_
          refine XO.rd rfl rfl rfl (Reads.move rfl) ?_
          refine XO.rd rfl rfl rfl (Reads.cmp rfl rfl rfl) ?_
          refine XO.rd rfl rfl rfl (Reads.move rfl) ?_
          refine XO.split (d := 197) rfl (fun h7 => ?_) (fun h7 => ?_)
          · skip
            skip
            refine XO.s (wg rfl rfl rfl) rfl ?_
            refine XO.s (wg rfl rfl rfl) rfl ?_
            refine XO.rd rfl rfl rfl (Reads.pick_true rfl rfl) ?_
            refine XO.rd rfl rfl rfl (Reads.assign rfl) ?_
            refine XO.nil ?_
            refine XQ.then_normal ?_
            refine XC.ret ?_
            refine XQ.done1 rfl rfl hI ?_
            exact ⟨rfl, rfl⟩
          · skip
            have hf0 : x.made.dist.fine x.hidN = false := by
              cases hf : x.made.dist.fine x.hidN with
              | false => rfl
              | true => simp [hf, cmpInt] at h7
            have hisf := hnf hf0
            refine XO.rd (wg rfl rfl rfl) rfl rfl (Reads.move rfl) ?_
            refine XO.rd (wg rfl rfl rfl) rfl rfl (Reads.not rfl) ?_
            refine XO.rd rfl rfl rfl (Reads.pick_false rfl rfl) ?_
            refine XO.rd rfl rfl rfl (Reads.assign rfl) ?_
            refine XO.nil ?_
            refine XQ.then_normal ?_
            refine XC.ret ?_
            refine XQ.done1 rfl rfl hI ?_
            exact ⟨rfl, by rw [hisf]; rfl⟩

end Go.Proofs.Ytlgfpieokaegiaa
