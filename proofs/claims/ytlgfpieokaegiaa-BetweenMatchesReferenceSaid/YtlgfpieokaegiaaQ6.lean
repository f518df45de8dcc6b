/- Walks of layer 6: BetweenMatchesReference. -/
import Derived.Test.YtlgfpieokaegiaaQ5
import Derived.Test.YtlgfpieokaegiaaB7
import Derived.Test.YtlgfpieokaegiaaBs
namespace Go.Proofs.Ytlgfpieokaegiaa
open Go.Xe

set_option maxHeartbeats 4000000 in
theorem matches_any (x : Nums) (e : Btw) (z : Bnd) (ah ab a1 ay : Option Addr) (ch cb cap1 cy : Nat) (n2 n3 n4 : Int) (y : List Int) (I : Im) (hx : x.Ok) (hH : Arr I ah x.hidden) (hB : Arr I ab x.bnds) (hA1 : Arr I a1 e.bs) (hcap1 : e.bs.length ≤ cap1) (h631 : e.bs.length ≤ 9223372036854775807) (hn2 : In64 n2) (hn4 : In64 n4) (hz0 : In64 z.fr) (hz1 : In64 z.to) (hz2 : In64 z.mo) (hY : Arr I ay y) (hyc : y.length ≤ cy) : FC Try.prog 3 [.agg #[.int .i64 x.n, .slice ah x.hidden.length ch, .slice ab x.bnds.length cb, .int .i64 x.miss], .agg #[.int .i64 e.n, .slice a1 e.bs.length cap1], .int .i64 n2, .int .i64 n3, .int .i64 n4, .agg z.cs.toArray, .slice ay y.length cy] I (fun u I' => u = .bool true) := by
  have hI := Im.le_refl I
  have hN := x.hidN_range
  have hml := x.made_len
  have hmn : 0 < x.made.n := by show (0 : Int) < (x.hidN : Int); omega
  have hpz := pickI_range (c := z.mo) (n := 400) (by omega)
  have hpn : x.made.n ≤ 8 := by show (x.hidN : Int) ≤ 8; omega
  refine FSo.intro (n := 224) Try.func3 rfl rfl rfl (fun K Lf => ?_)
  refine XC.seq ?_
  refine XC.region ?_
  refine XO.box_agg rfl rfl rfl (fun b7 => ?_)
  refine XO.box_agg rfl rfl rfl (fun b8 => ?_)
  refine XO.box_agg rfl rfl rfl (fun b12 => ?_)
  refine XO.rd rfl rfl rfl (Reads.assign rfl) ?_
  refine XO.nil ?_
  refine XQ.then_normal ?_
  refine XC.seq ?_
  refine XC.region ?_
  refine XO.call rfl rfl en10 (sane_any _) trivial ?_
  rintro u J1 hle1 hr
  replace hI := Im.le_trans hI hle1
  replace hH := hH.mono hle1
  replace hB := hB.mono hle1
  replace hA1 := hA1.mono hle1
  replace hY := hY.mono hle1
  subst hr
  refine XO.rd rfl rfl rfl (Reads.assign rfl) ?_
  refine XO.nil ?_
  refine XQ.then_normal ?_
  refine XC.seq ?_
  refine XC.region ?_
  refine XO.rd rfl rfl rfl (Reads.move rfl) ?_
  refine XO.callp rfl rfl en11 (short_any _ _ _ _ hyc) ⟨rfl, trivial⟩ ?_
  refine XO.rd rfl rfl rfl (Reads.assign rfl) ?_
  refine XO.nil ?_
  refine XQ.then_normal ?_
  refine XC.seq ?_
  refine XC.region ?_
  refine XO.rd rfl rfl rfl (Reads.load_whole k25 z25 rfl (by first | exact WholeAt.of 0 rfl | exact WholeAt.of 1 rfl | exact WholeAt.of 2 rfl | exact WholeAt.of 3 rfl | exact WholeAt.of 4 rfl | exact WholeAt.of 5 rfl | exact WholeAt.of 6 rfl | exact WholeAt.of 7 rfl | exact WholeAt.of 8 rfl) (by rfl)) ?_
  refine XO.call rfl rfl en12 (made_any x ah ab ch cb _ hx hH hB) ⟨rfl, trivial⟩ ?_
  rintro u J2 hle2 hr
  replace hI := Im.le_trans hI hle2
  replace hH := hH.mono hle2
  replace hB := hB.mono hle2
  replace hA1 := hA1.mono hle2
  replace hY := hY.mono hle2
  obtain ⟨am, capm, rfl, hcapm, hAm⟩ := hr
  refine XO.alloc (cs := #[.int .i64 0, .slice none 0 0]) rfl rfl zo28 rfl (fun b16 => ?_)
  refine XO.store_agg (vs := [.int .i64 x.made.n, .slice am x.made.bs.length capm]) 0 rfl z28 rfl rfl (by simp [Value.oneCell']) rfl (by simp) ?_
  refine XO.nil ?_
  refine XQ.then_normal ?_
  refine XC.seq ?_
  refine XC.join (ι := Nat) (fun q => [(2, .int .i64 n2), (3, .int .i64 n3), (4, .int .i64 n4), (6, .slice ay (y.take 20).length cy), (7, .pointer (some ⟨b7, 0, none⟩)), (8, .pointer (some ⟨b8, 0, none⟩)), (12, .pointer (some ⟨b12, 0, none⟩)), (15, .bool true), (16, .pointer (some ⟨b16, 0, none⟩)), (17, .pointer (some ⟨q, 0, none⟩))]) (fun q => J2) (fun q => some (q, .cells (⟨pickI z.fr x.made.n, pickI z.to x.made.n, pickI z.mo 400 - 200⟩ : Bnd).cs.toArray 30 (0, 0)) :: some (b16, .cells #[.int .i64 x.made.n, .slice am x.made.bs.length capm] 28 (0, 0)) :: some (b12, .cells z.cs.toArray 30 (0, 0)) :: some (b8, .cells #[.int .i64 e.n, .slice a1 e.bs.length cap1] 28 (0, 0)) :: some (b7, .cells #[.int .i64 x.n, .slice ah x.hidden.length ch, .slice ab x.bnds.length cb, .int .i64 x.miss] 25 (0, 0)) :: ([] ++ Lf)) (fun q => True) ?_ (fun b17 hb17 => ?_)
  · skip
    refine XC.draw m_mixed (some 16) (.pure 0 (.pure 1 (.pure 2 (.pure 3 (.pure 5 (.pure 6 (.pure 7 (.pure 8 (.pure 10 (.pure 11 (.alt 4 (.alt 9 (.alt 12 (.pure 13 (.pure 14 (.eff 15 (.eff 16 (.done))))) (.eff 15 (.eff 12 (.pure 13 (.pure 14 (.eff 16 (.done))))))) (.eff 15 (.eff 9 (.eff 12 (.pure 13 (.pure 14 (.eff 16 (.done)))))))) (.eff 15 (.eff 4 (.eff 9 (.eff 12 (.pure 13 (.pure 14 (.eff 16 (.done))))))))))))))))))) _ (by kernel_rfl) (List.Sublist.refl _) ?_
    refine XR.rd rfl rfl rfl (fa30_0 rfl) ?_
    refine XR.rd rfl rfl rfl (Reads.load_own k3 rfl (by first | exact OwnAt.of 0 rfl rfl | exact OwnAt.of 1 rfl rfl | exact OwnAt.of 2 rfl rfl | exact OwnAt.of 3 rfl rfl | exact OwnAt.of 4 rfl rfl | exact OwnAt.of 5 rfl rfl | exact OwnAt.of 6 rfl rfl | exact OwnAt.of 7 rfl rfl | exact OwnAt.of 8 rfl rfl)) ?_
    refine XR.rd rfl rfl rfl (fa28_0 rfl) ?_
    refine XR.rd rfl rfl rfl (Reads.load_own k3 rfl (by first | exact OwnAt.of 0 rfl rfl | exact OwnAt.of 1 rfl rfl | exact OwnAt.of 2 rfl rfl | exact OwnAt.of 3 rfl rfl | exact OwnAt.of 4 rfl rfl | exact OwnAt.of 5 rfl rfl | exact OwnAt.of 6 rfl rfl | exact OwnAt.of 7 rfl rfl | exact OwnAt.of 8 rfl rfl)) ?_
    refine XR.rd rfl rfl rfl (fa30_1 rfl) ?_
    refine XR.rd rfl rfl rfl (Reads.load_own k3 rfl (by first | exact OwnAt.of 0 rfl rfl | exact OwnAt.of 1 rfl rfl | exact OwnAt.of 2 rfl rfl | exact OwnAt.of 3 rfl rfl | exact OwnAt.of 4 rfl rfl | exact OwnAt.of 5 rfl rfl | exact OwnAt.of 6 rfl rfl | exact OwnAt.of 7 rfl rfl | exact OwnAt.of 8 rfl rfl)) ?_
    refine XR.rd rfl rfl rfl (fa28_0 rfl) ?_
    refine XR.rd rfl rfl rfl (Reads.load_own k3 rfl (by first | exact OwnAt.of 0 rfl rfl | exact OwnAt.of 1 rfl rfl | exact OwnAt.of 2 rfl rfl | exact OwnAt.of 3 rfl rfl | exact OwnAt.of 4 rfl rfl | exact OwnAt.of 5 rfl rfl | exact OwnAt.of 6 rfl rfl | exact OwnAt.of 7 rfl rfl | exact OwnAt.of 8 rfl rfl)) ?_
    refine XR.rd rfl rfl rfl (fa30_2 rfl) ?_
    refine XR.rd rfl rfl rfl (Reads.load_own k3 rfl (by first | exact OwnAt.of 0 rfl rfl | exact OwnAt.of 1 rfl rfl | exact OwnAt.of 2 rfl rfl | exact OwnAt.of 3 rfl rfl | exact OwnAt.of 4 rfl rfl | exact OwnAt.of 5 rfl rfl | exact OwnAt.of 6 rfl rfl | exact OwnAt.of 7 rfl rfl | exact OwnAt.of 8 rfl rfl)) ?_
    refine XR.alt ?_ ?_
    · skip
      refine XR.callp rfl rfl rfl en13 (pickL_any _ _ _ hz0 hmn) ⟨rfl, rfl, trivial⟩ (List.Sublist.refl _) ?_
      refine XR.alt ?_ ?_
      · skip
        refine XR.callp rfl rfl rfl en13 (pickL_any _ _ _ hz1 hmn) ⟨rfl, rfl, trivial⟩ (List.Sublist.refl _) ?_
        refine XR.alt ?_ ?_
        · skip
          refine XR.callp rfl rfl rfl en13 (pickL_any _ 400 _ hz2 (by decide)) ⟨rfl, rfl, trivial⟩ (List.Sublist.refl _) ?_
          refine XR.rd rfl rfl rfl (Reads.sub rfl rfl (by omega)) ?_
          refine XR.rd rfl rfl rfl (bd30 (vs := [(0, _), (1, _), (2, _)]) #[_, _, _] ⟨rfl, rfl, rfl, rfl, rfl, rfl, trivial⟩ rfl) ?_
          refine XR.alloc (cs := #[.int .i64 0, .int .i64 0, .int .i64 0]) rfl rfl rfl zo30 rfl (List.Sublist.refl _) (fun b17 => ?_)
          refine XR.store_agg (vs := (⟨pickI z.fr x.made.n, pickI z.to x.made.n, pickI z.mo 400 - 200⟩ : Bnd).cs) 0 rfl rfl z30 rfl rfl (by simp [Bnd.cs, Value.oneCell']) rfl (by simp [Bnd.cs]) (.inl rfl) ?_
          refine XR.nil ?_
          refine XQ.joined b17 trivial ⟨rfl, rfl, rfl, rfl, rfl, rfl, rfl, rfl, rfl, rfl, trivial⟩ rfl (List.Perm.refl _)
        · skip
          refine XR.alloc (cs := #[.int .i64 0, .int .i64 0, .int .i64 0]) rfl rfl rfl zo30 rfl (List.Sublist.refl _) (fun b17 => ?_)
          refine XR.callp rfl rfl rfl en13 (pickL_any _ 400 _ hz2 (by decide)) ⟨rfl, rfl, trivial⟩ (List.sublist_cons_self _ _) ?_
          refine XR.rd rfl rfl rfl (Reads.sub rfl rfl (by omega)) ?_
          refine XR.rd rfl rfl rfl (bd30 (vs := [(0, _), (1, _), (2, _)]) #[_, _, _] ⟨rfl, rfl, rfl, rfl, rfl, rfl, trivial⟩ rfl) ?_
          refine XR.store_agg (vs := (⟨pickI z.fr x.made.n, pickI z.to x.made.n, pickI z.mo 400 - 200⟩ : Bnd).cs) 0 rfl rfl z30 rfl rfl (by simp [Bnd.cs, Value.oneCell']) rfl (by simp [Bnd.cs]) (.inl rfl) ?_
          refine XR.nil ?_
          refine XQ.joined b17 trivial ⟨rfl, rfl, rfl, rfl, rfl, rfl, rfl, rfl, rfl, rfl, trivial⟩ rfl (List.Perm.refl _)
      · skip
        refine XR.alloc (cs := #[.int .i64 0, .int .i64 0, .int .i64 0]) rfl rfl rfl zo30 rfl (List.Sublist.refl _) (fun b17 => ?_)
        refine XR.callp rfl rfl rfl en13 (pickL_any _ _ _ hz1 hmn) ⟨rfl, rfl, trivial⟩ (List.sublist_cons_self _ _) ?_
        refine XR.callp rfl rfl rfl en13 (pickL_any _ 400 _ hz2 (by decide)) ⟨rfl, rfl, trivial⟩ (List.sublist_cons_self _ _) ?_
        refine XR.rd rfl rfl rfl (Reads.sub rfl rfl (by omega)) ?_
        refine XR.rd rfl rfl rfl (bd30 (vs := [(0, _), (1, _), (2, _)]) #[_, _, _] ⟨rfl, rfl, rfl, rfl, rfl, rfl, trivial⟩ rfl) ?_
        refine XR.store_agg (vs := (⟨pickI z.fr x.made.n, pickI z.to x.made.n, pickI z.mo 400 - 200⟩ : Bnd).cs) 0 rfl rfl z30 rfl rfl (by simp [Bnd.cs, Value.oneCell']) rfl (by simp [Bnd.cs]) (.inl rfl) ?_
        refine XR.nil ?_
        refine XQ.joined b17 trivial ⟨rfl, rfl, rfl, rfl, rfl, rfl, rfl, rfl, rfl, rfl, trivial⟩ rfl (List.Perm.refl _)
    · skip
      refine XR.alloc (cs := #[.int .i64 0, .int .i64 0, .int .i64 0]) rfl rfl rfl zo30 rfl (List.Sublist.refl _) (fun b17 => ?_)
      refine XR.callp rfl rfl rfl en13 (pickL_any _ _ _ hz0 hmn) ⟨rfl, rfl, trivial⟩ (List.sublist_cons_self _ _) ?_
      refine XR.callp rfl rfl rfl en13 (pickL_any _ _ _ hz1 hmn) ⟨rfl, rfl, trivial⟩ (List.sublist_cons_self _ _) ?_
      refine XR.callp rfl rfl rfl en13 (pickL_any _ 400 _ hz2 (by decide)) ⟨rfl, rfl, trivial⟩ (List.sublist_cons_self _ _) ?_
      refine XR.rd rfl rfl rfl (Reads.sub rfl rfl (by omega)) ?_
      refine XR.rd rfl rfl rfl (bd30 (vs := [(0, _), (1, _), (2, _)]) #[_, _, _] ⟨rfl, rfl, rfl, rfl, rfl, rfl, trivial⟩ rfl) ?_
      refine XR.store_agg (vs := (⟨pickI z.fr x.made.n, pickI z.to x.made.n, pickI z.mo 400 - 200⟩ : Bnd).cs) 0 rfl rfl z30 rfl rfl (by simp [Bnd.cs, Value.oneCell']) rfl (by simp [Bnd.cs]) (.inl rfl) ?_
      refine XR.nil ?_
      refine XQ.joined b17 trivial ⟨rfl, rfl, rfl, rfl, rfl, rfl, rfl, rfl, rfl, rfl, trivial⟩ rfl (List.Perm.refl _)
  · skip
    refine XQ.then_normal ?_
    refine XC.seq ?_
    refine XC.seq ?_
    refine XC.join (ι := Option Addr × Nat × Im × List Btw) (fun q => [(6, .slice ay (y.take 20).length cy), (7, .pointer (some ⟨b7, 0, none⟩)), (12, .pointer (some ⟨b12, 0, none⟩)), (15, .bool true), (17, .pointer (some ⟨b17, 0, none⟩)), (68, .slice q.1 3 q.2.1), (69, .int .i64 3), (70, .int .i64 0)]) (fun q => q.2.2.1) (fun q => some (b17, .cells (⟨pickI z.fr x.made.n, pickI z.to x.made.n, pickI z.mo 400 - 200⟩ : Bnd).cs.toArray 30 (0, 0)) :: some (b16, .cells #[.int .i64 x.made.n, .slice am x.made.bs.length capm] 28 (0, 0)) :: some (b12, .cells z.cs.toArray 30 (0, 0)) :: some (b8, .cells #[.int .i64 e.n, .slice a1 e.bs.length cap1] 28 (0, 0)) :: some (b7, .cells #[.int .i64 x.n, .slice ah x.hidden.length ch, .slice ab x.bnds.length cb, .int .i64 x.miss] 25 (0, 0)) :: ([] ++ Lf)) (fun q => I.le q.2.2.1 ∧ Arr q.2.2.1 ah x.hidden ∧ Arr q.2.2.1 ab x.bnds ∧ Arr q.2.2.1 ay y ∧ q.2.2.2.length = 3 ∧ (∀ c ∈ q.2.2.2, c.bs.length ≤ 100) ∧ Arr q.2.2.1 q.1 q.2.2.2) ?_ (fun q hq => ?_)
    · skip
      refine XC.draw m_mixed none (.pure 0 (.pure 1 (.pure 2 (.pure 3 (.pure 4 (.pure 6 (.pure 10 (.eff 5 (.eff 7 (.eff 8 (.pure 9 (.done)))))))))))) _ (by kernel_rfl) (List.Sublist.refl _) ?_
      refine XR.rd rfl rfl rfl (Reads.load_whole k28 z28 rfl (by first | exact WholeAt.of 0 rfl | exact WholeAt.of 1 rfl | exact WholeAt.of 2 rfl | exact WholeAt.of 3 rfl | exact WholeAt.of 4 rfl | exact WholeAt.of 5 rfl | exact WholeAt.of 6 rfl | exact WholeAt.of 7 rfl | exact WholeAt.of 8 rfl) (by rfl)) ?_
      refine XR.rd rfl rfl rfl (Reads.load_whole k28 z28 rfl (by first | exact WholeAt.of 0 rfl | exact WholeAt.of 1 rfl | exact WholeAt.of 2 rfl | exact WholeAt.of 3 rfl | exact WholeAt.of 4 rfl | exact WholeAt.of 5 rfl | exact WholeAt.of 6 rfl | exact WholeAt.of 7 rfl | exact WholeAt.of 8 rfl) (by rfl)) ?_
      refine XR.rd rfl rfl rfl (Reads.move rfl) ?_
      refine XR.rd rfl rfl rfl (Reads.move rfl) ?_
      refine XR.rd rfl rfl rfl (Reads.move rfl) ?_
      refine XR.rd rfl rfl rfl (Reads.load_whole k28 z28 rfl (by first | exact WholeAt.of 0 rfl | exact WholeAt.of 1 rfl | exact WholeAt.of 2 rfl | exact WholeAt.of 3 rfl | exact WholeAt.of 4 rfl | exact WholeAt.of 5 rfl | exact WholeAt.of 6 rfl | exact WholeAt.of 7 rfl | exact WholeAt.of 8 rfl) (by rfl)) ?_
      refine XR.rd rfl rfl rfl (Reads.move rfl) ?_
      refine XR.call rfl rfl rfl en14 (bent_any x.made n2 n3 n4 am capm _ hAm (by omega) hn2 hn4) ⟨rfl, rfl, rfl, rfl, trivial⟩ (List.Sublist.refl _) ?_
      rintro u J3 hle3 hr
      replace hI := Im.le_trans hI hle3
      replace hH := hH.mono hle3
      replace hB := hB.mono hle3
      replace hA1 := hA1.mono hle3
      replace hY := hY.mono hle3
      replace hAm := hAm.mono hle3
      obtain ⟨c1, hc1l, a1b, cap1b, rfl, hcap1b, hA1b⟩ := hr
      refine XR.callp rfl rfl rfl en15 (few_any e a1 cap1 _ hcap1 h631) ⟨rfl, trivial⟩ (List.Sublist.refl _) ?_
      refine XR.lit (α := Btw) [x.made, c1, ⟨e.n, e.bs.take 6⟩] [.agg #[.int .i64 x.made.n, .slice am x.made.bs.length capm], .agg #[.int .i64 c1.n, .slice a1b c1.bs.length cap1b], .agg #[.int .i64 e.n, .slice a1 (e.bs.take 6).length cap1]] [.int .i64 x.made.n, .slice am x.made.bs.length capm, .int .i64 c1.n, .slice a1b c1.bs.length cap1b, .int .i64 e.n, .slice a1 (e.bs.take 6).length cap1] rfl rfl rfl Try.underlying37 el28 rfl (by simp [Enc.sz]) ⟨rfl, rfl, rfl, rfl, rfl, rfl, trivial⟩ rfl rfl (by decide) (.cons (cs := [_, _]) (flat_btw hcapm hAm) (.cons (cs := [_, _]) (flat_btw hcap1b hA1b) (.cons (cs := [_, _]) (flat_btw (b := ⟨e.n, e.bs.take 6⟩) (by simp only [List.length_take]; omega) (hA1.take 6)) .nil))) rfl (List.Sublist.refl _) (fun J4 pb cpb hle4 hcpb hbl => ?_)
      replace hI := Im.le_trans hI hle4
      replace hH := hH.mono hle4
      replace hB := hB.mono hle4
      replace hA1 := hA1.mono hle4
      replace hY := hY.mono hle4
      replace hAm := hAm.mono hle4
      replace hA1b := hA1b.mono hle4
      refine XR.rd rfl rfl rfl (Reads.len_slice Try.underlying37 rfl) ?_
      refine XR.nil ?_
      refine XQ.joined (_, _, _, _) ⟨hI, hH, hB, hY, (rfl : [x.made, c1, ⟨e.n, e.bs.take 6⟩].length = 3), (by intro c hc; simp only [List.mem_cons, List.not_mem_nil, or_false] at hc; rcases hc with rfl | rfl | rfl <;> (try simp only [List.length_take]) <;> omega), hbl⟩ ⟨rfl, rfl, rfl, rfl, rfl, rfl, rfl, rfl, trivial⟩ rfl (List.Perm.refl _)
    · skip
      obtain ⟨pb, cpb, J0, bl⟩ := q
      obtain ⟨hI, hH, hB, hY, hbl3, hall, hbl⟩ := hq
      simp only at hI hH hB hY hbl3 hall hbl ⊢
      refine XQ.then_normal ?_
      refine XC.block ?_
      refine XC.loop (ι := Nat × Im) (fun q => [(6, .slice ay (y.take 20).length cy), (7, .pointer (some ⟨b7, 0, none⟩)), (12, .pointer (some ⟨b12, 0, none⟩)), (15, .bool true), (17, .pointer (some ⟨b17, 0, none⟩)), (68, .slice pb 3 cpb), (69, .int .i64 3), (70, .int .i64 q.1)]) (fun q => q.2) (fun q => some (b17, .cells (⟨pickI z.fr x.made.n, pickI z.to x.made.n, pickI z.mo 400 - 200⟩ : Bnd).cs.toArray 30 (0, 0)) :: some (b16, .cells #[.int .i64 x.made.n, .slice am x.made.bs.length capm] 28 (0, 0)) :: some (b12, .cells z.cs.toArray 30 (0, 0)) :: some (b8, .cells #[.int .i64 e.n, .slice a1 e.bs.length cap1] 28 (0, 0)) :: some (b7, .cells #[.int .i64 x.n, .slice ah x.hidden.length ch, .slice ab x.bnds.length cb, .int .i64 x.miss] 25 (0, 0)) :: ([] ++ Lf)) (fun q => I.le q.2 ∧ Arr q.2 ah x.hidden ∧ Arr q.2 ab x.bnds ∧ Arr q.2 ay y ∧ q.1 ≤ 3 ∧ Arr q.2 pb bl) (fun q => 3 - q.1) (0, J0) ⟨hI, hH, hB, hY, Nat.zero_le _, hbl⟩ ⟨rfl, rfl, rfl, rfl, rfl, rfl, rfl, rfl, trivial⟩ rfl (List.Perm.refl _) (fun q hq => ?_)
      clear hI hH hB hY hbl
      obtain ⟨k, J1⟩ := q
      obtain ⟨hI, hH, hB, hY, hk1, hbl⟩ := hq
      simp only at hI hH hB hY hk1 hbl ⊢
      refine XC.seq ?_
      refine XC.region ?_
      refine XO.rd rfl rfl rfl (Reads.cmp rfl rfl rfl) ?_
      refine XO.nil ?_
      refine XQ.then_normal ?_
      refine XC.seq ?_
      refine XC.cond rfl (fun h1 => ?_) (fun h1 => ?_)
      · skip
        simp only [cmpInt, decide_eq_true_eq] at h1
        have hk3 : k < bl.length := by omega
        obtain ⟨a, cap, _, hA, hbk⟩ := hbl.btw hk3
        have hlen0 := hall _ (List.getElem_mem hk3)
        generalize bl[k] = b at hA hbk hlen0
        refine XC.skip ?_
        refine XQ.then_normal ?_
        refine XC.seq ?_
        refine XC.block ?_
        refine XC.seq ?_
        refine XC.region ?_
        refine XO.rd rfl rfl rfl (Reads.index_slot (q := k * 2) Try.underlying37 z28 rfl rfl (by omega) (hbl.isSome (by decide) (by omega)) rfl) ?_
        refine XO.rd rfl rfl rfl (Reads.load_agg_at (vs := [.int .i64 b.n, .slice a b.bs.length cap]) k28 z28 rfl (hbl.addr (by decide) (by omega)) hbk) ?_
        refine XO.alloc (cs := #[.int .i64 0, .slice none 0 0]) rfl rfl zo28 rfl (fun b19 => ?_)
        refine XO.store_agg (vs := [.int .i64 b.n, .slice a b.bs.length cap]) 0 rfl z28 rfl rfl (by simp [Value.oneCell']) rfl (by simp) ?_
        refine XO.nil ?_
        refine XQ.then_normal ?_
        refine XC.seq ?_
        refine XC.region ?_
        refine XO.rd rfl rfl rfl (Reads.load_whole k28 z28 rfl (by first | exact WholeAt.of 0 rfl | exact WholeAt.of 1 rfl | exact WholeAt.of 2 rfl | exact WholeAt.of 3 rfl | exact WholeAt.of 4 rfl | exact WholeAt.of 5 rfl | exact WholeAt.of 6 rfl | exact WholeAt.of 7 rfl | exact WholeAt.of 8 rfl) (by rfl)) ?_
        refine XO.call rfl rfl en16 (close_any b a cap _ hA (by omega)) ⟨rfl, trivial⟩ ?_
        rintro u J5 hle5 hr
        replace hI := Im.le_trans hI hle5
        replace hH := hH.mono hle5
        replace hB := hB.mono hle5
        replace hY := hY.mono hle5
        replace hbl := hbl.mono hle5
        replace hA := hA.mono hle5
        obtain ⟨ac, cc, rfl, _, hC⟩ := hr.anyc
        refine XO.rd rfl rfl rfl (Reads.move rfl) ?_
        refine XO.rd rfl rfl rfl (Reads.extract rfl rfl) ?_
        refine XO.rd rfl rfl rfl (Reads.extract rfl rfl) ?_
        refine XO.rd rfl rfl rfl (Reads.assign rfl) ?_
        refine XO.rd rfl rfl rfl (Reads.assign rfl) ?_
        refine XO.nil ?_
        refine XQ.then_normal ?_
        refine XC.seq ?_
        refine XC.region ?_
        refine XO.rd rfl rfl rfl (Reads.load_whole k28 z28 rfl (by first | exact WholeAt.of 0 rfl | exact WholeAt.of 1 rfl | exact WholeAt.of 2 rfl | exact WholeAt.of 3 rfl | exact WholeAt.of 4 rfl | exact WholeAt.of 5 rfl | exact WholeAt.of 6 rfl | exact WholeAt.of 7 rfl | exact WholeAt.of 8 rfl) (by rfl)) ?_
        refine XO.call rfl rfl en17 (rclose_any b a cap _ hA (by omega)) ⟨rfl, trivial⟩ ?_
        rintro u J6 hle6 hr
        replace hI := Im.le_trans hI hle6
        replace hH := hH.mono hle6
        replace hB := hB.mono hle6
        replace hY := hY.mono hle6
        replace hbl := hbl.mono hle6
        replace hA := hA.mono hle6
        replace hC := hC.mono hle6
        obtain ⟨ad, cd, rfl, _, hD⟩ := hr.anyc
        refine XO.rd rfl rfl rfl (Reads.move rfl) ?_
        refine XO.rd rfl rfl rfl (Reads.extract rfl rfl) ?_
        refine XO.rd rfl rfl rfl (Reads.extract rfl rfl) ?_
        refine XO.rd rfl rfl rfl (Reads.assign rfl) ?_
        refine XO.rd rfl rfl rfl (Reads.assign rfl) ?_
        refine XO.nil ?_
        refine XQ.then_normal ?_
        refine XC.seq ?_
        refine XC.region ?_
        refine XO.rd rfl rfl rfl (Reads.load_whole k28 z28 rfl (by first | exact WholeAt.of 0 rfl | exact WholeAt.of 1 rfl | exact WholeAt.of 2 rfl | exact WholeAt.of 3 rfl | exact WholeAt.of 4 rfl | exact WholeAt.of 5 rfl | exact WholeAt.of 6 rfl | exact WholeAt.of 7 rfl | exact WholeAt.of 8 rfl) (by rfl)) ?_
        refine XO.call rfl rfl en18 (solve_any b a cap _ hA (by omega)) ⟨rfl, trivial⟩ ?_
        rintro u J7 hle7 hr
        replace hI := Im.le_trans hI hle7
        replace hH := hH.mono hle7
        replace hB := hB.mono hle7
        replace hY := hY.mono hle7
        replace hbl := hbl.mono hle7
        replace hA := hA.mono hle7
        replace hC := hC.mono hle7
        replace hD := hD.mono hle7
        obtain ⟨as_, cs, rfl, _, hS⟩ := hr.anyc
        refine XO.rd rfl rfl rfl (Reads.move rfl) ?_
        refine XO.rd rfl rfl rfl (Reads.extract rfl rfl) ?_
        refine XO.rd rfl rfl rfl (Reads.extract rfl rfl) ?_
        refine XO.rd rfl rfl rfl (Reads.assign rfl) ?_
        refine XO.rd rfl rfl rfl (Reads.assign rfl) ?_
        refine XO.nil ?_
        refine XQ.then_normal ?_
        refine XC.seq ?_
        refine XC.region ?_
        refine XO.rd rfl rfl rfl (Reads.load_whole k28 z28 rfl (by first | exact WholeAt.of 0 rfl | exact WholeAt.of 1 rfl | exact WholeAt.of 2 rfl | exact WholeAt.of 3 rfl | exact WholeAt.of 4 rfl | exact WholeAt.of 5 rfl | exact WholeAt.of 6 rfl | exact WholeAt.of 7 rfl | exact WholeAt.of 8 rfl) (by rfl)) ?_
        refine XO.call rfl rfl en19 (rsolve_any b a cap _ hA (by omega)) ⟨rfl, trivial⟩ ?_
        rintro u J8 hle8 hr
        replace hI := Im.le_trans hI hle8
        replace hH := hH.mono hle8
        replace hB := hB.mono hle8
        replace hY := hY.mono hle8
        replace hbl := hbl.mono hle8
        replace hA := hA.mono hle8
        replace hC := hC.mono hle8
        replace hD := hD.mono hle8
        replace hS := hS.mono hle8
        obtain ⟨at_, ct, rfl, hct, hT⟩ := hr.anyc
        refine XO.rd rfl rfl rfl (Reads.move rfl) ?_
        refine XO.rd rfl rfl rfl (Reads.extract rfl rfl) ?_
        refine XO.rd rfl rfl rfl (Reads.extract rfl rfl) ?_
        refine XO.rd rfl rfl rfl (Reads.assign rfl) ?_
        refine XO.rd rfl rfl rfl (Reads.assign rfl) ?_
        refine XO.nil ?_
        refine XQ.then_normal ?_
        refine XC.seq ?_
        refine XC.region ?_
        refine XO.rd rfl rfl rfl (Reads.load_whole k28 z28 rfl (by first | exact WholeAt.of 0 rfl | exact WholeAt.of 1 rfl | exact WholeAt.of 2 rfl | exact WholeAt.of 3 rfl | exact WholeAt.of 4 rfl | exact WholeAt.of 5 rfl | exact WholeAt.of 6 rfl | exact WholeAt.of 7 rfl | exact WholeAt.of 8 rfl) (by rfl)) ?_
        refine XO.call rfl rfl en20 (cycle_any b a cap _ hA (by omega) Btw.csteps) ⟨rfl, trivial⟩ ?_
        rintro u J9 hle9 hr
        replace hI := Im.le_trans hI hle9
        replace hH := hH.mono hle9
        replace hB := hB.mono hle9
        replace hY := hY.mono hle9
        replace hbl := hbl.mono hle9
        replace hA := hA.mono hle9
        replace hC := hC.mono hle9
        replace hD := hD.mono hle9
        replace hS := hS.mono hle9
        replace hT := hT.mono hle9
        obtain ⟨au, cu, rfl, _, hU⟩ := hr.anyc
        refine XO.rd rfl rfl rfl (Reads.move rfl) ?_
        refine XO.rd rfl rfl rfl (Reads.extract rfl rfl) ?_
        refine XO.rd rfl rfl rfl (Reads.extract rfl rfl) ?_
        refine XO.rd rfl rfl rfl (Reads.assign rfl) ?_
        refine XO.rd rfl rfl rfl (Reads.assign rfl) ?_
        refine XO.nil ?_
        refine XQ.then_normal ?_
        refine XC.seq ?_
        refine XC.weaken (E' := [(6, _), (7, _), (12, _), (15, _), (17, _), (19, _), (20, _), (21, _), (22, _), (23, _), (24, _), (25, _), (26, _), (27, _), (28, _), (29, _), (68, _), (69, _), (70, _)]) ⟨rfl, rfl, rfl, rfl, rfl, rfl, rfl, rfl, rfl, rfl, rfl, rfl, rfl, rfl, rfl, rfl, rfl, rfl, rfl, trivial⟩ ?_
        refine XC.region ?_
        refine XO.rd rfl rfl rfl (Reads.load_whole k28 z28 rfl (by first | exact WholeAt.of 0 rfl | exact WholeAt.of 1 rfl | exact WholeAt.of 2 rfl | exact WholeAt.of 3 rfl | exact WholeAt.of 4 rfl | exact WholeAt.of 5 rfl | exact WholeAt.of 6 rfl | exact WholeAt.of 7 rfl | exact WholeAt.of 8 rfl) (by rfl)) ?_
        refine XO.call rfl rfl en21 (rcycle_any b a cap _ hA (by omega)) ⟨rfl, trivial⟩ ?_
        rintro u J10 hle10 hr
        replace hI := Im.le_trans hI hle10
        replace hH := hH.mono hle10
        replace hB := hB.mono hle10
        replace hY := hY.mono hle10
        replace hbl := hbl.mono hle10
        replace hA := hA.mono hle10
        replace hC := hC.mono hle10
        replace hD := hD.mono hle10
        replace hS := hS.mono hle10
        replace hT := hT.mono hle10
        replace hU := hU.mono hle10
        obtain ⟨aw, cw, rfl, hcw, hW⟩ := hr.anyc
        refine XO.rd rfl rfl rfl (Reads.move rfl) ?_
        refine XO.rd rfl rfl rfl (Reads.extract rfl rfl) ?_
        refine XO.rd rfl rfl rfl (Reads.extract rfl rfl) ?_
        refine XO.rd rfl rfl rfl (Reads.assign rfl) ?_
        refine XO.rd rfl rfl rfl (Reads.assign rfl) ?_
        refine XO.nil ?_
        refine XQ.then_normal ?_
        refine XC.seq ?_
        refine XC.seq ?_
        refine XC.draw m_mixed none (.pure 0 (.pure 2 (.eff 1 (.eff 3 (.pure 4 (.pure 5 (.pure 6 (.pure 7 (.pure 8 (.pure 9 (.pure 10 (.pure 11 (.pure 12 (.pure 13 (.pure 14 (.pure 15 (.pure 16 (.pure 17 (.pure 18 (.pure 19 (.pure 20 (.pure 21 (.pure 22 (.eff 23 (.pure 24 (.pure 25 (.pure 26 (.pure 27 (.pure 28 (.eff 29 (.pure 30 (.pure 31 (.pure 32 (.pure 33 (.pure 34 (.eff 35 (.pure 36 (.pure 37 (.done))))))))))))))))))))))))))))))))))))))) _ (by kernel_rfl) (List.Sublist.refl _) ?_
        refine XR.rd rfl rfl rfl (Reads.load_whole k28 z28 rfl (by first | exact WholeAt.of 0 rfl | exact WholeAt.of 1 rfl | exact WholeAt.of 2 rfl | exact WholeAt.of 3 rfl | exact WholeAt.of 4 rfl | exact WholeAt.of 5 rfl | exact WholeAt.of 6 rfl | exact WholeAt.of 7 rfl | exact WholeAt.of 8 rfl) (by rfl)) ?_
        refine XR.rd rfl rfl rfl (Reads.load_whole k28 z28 rfl (by first | exact WholeAt.of 0 rfl | exact WholeAt.of 1 rfl | exact WholeAt.of 2 rfl | exact WholeAt.of 3 rfl | exact WholeAt.of 4 rfl | exact WholeAt.of 5 rfl | exact WholeAt.of 6 rfl | exact WholeAt.of 7 rfl | exact WholeAt.of 8 rfl) (by rfl)) ?_
        refine XR.callp rfl rfl rfl en22 (valid_any b a cap _ hA (by omega)) ⟨rfl, trivial⟩ (List.Sublist.refl _) ?_
        refine XR.callp rfl rfl rfl en23 (rvalid_any b a cap _ hA (by omega)) ⟨rfl, trivial⟩ (List.Sublist.refl _) ?_
        refine XR.rd rfl rfl rfl (Reads.neq_bool Try.underlying4 rfl rfl) ?_
        rw [bne_self_eq_false]
        refine XR.rd rfl rfl rfl (Reads.move rfl) ?_
        refine XR.rd rfl (wg rfl rfl rfl) rfl (Reads.move rfl) ?_
        refine XR.rd rfl (wg rfl rfl rfl) rfl (Reads.move rfl) ?_
        refine XR.rd rfl (wg rfl rfl rfl) rfl (Reads.cmp rfl rfl rfl) ?_
        rw [cmp_ne_self]
        refine XR.rd rfl rfl rfl (Reads.pick_false rfl rfl) ?_
        refine XR.rd rfl rfl rfl (Reads.move rfl) ?_
        refine XR.rd rfl (wg rfl rfl rfl) rfl (Reads.move rfl) ?_
        refine XR.rd rfl (wg rfl rfl rfl) rfl (Reads.move rfl) ?_
        refine XR.rd rfl (wg rfl rfl rfl) rfl (Reads.cmp rfl rfl rfl) ?_
        rw [cmp_ne_self]
        refine XR.rd rfl rfl rfl (Reads.pick_false rfl rfl) ?_
        refine XR.rd rfl rfl rfl (Reads.move rfl) ?_
        refine XR.rd rfl (wg rfl rfl rfl) rfl (Reads.move rfl) ?_
        refine XR.rd rfl (wg rfl rfl rfl) rfl (Reads.move rfl) ?_
        refine XR.rd rfl (wg rfl rfl rfl) rfl (Reads.neq_bool Try.underlying4 rfl rfl) ?_
        rw [bne_self_eq_false]
        refine XR.rd rfl rfl rfl (Reads.pick_false rfl rfl) ?_
        refine XR.rd rfl rfl rfl (Reads.move rfl) ?_
        refine XR.rd rfl (wg rfl rfl rfl) rfl (Reads.move rfl) ?_
        refine XR.rd rfl (wg rfl rfl rfl) rfl (Reads.move rfl) ?_
        refine XR.callp rfl (wg rfl rfl rfl) rfl en24 (FC.boolEq (tables_any ac ad cc cd (b.close.getD []) (b.close.getD []) _ hC hD (by have := (close_len b).1; omega) (fun r hr => by have := (close_len b).2 r hr; omega)) (decide_eq_true rfl)) ⟨rfl, rfl, trivial⟩ (List.Sublist.refl _) ?_
        refine XR.rd rfl (wg rfl rfl rfl) rfl (Reads.not rfl) ?_
        refine XR.rd rfl rfl rfl (Reads.pick_false rfl rfl) ?_
        refine XR.rd rfl rfl rfl (Reads.move rfl) ?_
        refine XR.rd rfl (wg rfl rfl rfl) rfl (Reads.move rfl) ?_
        refine XR.rd rfl (wg rfl rfl rfl) rfl (Reads.move rfl) ?_
        refine XR.callp rfl (wg rfl rfl rfl) rfl en25 (FC.boolEq (ints_any as_ at_ cs ct (b.solve.getD []) (b.solve.getD []) _ hS hT (by have := solve_len b; omega)) (decide_eq_true rfl)) ⟨rfl, rfl, trivial⟩ (List.Sublist.refl _) ?_
        refine XR.rd rfl (wg rfl rfl rfl) rfl (Reads.not rfl) ?_
        refine XR.rd rfl rfl rfl (Reads.pick_false rfl rfl) ?_
        refine XR.rd rfl rfl rfl (Reads.move rfl) ?_
        refine XR.rd rfl (wg rfl rfl rfl) rfl (Reads.move rfl) ?_
        refine XR.rd rfl (wg rfl rfl rfl) rfl (Reads.move rfl) ?_
        refine XR.callp rfl (wg rfl rfl rfl) rfl en25 (FC.boolEq (ints_any au aw cu cw (b.cycle.getD []) (b.cycle.getD []) _ hU hW (by have := cycle_len b; omega)) (decide_eq_true rfl)) ⟨rfl, rfl, trivial⟩ (List.Sublist.refl _) ?_
        refine XR.rd rfl (wg rfl rfl rfl) rfl (Reads.not rfl) ?_
        refine XR.rd rfl rfl rfl (Reads.pick_false rfl rfl) ?_
        refine XR.nil ?_
        refine XQ.then_normal ?_
        refine XC.cond rfl (fun hx => by cases hx) (fun _ => ?_)
        refine XC.skip ?_
        refine XQ.then_normal ?_
        refine XC.seq ?_
        refine XC.seq ?_
        refine XC.weaken (E' := [(6, _), (7, _), (12, _), (15, _), (17, _), (19, _), (26, _), (30, _), (68, _), (69, _), (70, _)]) ⟨rfl, rfl, rfl, rfl, rfl, rfl, rfl, rfl, rfl, rfl, rfl, trivial⟩ ?_
        refine XC.region ?_
        refine XO.rd rfl rfl rfl (Reads.move rfl) ?_
        refine XO.rd rfl rfl rfl (Reads.move rfl) ?_
        refine XO.rd rfl rfl rfl (Reads.load_whole k25 z25 rfl (by first | exact WholeAt.of 0 rfl | exact WholeAt.of 1 rfl | exact WholeAt.of 2 rfl | exact WholeAt.of 3 rfl | exact WholeAt.of 4 rfl | exact WholeAt.of 5 rfl | exact WholeAt.of 6 rfl | exact WholeAt.of 7 rfl | exact WholeAt.of 8 rfl) (by rfl)) ?_
        refine XO.call rfl rfl en26 (hidden_any x ah ab ch cb _ hx hH hB) ⟨rfl, trivial⟩ ?_
        rintro u J11 hle11 hr
        replace hI := Im.le_trans hI hle11
        replace hH := hH.mono hle11
        replace hB := hB.mono hle11
        replace hY := hY.mono hle11
        replace hbl := hbl.mono hle11
        replace hA := hA.mono hle11
        replace hC := hC.mono hle11
        replace hD := hD.mono hle11
        replace hS := hS.mono hle11
        replace hT := hT.mono hle11
        replace hU := hU.mono hle11
        replace hW := hW.mono hle11
        obtain ⟨av, cv, rfl, hcv, hHd⟩ := hr.ex
        refine XO.rd rfl rfl rfl (Reads.move rfl) ?_
        refine XO.lit (α := List Int) [y.take 20, b.cycle.getD [], x.hid, b.solve.getD []] [.slice ay (y.take 20).length cy, .slice aw (b.cycle.getD []).length cw, .slice av x.hid.length cv, .slice at_ (b.solve.getD []).length ct] [.slice ay (y.take 20).length cy, .slice aw (b.cycle.getD []).length cw, .slice av x.hid.length cv, .slice at_ (b.solve.getD []).length ct] rfl rfl Try.underlying38 el22 rfl (by simp) ⟨rfl, rfl, rfl, rfl, rfl, rfl, rfl, rfl, trivial⟩ rfl rfl (by decide) rfl (.cons (cs := [_]) ⟨_, rfl, ⟨_, _, rfl, (by rw [List.length_take]; omega), (hY.take 20)⟩⟩ (.cons (cs := [_]) ⟨_, rfl, ⟨_, _, rfl, hcw, hW⟩⟩ (.cons (cs := [_]) ⟨_, rfl, ⟨_, _, rfl, hcv, hHd⟩⟩ (.cons (cs := [_]) ⟨_, rfl, ⟨_, _, rfl, hct, hT⟩⟩ .nil)))) (fun bl2 J12 hle12 hls => ?_)
        replace hI := Im.le_trans hI hle12
        replace hH := hH.mono hle12
        replace hB := hB.mono hle12
        replace hY := hY.mono hle12
        replace hbl := hbl.mono hle12
        replace hA := hA.mono hle12
        replace hC := hC.mono hle12
        replace hD := hD.mono hle12
        replace hS := hS.mono hle12
        replace hT := hT.mono hle12
        replace hU := hU.mono hle12
        replace hW := hW.mono hle12
        replace hHd := hHd.mono hle12
        refine XO.rd rfl rfl rfl (Reads.len_slice Try.underlying38 rfl) ?_
        refine XO.rd rfl rfl rfl (Reads.move rfl) ?_
        refine XO.nil ?_
        refine XQ.then_normal ?_
        refine XC.block ?_
        obtain ⟨ls, hls4, hlall, hlsA⟩ : ∃ ls : List (List Int), ls.length = 4 ∧ (∀ l ∈ ls, l.length ≤ 100) ∧ Arr _ (some ⟨bl2, 0, none⟩) ls := ⟨_, rfl, (by intro l hl; simp only [List.mem_cons, List.not_mem_nil, or_false] at hl; have h91 := cycle_len b; have h92 := x.hid_len; have h93 := solve_len b; rcases hl with rfl | rfl | rfl | rfl <;> (try simp only [List.length_take]) <;> omega), hls.arr.1⟩
        refine XC.loop (ι := Nat) (fun q => [(6, .slice ay (y.take 20).length cy), (7, .pointer (some ⟨b7, 0, none⟩)), (12, .pointer (some ⟨b12, 0, none⟩)), (15, .bool true), (17, .pointer (some ⟨b17, 0, none⟩)), (19, .pointer (some ⟨b19, 0, none⟩)), (68, .slice pb 3 cpb), (69, .int .i64 3), (70, .int .i64 k), (147, .slice (some ⟨bl2, 0, none⟩) 4 4), (148, .int .i64 4), (149, .int .i64 q)]) (fun q => J12) (fun q => some (b19, .cells #[.int .i64 b.n, .slice a b.bs.length cap] 28 (0, 0)) :: some (b17, .cells (⟨pickI z.fr x.made.n, pickI z.to x.made.n, pickI z.mo 400 - 200⟩ : Bnd).cs.toArray 30 (0, 0)) :: some (b16, .cells #[.int .i64 x.made.n, .slice am x.made.bs.length capm] 28 (0, 0)) :: some (b12, .cells z.cs.toArray 30 (0, 0)) :: some (b8, .cells #[.int .i64 e.n, .slice a1 e.bs.length cap1] 28 (0, 0)) :: some (b7, .cells #[.int .i64 x.n, .slice ah x.hidden.length ch, .slice ab x.bnds.length cb, .int .i64 x.miss] 25 (0, 0)) :: ([] ++ Lf)) (fun q => q ≤ 4) (fun q => 4 - q) 0 (Nat.zero_le _) ⟨rfl, rfl, rfl, rfl, rfl, rfl, rfl, rfl, rfl, rfl, rfl, rfl, trivial⟩ rfl (List.Perm.refl _) (fun k2 hk2 => ?_)
        refine XC.seq ?_
        refine XC.region ?_
        refine XO.rd rfl rfl rfl (Reads.cmp rfl rfl rfl) ?_
        refine XO.nil ?_
        refine XQ.then_normal ?_
        refine XC.seq ?_
        refine XC.cond rfl (fun h2 => ?_) (fun h2 => ?_)
        · skip
          simp only [cmpInt, decide_eq_true_eq] at h2
          have hk4 : k2 < ls.length := by omega
          obtain ⟨v2, hv2, hs2⟩ := hlsA.sl hk4
          obtain ⟨al, cl, rfl, _, hL⟩ := hs2.ex
          have hll := hlall _ (List.getElem_mem hk4)
          generalize ls[k2] = l at hv2 hL hll
          refine XC.skip ?_
          refine XQ.then_normal ?_
          refine XC.seq ?_
          refine XC.block ?_
          refine XC.seq ?_
          refine XC.region ?_
          refine XO.rd rfl rfl rfl (Reads.index_slot Try.underlying38 z22 rfl rfl (by omega) hv2.isSome rfl) ?_
          refine XO.rd rfl rfl rfl (Reads.load_at k22 rfl hv2) ?_
          refine XO.rd rfl rfl rfl (Reads.assign rfl) ?_
          refine XO.nil ?_
          refine XQ.then_normal ?_
          refine XC.seq ?_
          refine XC.draw m_mixed none (.pure 0 (.pure 1 (.pure 3 (.pure 4 (.eff 2 (.eff 5 (.pure 6 (.pure 7 (.pure 8 (.pure 9 (.pure 11 (.pure 12 (.eff 10 (.eff 13 (.pure 14 (.pure 15 (.pure 16 (.pure 17 (.pure 18 (.pure 19 (.pure 21 (.pure 22 (.pure 23 (.eff 20 (.eff 24 (.pure 25 (.pure 26 (.done)))))))))))))))))))))))))))) _ (by kernel_rfl) (List.Sublist.refl _) ?_
          refine XR.rd rfl rfl rfl (Reads.load_whole k28 z28 rfl (by first | exact WholeAt.of 0 rfl | exact WholeAt.of 1 rfl | exact WholeAt.of 2 rfl | exact WholeAt.of 3 rfl | exact WholeAt.of 4 rfl | exact WholeAt.of 5 rfl | exact WholeAt.of 6 rfl | exact WholeAt.of 7 rfl | exact WholeAt.of 8 rfl) (by rfl)) ?_
          refine XR.rd rfl rfl rfl (Reads.move rfl) ?_
          refine XR.rd rfl rfl rfl (Reads.load_whole k28 z28 rfl (by first | exact WholeAt.of 0 rfl | exact WholeAt.of 1 rfl | exact WholeAt.of 2 rfl | exact WholeAt.of 3 rfl | exact WholeAt.of 4 rfl | exact WholeAt.of 5 rfl | exact WholeAt.of 6 rfl | exact WholeAt.of 7 rfl | exact WholeAt.of 8 rfl) (by rfl)) ?_
          refine XR.rd rfl rfl rfl (Reads.move rfl) ?_
          refine XR.callp rfl rfl rfl en27 (allowed_any b a cap al l cl _ hA hL (by omega) (by omega)) ⟨rfl, rfl, trivial⟩ (List.Sublist.refl _) ?_
          refine XR.callp rfl rfl rfl en28 (rallowed_any b a cap al l cl _ hA (by omega) hL (by omega)) ⟨rfl, rfl, trivial⟩ (List.Sublist.refl _) ?_
          refine XR.rd rfl rfl rfl (Reads.neq_bool Try.underlying4 rfl rfl) ?_
          rw [bne_self_eq_false]
          refine XR.rd rfl rfl rfl (Reads.move rfl) ?_
          refine XR.rd rfl (wg rfl rfl rfl) rfl (Reads.load_whole k28 z28 rfl (by first | exact WholeAt.of 0 rfl | exact WholeAt.of 1 rfl | exact WholeAt.of 2 rfl | exact WholeAt.of 3 rfl | exact WholeAt.of 4 rfl | exact WholeAt.of 5 rfl | exact WholeAt.of 6 rfl | exact WholeAt.of 7 rfl | exact WholeAt.of 8 rfl) (by rfl)) ?_
          refine XR.rd rfl (wg rfl rfl rfl) rfl (Reads.move rfl) ?_
          refine XR.rd rfl (wg rfl rfl rfl) rfl (Reads.load_whole k28 z28 rfl (by first | exact WholeAt.of 0 rfl | exact WholeAt.of 1 rfl | exact WholeAt.of 2 rfl | exact WholeAt.of 3 rfl | exact WholeAt.of 4 rfl | exact WholeAt.of 5 rfl | exact WholeAt.of 6 rfl | exact WholeAt.of 7 rfl | exact WholeAt.of 8 rfl) (by rfl)) ?_
          refine XR.rd rfl (wg rfl rfl rfl) rfl (Reads.move rfl) ?_
          refine XR.callp rfl (wg rfl rfl rfl) rfl en29 (checkCycle_any b a cap al l cl _ hA hL (by omega) (by omega)) ⟨rfl, rfl, trivial⟩ (List.Sublist.refl _) ?_
          refine XR.callp rfl (wg rfl rfl rfl) rfl en30 (rcheckCycle_any b a cap al l cl _ hA (by omega) hL (by omega)) ⟨rfl, rfl, trivial⟩ (List.Sublist.refl _) ?_
          refine XR.rd rfl (wg rfl rfl rfl) rfl (Reads.neq_bool Try.underlying4 rfl rfl) ?_
          rw [bne_self_eq_false]
          refine XR.rd rfl rfl rfl (Reads.pick_false rfl rfl) ?_
          refine XR.rd rfl rfl rfl (Reads.move rfl) ?_
          refine XR.rd rfl (wg rfl rfl rfl) rfl (Reads.load_whole k28 z28 rfl (by first | exact WholeAt.of 0 rfl | exact WholeAt.of 1 rfl | exact WholeAt.of 2 rfl | exact WholeAt.of 3 rfl | exact WholeAt.of 4 rfl | exact WholeAt.of 5 rfl | exact WholeAt.of 6 rfl | exact WholeAt.of 7 rfl | exact WholeAt.of 8 rfl) (by rfl)) ?_
          refine XR.rd rfl (wg rfl rfl rfl) rfl (Reads.load_whole k30 z30 rfl (by first | exact WholeAt.of 0 rfl | exact WholeAt.of 1 rfl | exact WholeAt.of 2 rfl | exact WholeAt.of 3 rfl | exact WholeAt.of 4 rfl | exact WholeAt.of 5 rfl | exact WholeAt.of 6 rfl | exact WholeAt.of 7 rfl | exact WholeAt.of 8 rfl) (by rfl)) ?_
          refine XR.rd rfl (wg rfl rfl rfl) rfl (Reads.move rfl) ?_
          refine XR.rd rfl (wg rfl rfl rfl) rfl (Reads.load_whole k28 z28 rfl (by first | exact WholeAt.of 0 rfl | exact WholeAt.of 1 rfl | exact WholeAt.of 2 rfl | exact WholeAt.of 3 rfl | exact WholeAt.of 4 rfl | exact WholeAt.of 5 rfl | exact WholeAt.of 6 rfl | exact WholeAt.of 7 rfl | exact WholeAt.of 8 rfl) (by rfl)) ?_
          refine XR.rd rfl (wg rfl rfl rfl) rfl (Reads.load_whole k30 z30 rfl (by first | exact WholeAt.of 0 rfl | exact WholeAt.of 1 rfl | exact WholeAt.of 2 rfl | exact WholeAt.of 3 rfl | exact WholeAt.of 4 rfl | exact WholeAt.of 5 rfl | exact WholeAt.of 6 rfl | exact WholeAt.of 7 rfl | exact WholeAt.of 8 rfl) (by rfl)) ?_
          refine XR.rd rfl (wg rfl rfl rfl) rfl (Reads.move rfl) ?_
          refine XR.callp rfl (wg rfl rfl rfl) rfl en31 (checkChain_any b z a cap al l cl _ hA hL (by omega) (by omega)) ⟨rfl, rfl, rfl, trivial⟩ (List.Sublist.refl _) ?_
          refine XR.callp rfl (wg rfl rfl rfl) rfl en32 (rcheckChain_any b z a cap al l cl _ hA (by omega) hL (by omega)) ⟨rfl, rfl, rfl, trivial⟩ (List.Sublist.refl _) ?_
          refine XR.rd rfl (wg rfl rfl rfl) rfl (Reads.neq_bool Try.underlying4 rfl rfl) ?_
          rw [bne_self_eq_false]
          refine XR.rd rfl rfl rfl (Reads.pick_false rfl rfl) ?_
          refine XR.nil ?_
          refine XQ.then_normal ?_
          refine XC.cond rfl (fun hx => by cases hx) (fun _ => ?_)
          refine XC.skip ?_
          refine XQ.block_normal ?_
          refine XQ.then_normal ?_
          refine XC.weaken (E' := [(6, _), (7, _), (12, _), (15, _), (17, _), (19, _), (68, _), (69, _), (70, _), (147, _), (148, _), (149, _)]) ⟨rfl, rfl, rfl, rfl, rfl, rfl, rfl, rfl, rfl, rfl, rfl, rfl, trivial⟩ ?_
          refine XC.region ?_
          refine XO.rd rfl rfl rfl (Reads.add rfl rfl (by omega)) ?_
          refine XO.rd rfl rfl rfl (Reads.move rfl) ?_
          refine XO.nil ?_
          refine XQ.back (k2 + 1) (by omega) (by omega) ⟨rfl, rfl, rfl, rfl, rfl, rfl, rfl, rfl, rfl, rfl, rfl, rfl, trivial⟩ rfl (List.Perm.refl _)
        · skip
          simp only [cmpInt, decide_eq_false_iff_not] at h2
          refine XC.exit ?_
          refine XQ.then_exit ?_
          refine XQ.then_exit ?_
          refine XQ.block_exit ?_
          refine XQ.then_normal ?_
          refine XC.seq ?_
          refine XC.region ?_
          refine XO.rd rfl rfl rfl (Reads.load_whole k30 z30 rfl (by first | exact WholeAt.of 0 rfl | exact WholeAt.of 1 rfl | exact WholeAt.of 2 rfl | exact WholeAt.of 3 rfl | exact WholeAt.of 4 rfl | exact WholeAt.of 5 rfl | exact WholeAt.of 6 rfl | exact WholeAt.of 7 rfl | exact WholeAt.of 8 rfl) (by rfl)) ?_
          refine XO.rd rfl rfl rfl (Reads.load_whole k30 z30 rfl (by first | exact WholeAt.of 0 rfl | exact WholeAt.of 1 rfl | exact WholeAt.of 2 rfl | exact WholeAt.of 3 rfl | exact WholeAt.of 4 rfl | exact WholeAt.of 5 rfl | exact WholeAt.of 6 rfl | exact WholeAt.of 7 rfl | exact WholeAt.of 8 rfl) (by rfl)) ?_
          refine XO.lit (α := Bnd) [z, (⟨pickI z.fr x.made.n, pickI z.to x.made.n, pickI z.mo 400 - 200⟩ : Bnd)] ([z, (⟨pickI z.fr x.made.n, pickI z.to x.made.n, pickI z.mo 400 - 200⟩ : Bnd)].map fun x => .agg x.cs.toArray) (bndC [z, (⟨pickI z.fr x.made.n, pickI z.to x.made.n, pickI z.mo 400 - 200⟩ : Bnd)]) rfl rfl Try.underlying26 el30 rfl (by simp) ⟨rfl, rfl, rfl, rfl, trivial⟩ rfl rfl (by decide) rfl (flat_bnd _ _) (fun bq J13 hle13 hzq => ?_)
          replace hI := Im.le_trans hI hle13
          replace hH := hH.mono hle13
          replace hB := hB.mono hle13
          replace hY := hY.mono hle13
          replace hbl := hbl.mono hle13
          replace hA := hA.mono hle13
          replace hC := hC.mono hle13
          replace hD := hD.mono hle13
          replace hS := hS.mono hle13
          replace hT := hT.mono hle13
          replace hU := hU.mono hle13
          replace hW := hW.mono hle13
          replace hHd := hHd.mono hle13
          replace hls := hls.mono hle13
          refine XO.rd rfl rfl rfl (Reads.len_slice Try.underlying26 rfl) ?_
          refine XO.rd rfl rfl rfl (Reads.move rfl) ?_
          refine XO.nil ?_
          refine XQ.then_normal ?_
          refine XC.block ?_
          obtain ⟨zs, hzs2, hzA⟩ : ∃ zs : List Bnd, zs.length = 2 ∧ Arr _ (some ⟨bq, 0, none⟩) zs := ⟨_, rfl, hzq.arr.1⟩
          refine XC.loop (ι := Nat × Im) (fun q => [(6, .slice ay (y.take 20).length cy), (7, .pointer (some ⟨b7, 0, none⟩)), (12, .pointer (some ⟨b12, 0, none⟩)), (15, .bool true), (17, .pointer (some ⟨b17, 0, none⟩)), (19, .pointer (some ⟨b19, 0, none⟩)), (68, .slice pb 3 cpb), (69, .int .i64 3), (70, .int .i64 k), (183, .slice (some ⟨bq, 0, none⟩) 2 2), (184, .int .i64 2), (185, .int .i64 q.1)]) (fun q => q.2) (fun q => some (b19, .cells #[.int .i64 b.n, .slice a b.bs.length cap] 28 (0, 0)) :: some (b17, .cells (⟨pickI z.fr x.made.n, pickI z.to x.made.n, pickI z.mo 400 - 200⟩ : Bnd).cs.toArray 30 (0, 0)) :: some (b16, .cells #[.int .i64 x.made.n, .slice am x.made.bs.length capm] 28 (0, 0)) :: some (b12, .cells z.cs.toArray 30 (0, 0)) :: some (b8, .cells #[.int .i64 e.n, .slice a1 e.bs.length cap1] 28 (0, 0)) :: some (b7, .cells #[.int .i64 x.n, .slice ah x.hidden.length ch, .slice ab x.bnds.length cb, .int .i64 x.miss] 25 (0, 0)) :: ([] ++ Lf)) (fun q => I.le q.2 ∧ Arr q.2 ah x.hidden ∧ Arr q.2 ab x.bnds ∧ Arr q.2 ay y ∧ q.1 ≤ 2 ∧ Arr q.2 pb bl ∧ Arr q.2 a b.bs ∧ Arr q.2 (some ⟨bq, 0, none⟩) zs) (fun q => 2 - q.1) (0, _) ⟨hI, hH, hB, hY, Nat.zero_le _, hbl, hA, hzA⟩ ⟨rfl, rfl, rfl, rfl, rfl, rfl, rfl, rfl, rfl, rfl, rfl, rfl, trivial⟩ rfl (List.Perm.refl _) (fun q hq => ?_)
          clear hI hH hB hY hbl hA hzA hzq
          obtain ⟨i, J2⟩ := q
          obtain ⟨hI, hH, hB, hY, hi1, hbl, hA, hzA⟩ := hq
          simp only at hI hH hB hY hi1 hbl hA hzA ⊢
          refine XC.seq ?_
          refine XC.region ?_
          refine XO.rd rfl rfl rfl (Reads.cmp rfl rfl rfl) ?_
          refine XO.nil ?_
          refine XQ.then_normal ?_
          refine XC.seq ?_
          refine XC.cond rfl (fun h3 => ?_) (fun h3 => ?_)
          · skip
            simp only [cmpInt, decide_eq_true_eq] at h3
            have hk5 : i < zs.length := by omega
            have hil := implied_len b zs[i]
            refine XC.skip ?_
            refine XQ.then_normal ?_
            refine XC.seq ?_
            refine XC.block ?_
            refine XC.seq ?_
            refine XC.region ?_
            refine XO.rd rfl rfl rfl (Reads.index_slot (q := i * 3) Try.underlying26 z30 rfl rfl (by omega) (hzA.isSome (by decide) (by omega)) rfl) ?_
            refine XO.rd rfl rfl rfl (Reads.load_agg_at (vs := zs[i].cs) k30 z30 rfl (hzA.addr (by decide) (by omega)) (hzA.bnd hk5)) ?_
            refine XO.alloc (cs := #[.int .i64 0, .int .i64 0, .int .i64 0]) rfl rfl zo30 rfl (fun b35 => ?_)
            refine XO.store_agg (vs := zs[i].cs) 0 rfl z30 rfl rfl (by simp [Bnd.cs, Value.oneCell']) rfl (by simp [Bnd.cs]) ?_
            refine XO.own_eq (congrArg (fun c => some (b35, Obj.cells c 30 (0, 0)) :: _) (show _ = zs[i].cs.toArray from rfl)) ?_
            refine XO.nil ?_
            refine XQ.then_normal ?_
            refine XC.seq ?_
            refine XC.region ?_
            refine XO.rd rfl rfl rfl (Reads.load_whole k28 z28 rfl (by first | exact WholeAt.of 0 rfl | exact WholeAt.of 1 rfl | exact WholeAt.of 2 rfl | exact WholeAt.of 3 rfl | exact WholeAt.of 4 rfl | exact WholeAt.of 5 rfl | exact WholeAt.of 6 rfl | exact WholeAt.of 7 rfl | exact WholeAt.of 8 rfl) (by rfl)) ?_
            refine XO.rd rfl rfl rfl (Reads.load_whole k30 z30 rfl (by first | exact WholeAt.of 0 rfl | exact WholeAt.of 1 rfl | exact WholeAt.of 2 rfl | exact WholeAt.of 3 rfl | exact WholeAt.of 4 rfl | exact WholeAt.of 5 rfl | exact WholeAt.of 6 rfl | exact WholeAt.of 7 rfl | exact WholeAt.of 8 rfl) (by rfl)) ?_
            refine XO.call rfl rfl en33 (implied_any b zs[i] a cap _ hA (by omega) (Btw.steps _)) ⟨rfl, rfl, trivial⟩ ?_
            rintro u J14 hle14 hr
            replace hI := Im.le_trans hI hle14
            replace hH := hH.mono hle14
            replace hB := hB.mono hle14
            replace hY := hY.mono hle14
            replace hbl := hbl.mono hle14
            replace hA := hA.mono hle14
            replace hzA := hzA.mono hle14
            obtain ⟨ai, ci, rfl, _, hM⟩ := hr.anyc
            refine XO.rd rfl rfl rfl (Reads.move rfl) ?_
            refine XO.rd rfl rfl rfl (Reads.extract rfl rfl) ?_
            refine XO.rd rfl rfl rfl (Reads.extract rfl rfl) ?_
            refine XO.rd rfl rfl rfl (Reads.assign rfl) ?_
            refine XO.rd rfl rfl rfl (Reads.assign rfl) ?_
            refine XO.nil ?_
            refine XQ.then_normal ?_
            refine XC.seq ?_
            refine XC.region ?_
            refine XO.rd rfl rfl rfl (Reads.load_whole k28 z28 rfl (by first | exact WholeAt.of 0 rfl | exact WholeAt.of 1 rfl | exact WholeAt.of 2 rfl | exact WholeAt.of 3 rfl | exact WholeAt.of 4 rfl | exact WholeAt.of 5 rfl | exact WholeAt.of 6 rfl | exact WholeAt.of 7 rfl | exact WholeAt.of 8 rfl) (by rfl)) ?_
            refine XO.rd rfl rfl rfl (Reads.load_whole k30 z30 rfl (by first | exact WholeAt.of 0 rfl | exact WholeAt.of 1 rfl | exact WholeAt.of 2 rfl | exact WholeAt.of 3 rfl | exact WholeAt.of 4 rfl | exact WholeAt.of 5 rfl | exact WholeAt.of 6 rfl | exact WholeAt.of 7 rfl | exact WholeAt.of 8 rfl) (by rfl)) ?_
            refine XO.call rfl rfl en34 (rimplied_any b zs[i] a cap _ hA (by omega)) ⟨rfl, rfl, trivial⟩ ?_
            rintro u J15 hle15 hr
            replace hI := Im.le_trans hI hle15
            replace hH := hH.mono hle15
            replace hB := hB.mono hle15
            replace hY := hY.mono hle15
            replace hbl := hbl.mono hle15
            replace hA := hA.mono hle15
            replace hzA := hzA.mono hle15
            replace hM := hM.mono hle15
            obtain ⟨aj, cj, rfl, _, hQ⟩ := hr.anyc
            refine XO.rd rfl rfl rfl (Reads.move rfl) ?_
            refine XO.rd rfl rfl rfl (Reads.extract rfl rfl) ?_
            refine XO.rd rfl rfl rfl (Reads.extract rfl rfl) ?_
            refine XO.rd rfl rfl rfl (Reads.assign rfl) ?_
            refine XO.rd rfl rfl rfl (Reads.assign rfl) ?_
            refine XO.nil ?_
            refine XQ.then_normal ?_
            refine XC.seq ?_
            refine XC.weaken (E' := [(6, _), (7, _), (12, _), (15, _), (17, _), (19, _), (35, _), (36, _), (37, _), (38, _), (39, _), (68, _), (69, _), (70, _), (183, _), (184, _), (185, _)]) ⟨rfl, rfl, rfl, rfl, rfl, rfl, rfl, rfl, rfl, rfl, rfl, rfl, rfl, rfl, rfl, rfl, rfl, trivial⟩ ?_
            refine XC.draw m_mixed none (.pure 0 (.pure 1 (.pure 2 (.pure 3 (.pure 4 (.pure 5 (.eff 6 (.pure 7 (.pure 8 (.pure 9 (.pure 10 (.pure 11 (.pure 12 (.pure 14 (.pure 15 (.pure 16 (.eff 13 (.eff 17 (.pure 18 (.pure 19 (.done))))))))))))))))))))) _ (by kernel_rfl) (List.Sublist.refl _) ?_
            refine XR.rd rfl rfl rfl (Reads.move rfl) ?_
            refine XR.rd rfl rfl rfl (Reads.move rfl) ?_
            refine XR.rd rfl rfl rfl (Reads.neq_bool Try.underlying4 rfl rfl) ?_
            rw [bne_self_eq_false]
            refine XR.rd rfl rfl rfl (Reads.move rfl) ?_
            refine XR.rd rfl (wg rfl rfl rfl) rfl (Reads.move rfl) ?_
            refine XR.rd rfl (wg rfl rfl rfl) rfl (Reads.move rfl) ?_
            refine XR.callp rfl (wg rfl rfl rfl) rfl en25 (FC.boolEq (ints_any ai aj ci cj ((b.implied zs[i]).getD []) ((b.implied zs[i]).getD []) _ hM hQ (by omega)) (decide_eq_true rfl)) ⟨rfl, rfl, trivial⟩ (List.Sublist.refl _) ?_
            refine XR.rd rfl (wg rfl rfl rfl) rfl (Reads.not rfl) ?_
            refine XR.rd rfl rfl rfl (Reads.pick_false rfl rfl) ?_
            refine XR.rd rfl rfl rfl (Reads.move rfl) ?_
            refine XR.rd rfl (wg rfl rfl rfl) rfl (Reads.load_whole k28 z28 rfl (by first | exact WholeAt.of 0 rfl | exact WholeAt.of 1 rfl | exact WholeAt.of 2 rfl | exact WholeAt.of 3 rfl | exact WholeAt.of 4 rfl | exact WholeAt.of 5 rfl | exact WholeAt.of 6 rfl | exact WholeAt.of 7 rfl | exact WholeAt.of 8 rfl) (by rfl)) ?_
            refine XR.rd rfl (wg rfl rfl rfl) rfl (Reads.load_whole k30 z30 rfl (by first | exact WholeAt.of 0 rfl | exact WholeAt.of 1 rfl | exact WholeAt.of 2 rfl | exact WholeAt.of 3 rfl | exact WholeAt.of 4 rfl | exact WholeAt.of 5 rfl | exact WholeAt.of 6 rfl | exact WholeAt.of 7 rfl | exact WholeAt.of 8 rfl) (by rfl)) ?_
            refine XR.rd rfl (wg rfl rfl rfl) rfl (Reads.move rfl) ?_
            refine XR.rd rfl (wg rfl rfl rfl) rfl (Reads.load_whole k28 z28 rfl (by first | exact WholeAt.of 0 rfl | exact WholeAt.of 1 rfl | exact WholeAt.of 2 rfl | exact WholeAt.of 3 rfl | exact WholeAt.of 4 rfl | exact WholeAt.of 5 rfl | exact WholeAt.of 6 rfl | exact WholeAt.of 7 rfl | exact WholeAt.of 8 rfl) (by rfl)) ?_
            refine XR.rd rfl (wg rfl rfl rfl) rfl (Reads.load_whole k30 z30 rfl (by first | exact WholeAt.of 0 rfl | exact WholeAt.of 1 rfl | exact WholeAt.of 2 rfl | exact WholeAt.of 3 rfl | exact WholeAt.of 4 rfl | exact WholeAt.of 5 rfl | exact WholeAt.of 6 rfl | exact WholeAt.of 7 rfl | exact WholeAt.of 8 rfl) (by rfl)) ?_
            refine XR.rd rfl (wg rfl rfl rfl) rfl (Reads.move rfl) ?_
            refine XR.callp rfl (wg rfl rfl rfl) rfl en31 (checkChain_any b zs[i] a cap aj ((b.implied zs[i]).getD []) cj _ hA hQ (by omega) (by omega)) ⟨rfl, rfl, rfl, trivial⟩ (List.Sublist.refl _) ?_
            refine XR.callp rfl (wg rfl rfl rfl) rfl en32 (rcheckChain_any b zs[i] a cap aj ((b.implied zs[i]).getD []) cj _ hA (by omega) hQ (by omega)) ⟨rfl, rfl, rfl, trivial⟩ (List.Sublist.refl _) ?_
            refine XR.rd rfl (wg rfl rfl rfl) rfl (Reads.neq_bool Try.underlying4 rfl rfl) ?_
            rw [bne_self_eq_false]
            refine XR.rd rfl rfl rfl (Reads.pick_false rfl rfl) ?_
            refine XR.nil ?_
            refine XQ.then_normal ?_
            refine XC.cond rfl (fun hx => by cases hx) (fun _ => ?_)
            refine XC.skip ?_
            refine XQ.block_normal ?_
            refine XQ.then_normal ?_
            refine XC.region ?_
            refine XO.rd rfl rfl rfl (Reads.add rfl rfl (by omega)) ?_
            refine XO.rd rfl rfl rfl (Reads.move rfl) ?_
            refine XO.nil ?_
            refine XQ.dropn 1 ?_
            refine XQ.back (i + 1, _) ⟨hI, hH, hB, hY, by simp only; omega, hbl, hA, hzA⟩ (by simp only; omega) ⟨rfl, rfl, rfl, rfl, rfl, rfl, rfl, rfl, rfl, rfl, rfl, rfl, trivial⟩ rfl (List.Perm.refl _)
          · skip
            simp only [cmpInt, decide_eq_false_iff_not] at h3
            refine XC.exit ?_
            refine XQ.then_exit ?_
            refine XQ.then_exit ?_
            refine XQ.block_exit ?_
            refine XQ.block_normal ?_
            refine XQ.then_normal ?_
            refine XC.region ?_
            refine XO.rd rfl rfl rfl (Reads.add rfl rfl (by omega)) ?_
            refine XO.rd rfl rfl rfl (Reads.move rfl) ?_
            refine XO.nil ?_
            refine XQ.dropn 1 ?_
            refine XQ.back (k + 1, _) ⟨hI, hH, hB, hY, by simp only; omega, hbl⟩ (by simp only; omega) ⟨rfl, rfl, rfl, rfl, rfl, rfl, rfl, rfl, trivial⟩ rfl (List.Perm.refl _)
      · skip
        simp only [cmpInt, decide_eq_false_iff_not] at h1
        refine XC.exit ?_
        refine XQ.then_exit ?_
        refine XQ.then_exit ?_
        refine XQ.block_exit ?_
        refine XQ.then_normal ?_
        refine XC.seq ?_
        refine XC.region ?_
        refine XO.rd rfl rfl rfl (Reads.move rfl) ?_
        refine XO.rd rfl rfl rfl (Reads.assign rfl) ?_
        refine XO.nil ?_
        refine XQ.then_normal ?_
        refine XC.ret ?_
        refine XQ.dropn 5 ?_
        refine XQ.done1 (L := []) rfl rfl hI ?_
        exact ⟨rfl, rfl⟩

end Go.Proofs.Ytlgfpieokaegiaa
