/- Walks of layer 6: Cycle, Implied. -/
import Derived.Test.YtlgfpieokaegiaaB4
namespace Go.Proofs.Ytlgfpieokaegiaa
open Go.Xe

theorem implied_any (b : Btw) (x : Bnd) (a : Option Addr) (cap : Nat) (I : Im) (hA : Arr I a b.bs) (hlen : b.bs.length ≤ 1000000) (hp : b.Steps x) : FC Try.prog 33 [.agg #[.int .i64 b.n, .slice a b.bs.length cap], .agg x.cs.toArray] I (fun u I' => BOut I' u (b.implied x)) := by
  obtain ⟨bn, bs⟩ := b
  refine FSo.introM (n := 72) Try.func33 rfl rfl rfl (fun K Lf => ?_)
  refine XC.seq ?_
  refine XC.region ?_
  refine XO.box_agg rfl rfl rfl (fun b2 => ?_)
  refine XO.box_agg rfl rfl rfl (fun b3 => ?_)
  refine XO.rd rfl rfl rfl (Reads.assign rfl) ?_
  refine XO.rd rfl rfl rfl (Reads.assign rfl) ?_
  refine XO.nil ?_
  refine XQ.then_normal ?_
  refine XC.seq ?_
  refine XC.seq ?_
  refine XC.region ?_
  refine XO.rd rfl rfl rfl (Reads.load_whole k28 z28 rfl (by first | exact WholeAt.of 0 rfl | exact WholeAt.of 1 rfl | exact WholeAt.of 2 rfl | exact WholeAt.of 3 rfl | exact WholeAt.of 4 rfl | exact WholeAt.of 5 rfl | exact WholeAt.of 6 rfl | exact WholeAt.of 7 rfl | exact WholeAt.of 8 rfl) (by rfl)) ?_
  refine XO.callp rfl rfl en22 (valid_any ⟨bn, bs⟩ a cap _ hA hlen) ⟨rfl, trivial⟩ ?_
  refine XO.rd rfl rfl rfl (Reads.not rfl) ?_
  refine XO.rd rfl rfl rfl (Reads.move rfl) ?_
  refine XO.split (d := 13) rfl (fun h1 => ?_) (fun h1 => ?_)
  · skip
    simp at h1
    have hkf : Btw.keeps ⟨bn, bs⟩ x = false := by simp [Btw.keeps, *]
    refine XO.s (wg rfl rfl rfl) rfl ?_
    refine XO.s (wg rfl rfl rfl) rfl ?_
    refine XO.s (wg rfl rfl rfl) rfl ?_
    refine XO.s (wg rfl rfl rfl) rfl ?_
    refine XO.s (wg rfl rfl rfl) rfl ?_
    refine XO.rd rfl rfl rfl (Reads.pick_true rfl rfl) ?_
    refine XO.nil ?_
    refine XQ.then_normal ?_
    refine XC.cond rfl (fun _ => ?_) (fun hx => by cases hx)
    refine XC.seq ?_
    refine XC.region ?_
    refine XO.rd rfl rfl rfl (Reads.assign rfl) ?_
    refine XO.rd rfl rfl rfl (Reads.assign rfl) ?_
    refine XO.nil ?_
    refine XQ.then_normal ?_
    refine XC.ret ?_
    refine XQ.then_ret ?_
    refine XQ.ofM ?_
    refine XQ.dropn 2 ?_
    refine XQ.done2 rfl rfl rfl (Im.le_refl _) ?_
    exact ⟨rfl, _, by rw [show Btw.implied ⟨bn, bs⟩ x = none by simp [Btw.implied, hkf]]; rfl, (fun r hr => by simp [Btw.implied, hkf] at hr), fun _ => rfl⟩
  · skip
    simp at h1
    refine XO.rd (wg rfl rfl rfl) rfl rfl (fa28_0 rfl) ?_
    refine XO.rd (wg rfl rfl rfl) rfl rfl (Reads.load_own k3 rfl (by first | exact OwnAt.of 0 rfl rfl | exact OwnAt.of 1 rfl rfl | exact OwnAt.of 2 rfl rfl | exact OwnAt.of 3 rfl rfl | exact OwnAt.of 4 rfl rfl | exact OwnAt.of 5 rfl rfl | exact OwnAt.of 6 rfl rfl | exact OwnAt.of 7 rfl rfl | exact OwnAt.of 8 rfl rfl)) ?_
    refine XO.rd (wg rfl rfl rfl) rfl rfl (Reads.load_whole k30 z30 rfl (by first | exact WholeAt.of 0 rfl | exact WholeAt.of 1 rfl | exact WholeAt.of 2 rfl | exact WholeAt.of 3 rfl | exact WholeAt.of 4 rfl | exact WholeAt.of 5 rfl | exact WholeAt.of 6 rfl | exact WholeAt.of 7 rfl | exact WholeAt.of 8 rfl) (by rfl)) ?_
    refine XO.callp (wg rfl rfl rfl) rfl en50 (isBound_any _ x _ (Btw.ok_n h1)) ⟨rfl, rfl, trivial⟩ ?_
    refine XO.rd (wg rfl rfl rfl) rfl rfl (Reads.not rfl) ?_
    refine XO.rd rfl rfl rfl (Reads.pick_false rfl rfl) ?_
    refine XO.nil ?_
    refine XQ.then_normal ?_
    refine XC.cond rfl (fun h2 => ?_) (fun h2 => ?_)
    · skip
      simp at h2
      have hkf : Btw.keeps ⟨bn, bs⟩ x = false := by simp_all [Btw.keeps]
      refine XC.seq ?_
      refine XC.region ?_
      refine XO.rd rfl rfl rfl (Reads.assign rfl) ?_
      refine XO.rd rfl rfl rfl (Reads.assign rfl) ?_
      refine XO.nil ?_
      refine XQ.then_normal ?_
      refine XC.ret ?_
      refine XQ.then_ret ?_
      refine XQ.ofM ?_
      refine XQ.dropn 2 ?_
      refine XQ.done2 rfl rfl rfl (Im.le_refl _) ?_
      exact ⟨rfl, _, by rw [show Btw.implied ⟨bn, bs⟩ x = none by simp [Btw.implied, hkf]]; rfl, (fun r hr => by simp [Btw.implied, hkf] at hr), fun _ => rfl⟩
    · skip
      simp at h2
      have hbx : bndOk bn x = true := h2
      have hok : Btw.ok ⟨bn, bs⟩ = true := by assumption
      obtain ⟨n, rfl⟩ := Int.eq_ofNat_of_zero_le (Btw.ok_n hok).1
      have hn16 := Btw.ok_n hok
      simp only at hA hbx hn16 ⊢
      have hxb := bndOk_iff.1 hbx
      have hfr2 : x.fr.toNat < n := by omega
      have hto2 : x.to.toNat < n := by omega
      refine XC.skip ?_
      refine XQ.then_normal ?_
      refine XC.seq ?_
      refine XC.region ?_
      refine XO.rd rfl rfl rfl (Reads.load_whole k28 z28 rfl (by first | exact WholeAt.of 0 rfl | exact WholeAt.of 1 rfl | exact WholeAt.of 2 rfl | exact WholeAt.of 3 rfl | exact WholeAt.of 4 rfl | exact WholeAt.of 5 rfl | exact WholeAt.of 6 rfl | exact WholeAt.of 7 rfl | exact WholeAt.of 8 rfl) (by rfl)) ?_
      refine XO.call rfl rfl en39 (distances_any n bs a cap _ hA hok) ⟨rfl, trivial⟩ ?_
      rintro u I' hle ⟨v, rfl, hy, hno⟩
      refine XO.rd rfl rfl rfl (Reads.move rfl) ?_
      refine XO.rd rfl rfl rfl (Reads.extract rfl rfl) ?_
      refine XO.rd rfl rfl rfl (Reads.extract rfl rfl) ?_
      refine XO.rd rfl rfl rfl (Reads.assign rfl) ?_
      refine XO.rd rfl rfl rfl (Reads.assign rfl) ?_
      refine XO.nil ?_
      refine XQ.then_normal ?_
      refine XC.seq ?_
      refine XC.seq ?_
      refine XC.draw m_mixed none (.pure 0 (.pure 1 (.pure 2 (.pure 3 (.pure 4 (.pure 5 (.pure 6 (.pure 7 (.pure 8 (.pure 9 (.pure 10 (.pure 11 (.pure 12 (.pure 13 (.pure 14 (.pure 15 (.done))))))))))))))))) _ (by kernel_rfl) (List.Sublist.refl _) ?_
      refine XR.rd rfl rfl rfl (Reads.move rfl) ?_
      refine XR.rd rfl rfl rfl (Reads.not rfl) ?_
      refine XR.rd rfl rfl rfl (Reads.move rfl) ?_
      refine XR.split (d := 27) rfl (fun h3 => ?_) (fun h3 => ?_)
      · skip
        simp at h3
        have hkf : Btw.keeps ⟨n, bs⟩ x = false := by simp [Btw.keeps, *]
        refine XR.s rfl (wg rfl rfl rfl) rfl ?_
        refine XR.s rfl (wg rfl rfl rfl) rfl ?_
        refine XR.s rfl (wg rfl rfl rfl) rfl ?_
        refine XR.s rfl (wg rfl rfl rfl) rfl ?_
        refine XR.s rfl (wg rfl rfl rfl) rfl ?_
        refine XR.s rfl (wg rfl rfl rfl) rfl ?_
        refine XR.s rfl (wg rfl rfl rfl) rfl ?_
        refine XR.s rfl (wg rfl rfl rfl) rfl ?_
        refine XR.s rfl (wg rfl rfl rfl) rfl ?_
        refine XR.s rfl (wg rfl rfl rfl) rfl ?_
        refine XR.s rfl (wg rfl rfl rfl) rfl ?_
        refine XR.s rfl (wg rfl rfl rfl) rfl ?_
        refine XR.rd rfl rfl rfl (Reads.pick_true rfl rfl) ?_
        refine XR.nil ?_
        refine XQ.then_normal ?_
        refine XC.cond rfl (fun _ => ?_) (fun hx => by cases hx)
        refine XC.seq ?_
        refine XC.region ?_
        refine XO.rd rfl rfl rfl (Reads.assign rfl) ?_
        refine XO.rd rfl rfl rfl (Reads.assign rfl) ?_
        refine XO.nil ?_
        refine XQ.then_normal ?_
        refine XC.ret ?_
        refine XQ.then_ret ?_
        refine XQ.ofM ?_
        refine XQ.dropn 2 ?_
        refine XQ.done2 rfl rfl rfl hle ?_
        exact ⟨rfl, _, by rw [show Btw.implied ⟨n, bs⟩ x = none by simp [Btw.implied, hkf]]; rfl, (fun r hr => by simp [Btw.implied, hkf] at hr), fun _ => rfl⟩
      · skip
        simp at h3
        have hfi : (Btw.dist ⟨n, bs⟩).fine n = true := h3
        have hs := hy hfi
        obtain ⟨am, cm, rfl, hcm, hM⟩ := hs.ex
        obtain ⟨ar, cr, hr1, hr2⟩ := tab_row hM hfr2
        simp only [rows_len]
        refine XR.rd rfl (wg rfl rfl rfl) rfl (Reads.move rfl) ?_
        refine XR.rd rfl (wg rfl rfl rfl) rfl (fa30_0 rfl) ?_
        refine XR.rd rfl (wg rfl rfl rfl) rfl (Reads.load_own k3 rfl (by first | exact OwnAt.of 0 rfl rfl | exact OwnAt.of 1 rfl rfl | exact OwnAt.of 2 rfl rfl | exact OwnAt.of 3 rfl rfl | exact OwnAt.of 4 rfl rfl | exact OwnAt.of 5 rfl rfl | exact OwnAt.of 6 rfl rfl | exact OwnAt.of 7 rfl rfl | exact OwnAt.of 8 rfl rfl)) ?_
        refine XR.rd rfl (wg rfl rfl rfl) rfl (Reads.index_slot Try.underlying38 z22 rfl rfl (by omega) hr1.isSome rfl) ?_
        refine XR.rd rfl (wg rfl rfl rfl) rfl (Reads.load_at k22 rfl hr1) ?_
        refine XR.rd rfl (wg rfl rfl rfl) rfl (fa30_1 rfl) ?_
        refine XR.rd rfl (wg rfl rfl rfl) rfl (Reads.load_own k3 rfl (by first | exact OwnAt.of 0 rfl rfl | exact OwnAt.of 1 rfl rfl | exact OwnAt.of 2 rfl rfl | exact OwnAt.of 3 rfl rfl | exact OwnAt.of 4 rfl rfl | exact OwnAt.of 5 rfl rfl | exact OwnAt.of 6 rfl rfl | exact OwnAt.of 7 rfl rfl | exact OwnAt.of 8 rfl rfl)) ?_
        refine XR.rd rfl (wg rfl rfl rfl) rfl (Reads.index_slot Try.underlying22 z3 rfl rfl (by omega) (row_int hr2 hto2).isSome rfl) ?_
        refine XR.rd rfl (wg rfl rfl rfl) rfl (Reads.load_at k3 rfl (row_int hr2 hto2)) ?_
        refine XR.rd rfl (wg rfl rfl rfl) rfl (fa30_2 rfl) ?_
        refine XR.rd rfl (wg rfl rfl rfl) rfl (Reads.load_own k3 rfl (by first | exact OwnAt.of 0 rfl rfl | exact OwnAt.of 1 rfl rfl | exact OwnAt.of 2 rfl rfl | exact OwnAt.of 3 rfl rfl | exact OwnAt.of 4 rfl rfl | exact OwnAt.of 5 rfl rfl | exact OwnAt.of 6 rfl rfl | exact OwnAt.of 7 rfl rfl | exact OwnAt.of 8 rfl rfl)) ?_
        refine XR.rd rfl (wg rfl rfl rfl) rfl (Reads.cmp rfl rfl rfl) ?_
        refine XR.rd rfl rfl rfl (Reads.pick_false rfl rfl) ?_
        refine XR.nil ?_
        refine XQ.then_normal ?_
        refine XC.cond rfl (fun h4 => ?_) (fun h4 => ?_)
        · skip
          have hkf : Btw.keeps ⟨n, bs⟩ x = false := by simp_all [Btw.keeps, cmpInt]
          refine XC.seq ?_
          refine XC.region ?_
          refine XO.rd rfl rfl rfl (Reads.assign rfl) ?_
          refine XO.rd rfl rfl rfl (Reads.assign rfl) ?_
          refine XO.nil ?_
          refine XQ.then_normal ?_
          refine XC.ret ?_
          refine XQ.then_ret ?_
          refine XQ.ofM ?_
          refine XQ.dropn 2 ?_
          refine XQ.done2 rfl rfl rfl hle ?_
          exact ⟨rfl, _, by rw [show Btw.implied ⟨n, bs⟩ x = none by simp [Btw.implied, hkf]]; rfl, (fun r hr => by simp [Btw.implied, hkf] at hr), fun _ => rfl⟩
        · skip
          have hkt : Btw.keeps ⟨n, bs⟩ x = true := by simp_all [Btw.keeps, cmpInt]
          obtain ⟨M, hM16, hM1, hM2, l0, hl⟩ := hp hkt
          have hsome := Btw.implied_some hkt hM16 hM1 hM2 hl
          refine XC.skip ?_
          refine XQ.then_normal ?_
          refine XC.seq ?_
          refine XC.region ?_
          refine XO.alloc (cs := #[.slice none 0 0]) rfl rfl zo65 rfl (fun b8 => ?_)
          refine XO.nil ?_
          refine XQ.then_normal ?_
          refine XC.seq ?_
          refine XC.seq ?_
          refine XC.region ?_
          refine XO.rd rfl rfl rfl (Reads.load_whole k28 z28 rfl (by first | exact WholeAt.of 0 rfl | exact WholeAt.of 1 rfl | exact WholeAt.of 2 rfl | exact WholeAt.of 3 rfl | exact WholeAt.of 4 rfl | exact WholeAt.of 5 rfl | exact WholeAt.of 6 rfl | exact WholeAt.of 7 rfl | exact WholeAt.of 8 rfl) (by rfl)) ?_
          refine XO.callo (vs := [_]) (L1 := []) rfl rfl rfl en42 ⟨rfl, trivial⟩ (walks_any n _ _) (List.Perm.refl _) ?_
          rintro v' J' L' _ ⟨bb, rfl, hI, rfl⟩
          replace hI := hI.symm
          subst hI
          refine XO.nil ?_
          refine XQ.then_normal ?_
          refine XC.block ?_
          refine XC.vec0 38 ?_
          refine XC.rangeFunc (f := 59) (fi := #[]) (ca := #[.pointer (some ⟨bb, 0, none⟩)]) (L1 := [some (bb, .cells #[.int .i64 n, .slice a bs.length cap] 28 (0, 0)), some (b8, .cells #[Vec.nil.val] 65 (0, 0)), Vec.nil.ent 38, some (b3, .cells x.cs.toArray 30 (0, 0)), some (b2, .cells #[.int .i64 n, .slice a bs.length cap] 28 (0, 0))]) (Lf := Lf) rfl en59 (perm_take [1, 1, 0, 0, 0]) (fun l D rc hR => ?_)
          let J : Nat → Im → Own → Prop := fun j I' L' => ∃ (V : Vec) (cs : List Value), L' = [some (l, lp rc .ready none), some (D, .deferred (some [])), some (b8, .cells #[V.val] 65 (0, 0)), V.ent 38, some (b3, .cells x.cs.toArray 30 (0, 0)), some (b2, .cells #[.int .i64 n, .slice a bs.length cap] 28 (0, 0))] ∧ V.Is 1 cs ∧ Flat I' cs (tabs (Btw.walk ⟨n, bs⟩) n j) ∧ V.len = j ∧ j ≤ M
          let Jx : Im → Own → Prop := fun I' L' => ∃ (V : Vec) (cs : List Value), L' = [some (l, lp rc .done (some (.exit 0))), some (D, .deferred (some [])), some (b8, .cells #[V.val] 65 (0, 0)), V.ent 38, some (b3, .cells x.cs.toArray 30 (0, 0)), some (b2, .cells #[.int .i64 n, .slice a bs.length cap] 28 (0, 0))] ∧ V.Is 1 cs ∧ Flat I' cs (tabs (Btw.walk ⟨n, bs⟩) n (M + 1)) ∧ V.len = M + 1
          refine ⟨_, FSo.perm (perm_take [2]) (walks1_any l bb n bs a cap I' [some (l, lp rc .ready none), some (D, .deferred (some [])), some (b8, .cells #[Vec.nil.val] 65 (0, 0)), Vec.nil.ent 38, some (b3, .cells x.cs.toArray 30 (0, 0)), some (b2, .cells #[.int .i64 n, .slice a bs.length cap] 28 (0, 0))] (M + 1) J Jx (hA.mono hle) hok (by omega) ⟨Vec.nil, [], rfl, Vec.nil_is 1, .nil, rfl, Nat.zero_le _⟩ (fun j I1 I2 L hJ hle => ?_) (fun j I1 L' v' hJ hle1 hjR hs => ?_)), ?_⟩
          · obtain ⟨V, cs, h1, h2, h3, h4⟩ := hJ
            exact ⟨V, cs, h1, h2, h3.mono hle, h4⟩
          · skip
            obtain ⟨V, cs, rfl, hV, hfl, hVl, hjM0⟩ := hJ
            have hfl2 := tabs_flat hfl hs
            obtain ⟨at1, ct, rfl, hct, hM⟩ := hs.ex
            obtain ⟨ar, cr, hr1, hr2⟩ := tab_row hM hfr2
            simp only [rows_len] at hfl2 ⊢
            refine YS.intro hR rfl rfl (fun K Lf => ?_)
            refine XC.region ?_
            refine XO.rd rfl rfl rfl (Reads.assign rfl) ?_
            refine XO.nil ?_
            refine XQ.begin ?_
            refine XC.block ?_
            refine XC.seq ?_
            refine XC.region ?_
            refine XO.rd rfl rfl rfl (Reads.load_own k65 rfl (by first | exact OwnAt.of 0 rfl rfl | exact OwnAt.of 1 rfl rfl | exact OwnAt.of 2 rfl rfl | exact OwnAt.of 3 rfl rfl | exact OwnAt.of 4 rfl rfl | exact OwnAt.of 5 rfl rfl | exact OwnAt.of 6 rfl rfl | exact OwnAt.of 7 rfl rfl | exact OwnAt.of 8 rfl rfl)) ?_
            refine XO.rd rfl rfl rfl (Reads.move rfl) ?_
            refine XO.buildL [.slice at1 n ct] [.slice at1 n ct] rfl rfl Try.underlying65 el38 rfl (by simp) ⟨rfl, rfl, trivial⟩ rfl rfl (fun bu => ?_)
            refine XO.append (V := V) 4 rfl rfl Try.underlying65 el38 rfl rfl hV rfl (.slice Try.underlying65 (.inr (.inr ⟨bu, 0, rfl, fun j v hj => ⟨#[.slice at1 n ct], 38, (0, 0), by simp, by simpa using hj⟩⟩)) rfl (by simp [Value.oneCell'])) (by omega) (by omega) ?_
            intro V' hV' hVl'
            refine XO.store 3 rfl z65 rfl rfl rfl rfl (by simp) ?_
            refine XO.nil ?_
            refine XQ.then_normal ?_
            refine XC.seq ?_
            refine XC.draw m_mixed none (.pure 0 (.pure 1 (.pure 2 (.pure 3 (.pure 4 (.pure 5 (.pure 6 (.pure 7 (.pure 8 (.pure 9 (.pure 10 (.pure 11 (.done))))))))))))) _ (by kernel_rfl) (List.Sublist.refl _) ?_
            refine XR.rd rfl rfl rfl (Reads.move rfl) ?_
            refine XR.rd rfl rfl rfl (fa30_0 rfl) ?_
            refine XR.rd rfl rfl rfl (Reads.load_own k3 rfl (by first | exact OwnAt.of 0 rfl rfl | exact OwnAt.of 1 rfl rfl | exact OwnAt.of 2 rfl rfl | exact OwnAt.of 3 rfl rfl | exact OwnAt.of 4 rfl rfl | exact OwnAt.of 5 rfl rfl | exact OwnAt.of 6 rfl rfl | exact OwnAt.of 7 rfl rfl | exact OwnAt.of 8 rfl rfl)) ?_
            refine XR.rd rfl rfl rfl (Reads.index_slot Try.underlying38 z22 rfl rfl (by omega) hr1.isSome rfl) ?_
            refine XR.rd rfl rfl rfl (Reads.load_at k22 rfl hr1) ?_
            refine XR.rd rfl rfl rfl (fa30_1 rfl) ?_
            refine XR.rd rfl rfl rfl (Reads.load_own k3 rfl (by first | exact OwnAt.of 0 rfl rfl | exact OwnAt.of 1 rfl rfl | exact OwnAt.of 2 rfl rfl | exact OwnAt.of 3 rfl rfl | exact OwnAt.of 4 rfl rfl | exact OwnAt.of 5 rfl rfl | exact OwnAt.of 6 rfl rfl | exact OwnAt.of 7 rfl rfl | exact OwnAt.of 8 rfl rfl)) ?_
            refine XR.rd rfl rfl rfl (Reads.index_slot Try.underlying22 z3 rfl rfl (by omega) (row_int hr2 hto2).isSome rfl) ?_
            refine XR.rd rfl rfl rfl (Reads.load_at k3 rfl (row_int hr2 hto2)) ?_
            refine XR.rd rfl rfl rfl (fa30_2 rfl) ?_
            refine XR.rd rfl rfl rfl (Reads.load_own k3 rfl (by first | exact OwnAt.of 0 rfl rfl | exact OwnAt.of 1 rfl rfl | exact OwnAt.of 2 rfl rfl | exact OwnAt.of 3 rfl rfl | exact OwnAt.of 4 rfl rfl | exact OwnAt.of 5 rfl rfl | exact OwnAt.of 6 rfl rfl | exact OwnAt.of 7 rfl rfl | exact OwnAt.of 8 rfl rfl)) ?_
            refine XR.rd rfl rfl rfl (Reads.cmp rfl rfl rfl) ?_
            refine XR.nil ?_
            refine XQ.then_normal ?_
            refine XC.cond rfl (fun h5 => ?_) (fun h5 => ?_)
            · skip
              simp [cmpInt] at h5
              have hjM : j = M := by
                rcases Nat.lt_or_ge j M with h | h
                · have := hM2 j h; simp [Btw.hits] at this; omega
                · omega
              subst hjM
              refine XC.exit ?_
              refine XQ.block_out rfl ?_
              refine XQ.dropn 1 ?_
              refine XQ.round_exit (L := [some (D, .deferred (some [])), some (b8, .cells #[V'.val] 65 (0, 0)), V'.ent 38, some (b3, .cells x.cs.toArray 30 (0, 0)), some (b2, .cells #[.int .i64 n, .slice a bs.length cap] 28 (0, 0))]) (Im.le_refl _) ?_
              exact ⟨(fun h => by cases h), fun _ => ⟨V', _, rfl, hV', hfl2, by omega⟩⟩
            · skip
              simp [cmpInt] at h5
              have hjM : j < M := by
                rcases Nat.lt_or_ge j M with h | h
                · exact h
                · have : j = M := by omega
                  subst this; simp [Btw.hits] at hM1; omega
              refine XC.skip ?_
              refine XQ.block_normal ?_
              refine XQ.dropn 1 ?_
              refine XQ.round_normal (L := [some (D, .deferred (some [])), some (b8, .cells #[V'.val] 65 (0, 0)), V'.ent 38, some (b3, .cells x.cs.toArray 30 (0, 0)), some (b2, .cells #[.int .i64 n, .slice a bs.length cap] 28 (0, 0))]) (Im.le_refl _) ?_
              exact ⟨fun _ => ⟨by omega, V', _, rfl, hV', hfl2, by omega, by omega⟩, (fun h => by cases h)⟩
          · skip
            rintro u I4 L4 hle2 ⟨L5, rfl, V, cs, rfl, hV, hfl, hVl⟩
            refine ⟨.done, some (.exit 0), [some (bb, .cells #[.int .i64 n, .slice a bs.length cap] 28 (0, 0)), some (D, .deferred (some [])), some (b8, .cells #[V.val] 65 (0, 0)), V.ent 38, some (b3, .cells x.cs.toArray 30 (0, 0)), some (b2, .cells #[.int .i64 n, .slice a bs.length cap] 28 (0, 0))], perm_take [1], by simp, ?_⟩
            refine XC.exit ?_
            refine XQ.block_exit ?_
            refine XQ.then_normal ?_
            refine XC.seq ?_
            refine XC.region ?_
            refine XO.perm (perm_take [3]) ?_
            refine XO.give_vec (fun hb => ?_)
            have hVs := Vec.sl (α := List (List Int)) (e := 38) (by decide) hV hfl hb
            have hle3 := Im.le_trans hle2 (Vec.le_give (e := 38) hb)
            have hW := (hVs.2.arr).1
            refine XO.rd rfl rfl rfl (Reads.load_whole k28 z28 rfl (WholeAt.of 4 rfl) (by rfl)) ?_
            refine XO.rd rfl rfl rfl (Reads.load_own k65 rfl (by first | exact OwnAt.of 0 rfl rfl | exact OwnAt.of 1 rfl rfl | exact OwnAt.of 2 rfl rfl | exact OwnAt.of 3 rfl rfl | exact OwnAt.of 4 rfl rfl | exact OwnAt.of 5 rfl rfl | exact OwnAt.of 6 rfl rfl | exact OwnAt.of 7 rfl rfl | exact OwnAt.of 8 rfl rfl)) ?_
            refine XO.rd rfl rfl rfl (fa30_0 rfl) ?_
            refine XO.rd rfl rfl rfl (Reads.load_own k3 rfl (by first | exact OwnAt.of 0 rfl rfl | exact OwnAt.of 1 rfl rfl | exact OwnAt.of 2 rfl rfl | exact OwnAt.of 3 rfl rfl | exact OwnAt.of 4 rfl rfl | exact OwnAt.of 5 rfl rfl | exact OwnAt.of 6 rfl rfl | exact OwnAt.of 7 rfl rfl | exact OwnAt.of 8 rfl rfl)) ?_
            refine XO.rd rfl rfl rfl (fa30_1 rfl) ?_
            refine XO.rd rfl rfl rfl (Reads.load_own k3 rfl (by first | exact OwnAt.of 0 rfl rfl | exact OwnAt.of 1 rfl rfl | exact OwnAt.of 2 rfl rfl | exact OwnAt.of 3 rfl rfl | exact OwnAt.of 4 rfl rfl | exact OwnAt.of 5 rfl rfl | exact OwnAt.of 6 rfl rfl | exact OwnAt.of 7 rfl rfl | exact OwnAt.of 8 rfl rfl)) ?_
            refine XO.rd rfl rfl rfl (Reads.load_own k65 rfl (by first | exact OwnAt.of 0 rfl rfl | exact OwnAt.of 1 rfl rfl | exact OwnAt.of 2 rfl rfl | exact OwnAt.of 3 rfl rfl | exact OwnAt.of 4 rfl rfl | exact OwnAt.of 5 rfl rfl | exact OwnAt.of 6 rfl rfl | exact OwnAt.of 7 rfl rfl | exact OwnAt.of 8 rfl rfl)) ?_
            refine XO.rd rfl rfl rfl (Reads.len_slice Try.underlying65 rfl) ?_
            refine XO.rd rfl rfl rfl (Reads.sub rfl rfl (by omega)) ?_
            rw [hVl, show ((M + 1 : Nat) : Int) - 1 = (M : Int) by omega]
            refine XO.rd rfl rfl rfl (fa30_2 rfl) ?_
            refine XO.rd rfl rfl rfl (Reads.load_own k3 rfl (by first | exact OwnAt.of 0 rfl rfl | exact OwnAt.of 1 rfl rfl | exact OwnAt.of 2 rfl rfl | exact OwnAt.of 3 rfl rfl | exact OwnAt.of 4 rfl rfl | exact OwnAt.of 5 rfl rfl | exact OwnAt.of 6 rfl rfl | exact OwnAt.of 7 rfl rfl | exact OwnAt.of 8 rfl rfl)) ?_
            refine XO.call rfl rfl en44 (chain_any n bs a cap V.addr V.cap (Btw.walk ⟨n, bs⟩) V.len M x.fr x.to x.mo l0 _ (hA.mono (Im.le_trans hle hle3)) hok (by rw [hVl]; exact hW) (by omega) (by omega) (by omega) (by omega) hl) ⟨rfl, rfl, rfl, rfl, rfl, rfl, trivial⟩ ?_
            rintro u I5 hle5 hsl
            refine XO.rd rfl rfl rfl (Reads.assign rfl) ?_
            refine XO.rd rfl rfl rfl (Reads.assign rfl) ?_
            refine XO.nil ?_
            refine XQ.then_normal ?_
            refine XC.ret ?_
            refine XQ.unmark 1 rfl ?_
            refine XQ.ofM ?_
            refine XQ.dropn 4 ?_
            refine XQ.done2 (L := []) rfl rfl rfl (Im.le_trans (Im.le_trans hle hle3) hle5) ?_
            exact ⟨rfl, _, by rw [hsome]; rfl, (fun r hr => by rw [hsome] at hr; cases hr; exact hsl), (fun hr => by rw [hsome] at hr; cases hr)⟩

theorem cycle_any (b : Btw) (a : Option Addr) (cap : Nat) (I : Im) (hA : Arr I a b.bs) (hlen : b.bs.length ≤ 1000000) (hp : b.CSteps) : FC Try.prog 20 [.agg #[.int .i64 b.n, .slice a b.bs.length cap]] I (fun u I' => BOut I' u b.cycle) := by
  obtain ⟨bn, bs⟩ := b
  refine FSo.introM (n := 75) Try.func20 rfl rfl rfl (fun K Lf => ?_)
  refine XC.seq ?_
  refine XC.region ?_
  refine XO.box_agg rfl rfl rfl (fun b1 => ?_)
  refine XO.alloc (cs := #[.slice none 0 0]) rfl rfl zo22 rfl (fun b2 => ?_)
  refine XO.alloc (cs := #[.bool false]) rfl rfl zo4 rfl (fun b3 => ?_)
  refine XO.nil ?_
  refine XQ.then_normal ?_
  refine XC.seq ?_
  refine XC.seq ?_
  refine XC.region ?_
  refine XO.rd rfl rfl rfl (Reads.load_whole k28 z28 rfl (by first | exact WholeAt.of 0 rfl | exact WholeAt.of 1 rfl | exact WholeAt.of 2 rfl | exact WholeAt.of 3 rfl | exact WholeAt.of 4 rfl | exact WholeAt.of 5 rfl | exact WholeAt.of 6 rfl | exact WholeAt.of 7 rfl | exact WholeAt.of 8 rfl | exact WholeAt.of 9 rfl) (by rfl)) ?_
  refine XO.callp rfl rfl en22 (valid_any ⟨bn, bs⟩ a cap _ hA hlen) ⟨rfl, trivial⟩ ?_
  refine XO.rd rfl rfl rfl (Reads.not rfl) ?_
  refine XO.nil ?_
  refine XQ.then_normal ?_
  refine XC.cond rfl (fun h1 => ?_) (fun h1 => ?_)
  · skip
    simp at h1
    have hcn : Btw.cycle ⟨bn, bs⟩ = none := by simp [Btw.cycle, h1]
    refine XC.seq ?_
    refine XC.region ?_
    refine XO.store 1 rfl z22 rfl rfl rfl rfl (by simp) ?_
    refine XO.store 0 rfl z4 rfl rfl rfl rfl (by simp) ?_
    refine XO.nil ?_
    refine XQ.then_normal ?_
    refine XC.ret ?_
    refine XQ.then_ret ?_
    refine XQ.ofM ?_
    refine XQ.done2c [] 3 rfl k22 k4 rfl rfl (OwnAt.of 1 rfl rfl) (OwnAt.of 0 rfl rfl) rfl (Im.le_refl _) ?_
    exact ⟨rfl, _, by rw [hcn]; rfl, (fun r hr => by rw [hcn] at hr; cases hr), fun _ => rfl⟩
  · skip
    simp at h1
    have hok : Btw.ok ⟨bn, bs⟩ = true := h1
    obtain ⟨n, rfl⟩ := Int.eq_ofNat_of_zero_le (Btw.ok_n hok).1
    have hn16 := Btw.ok_n hok
    have hlen := Btw.ok_len hok
    simp only at hA hn16 hlen ⊢
    refine XC.skip ?_
    refine XQ.then_normal ?_
    refine XC.seq ?_
    refine XC.seq ?_
    refine XC.region ?_
    refine XO.rd rfl rfl rfl (Reads.load_whole k28 z28 rfl (by first | exact WholeAt.of 0 rfl | exact WholeAt.of 1 rfl | exact WholeAt.of 2 rfl | exact WholeAt.of 3 rfl | exact WholeAt.of 4 rfl | exact WholeAt.of 5 rfl | exact WholeAt.of 6 rfl | exact WholeAt.of 7 rfl | exact WholeAt.of 8 rfl | exact WholeAt.of 9 rfl) (by rfl)) ?_
    refine XO.call rfl rfl en39 (distances_any n bs a cap _ hA hok) ⟨rfl, trivial⟩ ?_
    rintro u I' hle ⟨v, rfl, hy, hno⟩
    refine XO.rd rfl rfl rfl (Reads.move rfl) ?_
    refine XO.rd rfl rfl rfl (Reads.extract rfl rfl) ?_
    refine XO.rd rfl rfl rfl (Reads.extract rfl rfl) ?_
    refine XO.rd rfl rfl rfl (Reads.assign rfl) ?_
    refine XO.rd rfl rfl rfl (Reads.assign rfl) ?_
    refine XO.nil ?_
    refine XQ.then_normal ?_
    refine XC.seq ?_
    refine XC.region ?_
    refine XO.rd rfl rfl rfl (Reads.move rfl) ?_
    refine XO.nil ?_
    refine XQ.then_normal ?_
    refine XC.cond rfl (fun h2 => ?_) (fun h2 => ?_)
    · skip
      have hcn : Btw.cycle ⟨n, bs⟩ = none := by simp [Btw.cycle, hok, h2]
      refine XC.seq ?_
      refine XC.region ?_
      refine XO.store 1 rfl z22 rfl rfl rfl rfl (by simp) ?_
      refine XO.store 0 rfl z4 rfl rfl rfl rfl (by simp) ?_
      refine XO.nil ?_
      refine XQ.then_normal ?_
      refine XC.ret ?_
      refine XQ.then_ret ?_
      refine XQ.ofM ?_
      refine XQ.done2c [] 3 rfl k22 k4 rfl rfl (OwnAt.of 1 rfl rfl) (OwnAt.of 0 rfl rfl) rfl hle ?_
      exact ⟨rfl, _, by rw [hcn]; rfl, (fun r hr => by rw [hcn] at hr; cases hr), fun _ => rfl⟩
    · skip
      have hfi : (Btw.dist ⟨n, bs⟩).fine n = false := h2
      obtain ⟨M, k0, hk0, l0, hM0, hM16, hM2, hM1, hM3, hl⟩ := hp hok hfi
      have hl0 := chainI_len hl
      have hsome := Btw.cycle_some hok hfi hM16 hM2 hM1 hM3 hl
      simp only at hk0 hM1 hM2 hM3 hl
      have hbd : ∀ x ∈ bs, (0 ≤ x.fr ∧ x.fr < n) ∧ (0 ≤ x.to ∧ x.to < n) ∧ -1000000000 ≤ x.mo ∧ x.mo ≤ 1000000000 := fun x hx => bndOk_iff.1 (Btw.ok_bnd hok hx)
      refine XC.skip ?_
      refine XQ.then_normal ?_
      refine XC.seq ?_
      refine XC.region ?_
      refine XO.alloc (cs := #[.slice none 0 0]) rfl rfl zo65 rfl (fun b6 => ?_)
      refine XO.nil ?_
      refine XQ.then_normal ?_
      refine XC.seq ?_
      refine XC.seq ?_
      refine XC.region ?_
      refine XO.rd rfl rfl rfl (Reads.load_whole k28 z28 rfl (by first | exact WholeAt.of 0 rfl | exact WholeAt.of 1 rfl | exact WholeAt.of 2 rfl | exact WholeAt.of 3 rfl | exact WholeAt.of 4 rfl | exact WholeAt.of 5 rfl | exact WholeAt.of 6 rfl | exact WholeAt.of 7 rfl | exact WholeAt.of 8 rfl | exact WholeAt.of 9 rfl) (by rfl)) ?_
      refine XO.callo (vs := [_]) (L1 := []) rfl rfl rfl en42 ⟨rfl, trivial⟩ (walks_any n _ _) (List.Perm.refl _) ?_
      rintro v' J' L' _ ⟨bb, rfl, hI, rfl⟩
      replace hI := hI.symm
      subst hI
      refine XO.nil ?_
      refine XQ.then_normal ?_
      refine XC.block ?_
      refine XC.vec0 38 ?_
      refine XC.rangeFunc (f := 59) (fi := #[]) (ca := #[.pointer (some ⟨bb, 0, none⟩)]) (L1 := [some (bb, .cells #[.int .i64 n, .slice a bs.length cap] 28 (0, 0)), some (b6, .cells #[Vec.nil.val] 65 (0, 0)), Vec.nil.ent 38, some (b3, .cells #[.bool false] 4 (0, 0)), some (b2, .cells #[.slice none 0 0] 22 (0, 0)), some (b1, .cells #[.int .i64 n, .slice a bs.length cap] 28 (0, 0))]) (Lf := Lf) rfl en59 (perm_take [1, 1, 0, 0, 0, 0]) (fun l D rc hR => ?_)
      let J : Nat → Im → Own → Prop := fun j I' L' => ∃ (V : Vec) (cs : List Value), L' = [some (l, lp rc .ready none), some (D, .deferred (some [])), some (b6, .cells #[V.val] 65 (0, 0)), V.ent 38, some (b3, .cells #[.bool false] 4 (0, 0)), some (b2, .cells #[.slice none 0 0] 22 (0, 0)), some (b1, .cells #[.int .i64 n, .slice a bs.length cap] 28 (0, 0))] ∧ V.Is 1 cs ∧ Flat I' cs (tabs (Btw.walk ⟨n, bs⟩) n j) ∧ V.len = j ∧ j ≤ M
      let Jx : Im → Own → Prop := fun I' L' => ∃ (v v6 : Value), L' = [some (l, lp rc .done (some .ret)), some (D, .deferred (some [])), some (b6, .cells #[v6] 65 (0, 0)), some (b3, .cells #[.bool true] 4 (0, 0)), some (b2, .cells #[v] 22 (0, 0)), some (b1, .cells #[.int .i64 n, .slice a bs.length cap] 28 (0, 0))] ∧ Sl I' v ((k0 : Int) :: l0)
      refine ⟨_, FSo.perm (perm_take [2]) (walks1_any l bb n bs a cap I' [some (l, lp rc .ready none), some (D, .deferred (some [])), some (b6, .cells #[Vec.nil.val] 65 (0, 0)), Vec.nil.ent 38, some (b3, .cells #[.bool false] 4 (0, 0)), some (b2, .cells #[.slice none 0 0] 22 (0, 0)), some (b1, .cells #[.int .i64 n, .slice a bs.length cap] 28 (0, 0))] (M + 1) J Jx (hA.mono hle) hok (by omega) ⟨Vec.nil, [], rfl, Vec.nil_is 1, .nil, rfl, Nat.zero_le _⟩ (fun j I1 I2 L hJ hle => ?_) (fun j I1 L' v' hJ hle1 hjR hs => ?_)), ?_⟩
      · obtain ⟨V, cs, h1, h2, h3, h4⟩ := hJ
        exact ⟨V, cs, h1, h2, h3.mono hle, h4⟩
      · skip
        have hA1 := hA.mono (Im.le_trans hle hle1)
        obtain ⟨V, cs, rfl, hV, hfl, hVl, hjM0⟩ := hJ
        have hfl2 := tabs_flat hfl hs
        obtain ⟨at1, ct, rfl, hct, hM⟩ := hs.ex
        simp only [rows_len] at hfl2 ⊢
        refine YS.intro hR rfl rfl (fun K Lf => ?_)
        refine XC.region ?_
        refine XO.rd rfl rfl rfl (Reads.assign rfl) ?_
        refine XO.nil ?_
        refine XQ.begin ?_
        refine XC.block ?_
        refine XC.seq ?_
        refine XC.region ?_
        refine XO.rd rfl rfl rfl (Reads.load_own k65 rfl (by first | exact OwnAt.of 0 rfl rfl | exact OwnAt.of 1 rfl rfl | exact OwnAt.of 2 rfl rfl | exact OwnAt.of 3 rfl rfl | exact OwnAt.of 4 rfl rfl | exact OwnAt.of 5 rfl rfl | exact OwnAt.of 6 rfl rfl | exact OwnAt.of 7 rfl rfl | exact OwnAt.of 8 rfl rfl | exact OwnAt.of 9 rfl rfl)) ?_
        refine XO.rd rfl rfl rfl (Reads.move rfl) ?_
        refine XO.buildL [.slice at1 n ct] [.slice at1 n ct] rfl rfl Try.underlying65 el38 rfl (by simp) ⟨rfl, rfl, trivial⟩ rfl rfl (fun bu => ?_)
        refine XO.append (V := V) 4 rfl rfl Try.underlying65 el38 rfl rfl hV rfl (.slice Try.underlying65 (.inr (.inr ⟨bu, 0, rfl, fun j v hj => ⟨#[.slice at1 n ct], 38, (0, 0), by simp, by simpa using hj⟩⟩)) rfl (by simp [Value.oneCell'])) (by omega) (by omega) ?_
        intro V' hV' hVl'
        have hVl'' : V'.len = j + 1 := by omega
        refine XO.store 3 rfl z65 rfl rfl rfl rfl (by simp) ?_
        refine XO.nil ?_
        refine XQ.then_normal ?_
        refine XC.seq ?_
        refine XC.region ?_
        refine XO.rd rfl rfl rfl (Reads.load_own k65 rfl (by first | exact OwnAt.of 0 rfl rfl | exact OwnAt.of 1 rfl rfl | exact OwnAt.of 2 rfl rfl | exact OwnAt.of 3 rfl rfl | exact OwnAt.of 4 rfl rfl | exact OwnAt.of 5 rfl rfl | exact OwnAt.of 6 rfl rfl | exact OwnAt.of 7 rfl rfl | exact OwnAt.of 8 rfl rfl | exact OwnAt.of 9 rfl rfl)) ?_
        refine XO.rd rfl rfl rfl (Reads.len_slice Try.underlying65 rfl) ?_
        refine XO.rd rfl rfl rfl (Reads.sub rfl rfl (by omega)) ?_
        rw [hVl'', show ((j + 1 : Nat) : Int) - 1 = (j : Int) by omega]
        refine XO.rd rfl rfl rfl (Reads.assign rfl) ?_
        refine XO.nil ?_
        refine XQ.then_normal ?_
        refine XC.seq ?_
        refine XC.region ?_
        refine XO.rd rfl rfl rfl (fa28_1 rfl) ?_
        refine XO.rd rfl rfl rfl (Reads.load_own k26 rfl (by first | exact OwnAt.of 0 rfl rfl | exact OwnAt.of 1 rfl rfl | exact OwnAt.of 2 rfl rfl | exact OwnAt.of 3 rfl rfl | exact OwnAt.of 4 rfl rfl | exact OwnAt.of 5 rfl rfl | exact OwnAt.of 6 rfl rfl | exact OwnAt.of 7 rfl rfl | exact OwnAt.of 8 rfl rfl | exact OwnAt.of 9 rfl rfl)) ?_
        refine XO.rd rfl rfl rfl (Reads.len_slice Try.underlying26 rfl) ?_
        refine XO.rd rfl rfl rfl (Reads.move rfl) ?_
        refine XO.nil ?_
        refine XQ.then_normal ?_
        refine XC.block ?_
        refine XC.dropn 1 ?_
        refine XC.loop (ι := Nat) (fun q => [(1, .pointer (some ⟨b1, 0, none⟩)), (2, .pointer (some ⟨b2, 0, none⟩)), (3, .pointer (some ⟨b3, 0, none⟩)), (6, .pointer (some ⟨b6, 0, none⟩)), (8, .int .i64 j), (31, .slice a bs.length cap), (32, .int .i64 bs.length), (33, .int .i64 q)]) (fun q => I1) (fun q => some (l, lp rc .busy none) :: ([some (D, .deferred (some [])), some (b6, .cells #[V'.val] 65 (0, 0)), V'.ent 38, some (b3, .cells #[.bool false] 4 (0, 0)), some (b2, .cells #[.slice none 0 0] 22 (0, 0)), some (b1, .cells #[.int .i64 n, .slice a bs.length cap] 28 (0, 0))] ++ Lf)) (fun q => q ≤ bs.length ∧ ∀ (i : Nat) (h : i < bs.length), i < q → Btw.cycB ⟨n, bs⟩ j bs[i] = false) (fun q => bs.length - q) 0 ⟨Nat.zero_le _, fun _ _ h => absurd h (Nat.not_lt_zero _)⟩ ⟨rfl, rfl, rfl, rfl, rfl, rfl, rfl, rfl, trivial⟩ rfl (List.Perm.refl _) (fun k hk => ?_)
        obtain ⟨hk1, hk2⟩ := hk
        refine XC.seq ?_
        refine XC.region ?_
        refine XO.rd rfl rfl rfl (Reads.cmp rfl rfl rfl) ?_
        refine XO.nil ?_
        refine XQ.then_normal ?_
        refine XC.seq ?_
        refine XC.cond rfl (fun h3 => ?_) (fun h3 => ?_)
        · skip
          simp only [cmpInt, decide_eq_true_eq] at h3
          have hk3 : k < bs.length := by omega
          have hkb := hbd _ (List.getElem_mem hk3)
          have hto : bs[k].to.toNat < n := by omega
          have hfr : bs[k].fr.toNat < n := by omega
          refine XC.skip ?_
          refine XQ.then_normal ?_
          refine XC.seq ?_
          refine XC.block ?_
          refine XC.seq ?_
          refine XC.region ?_
          refine XO.rd rfl rfl rfl (Reads.move rfl) ?_
          refine XO.rd rfl rfl rfl (Reads.index_slot (q := k * 3) Try.underlying26 z30 rfl rfl (by omega) (hA1.isSome (by decide) (by omega)) (by simp)) ?_
          refine XO.rd rfl rfl rfl (Reads.load_agg_at (vs := bs[k].cs) k30 z30 rfl (hA1.addr (by decide) (by omega)) (hA1.bnd hk3)) ?_
          refine XO.alloc (cs := #[.int .i64 0, .int .i64 0, .int .i64 0]) rfl rfl zo30 rfl (fun b10 => ?_)
          refine XO.rd rfl rfl rfl (Reads.assign rfl) ?_
          refine XO.store_agg (vs := bs[k].cs) 0 rfl z30 rfl rfl (by simp [Bnd.cs, Value.oneCell']) rfl (by simp [Bnd.cs]) ?_
          refine XO.nil ?_
          refine XQ.then_normal ?_
          refine XC.seq ?_
          refine XC.draw m_mixed none (.pure 0 (.pure 1 (.pure 2 (.pure 3 (.pure 4 (.pure 5 (.pure 6 (.pure 7 (.pure 8 (.pure 9 (.pure 10 (.pure 11 (.pure 12 (.pure 13 (.pure 14 (.pure 15 (.pure 16 (.pure 17 (.eff 18 (.pure 19 (.pure 20 (.done)))))))))))))))))))))) _ (by kernel_rfl) (List.Sublist.refl _) ?_
          refine XR.rd rfl rfl rfl (Reads.move rfl) ?_
          refine XR.rd rfl rfl rfl (Reads.cmp rfl rfl rfl) ?_
          refine XR.rd rfl rfl rfl (Reads.move rfl) ?_
          refine XR.split (d := 40) rfl (fun h4 => ?_) (fun h4 => ?_)
          · skip
            simp [cmpInt] at h4
            obtain ⟨a1, c1, hc1, hc2⟩ := tabs_cell hfl2 (show j - 1 < j + 1 by omega)
            obtain ⟨ar, cr, hr1, hr2⟩ := tab_row hc2 hto
            refine XR.rd rfl (wg rfl rfl rfl) rfl (fa30_2 rfl) ?_
            refine XR.rd rfl (wg rfl rfl rfl) rfl (Reads.load_own k3 rfl (by first | exact OwnAt.of 0 rfl rfl | exact OwnAt.of 1 rfl rfl | exact OwnAt.of 2 rfl rfl | exact OwnAt.of 3 rfl rfl | exact OwnAt.of 4 rfl rfl | exact OwnAt.of 5 rfl rfl | exact OwnAt.of 6 rfl rfl | exact OwnAt.of 7 rfl rfl | exact OwnAt.of 8 rfl rfl | exact OwnAt.of 9 rfl rfl)) ?_
            refine XR.rd rfl (wg rfl rfl rfl) rfl (Reads.load_own k65 rfl (by first | exact OwnAt.of 0 rfl rfl | exact OwnAt.of 1 rfl rfl | exact OwnAt.of 2 rfl rfl | exact OwnAt.of 3 rfl rfl | exact OwnAt.of 4 rfl rfl | exact OwnAt.of 5 rfl rfl | exact OwnAt.of 6 rfl rfl | exact OwnAt.of 7 rfl rfl | exact OwnAt.of 8 rfl rfl | exact OwnAt.of 9 rfl rfl)) ?_
            refine XR.rd rfl (wg rfl rfl rfl) rfl (Reads.move rfl) ?_
            refine XR.rd rfl (wg rfl rfl rfl) rfl (Reads.sub rfl rfl (by omega)) ?_
            refine XR.rd rfl (wg rfl rfl rfl) rfl (Reads.index_slot (q := j - 1) Try.underlying65 z38 rfl rfl (by omega) (vec_isSome hV' (by rw [hV'.len]; omega)) (by omega)) ?_
            refine XR.rd rfl (wg rfl rfl rfl) rfl (Reads.load_vecq k38 rfl hV' (e := 38) (List.mem_of_getElem? (i := 4) rfl) hc1) ?_
            refine XR.rd rfl (wg rfl rfl rfl) rfl (fa30_1 rfl) ?_
            refine XR.rd rfl (wg rfl rfl rfl) rfl (Reads.load_own k3 rfl (by first | exact OwnAt.of 0 rfl rfl | exact OwnAt.of 1 rfl rfl | exact OwnAt.of 2 rfl rfl | exact OwnAt.of 3 rfl rfl | exact OwnAt.of 4 rfl rfl | exact OwnAt.of 5 rfl rfl | exact OwnAt.of 6 rfl rfl | exact OwnAt.of 7 rfl rfl | exact OwnAt.of 8 rfl rfl | exact OwnAt.of 9 rfl rfl)) ?_
            refine XR.rd rfl (wg rfl rfl rfl) rfl (Reads.index_slot Try.underlying38 z22 rfl rfl (by omega) hr1.isSome rfl) ?_
            refine XR.rd rfl (wg rfl rfl rfl) rfl (Reads.load_at k22 rfl hr1) ?_
            refine XR.rd rfl (wg rfl rfl rfl) rfl (fa30_0 rfl) ?_
            refine XR.rd rfl (wg rfl rfl rfl) rfl (Reads.load_own k3 rfl (by first | exact OwnAt.of 0 rfl rfl | exact OwnAt.of 1 rfl rfl | exact OwnAt.of 2 rfl rfl | exact OwnAt.of 3 rfl rfl | exact OwnAt.of 4 rfl rfl | exact OwnAt.of 5 rfl rfl | exact OwnAt.of 6 rfl rfl | exact OwnAt.of 7 rfl rfl | exact OwnAt.of 8 rfl rfl | exact OwnAt.of 9 rfl rfl)) ?_
            refine XR.rd rfl (wg rfl rfl rfl) rfl (Reads.index_slot Try.underlying22 z3 rfl rfl (by omega) (row_int hr2 hfr).isSome rfl) ?_
            refine XR.rd rfl (wg rfl rfl rfl) rfl (Reads.load_at k3 rfl (row_int hr2 hfr)) ?_
            refine XR.callp rfl (wg rfl rfl rfl) rfl en43 (plus_any _ _ _) ⟨rfl, rfl, trivial⟩ (List.Sublist.refl _) ?_
            refine XR.rd rfl (wg rfl rfl rfl) rfl (Reads.cmp rfl rfl rfl) ?_
            refine XR.rd rfl rfl rfl (Reads.pick_true rfl rfl) ?_
            refine XR.nil ?_
            refine XQ.then_normal ?_
            refine XC.cond rfl (fun h5 => ?_) (fun h5 => ?_)
            · skip
              simp [cmpInt] at h5
              have hcyc : Btw.cycB ⟨n, bs⟩ j bs[k] = true := by simp [Btw.cycB, *]
              have hjM : j = M := by
                rcases Nat.lt_or_ge j M with h | h
                · rw [hM2 j h k hk3] at hcyc; cases hcyc
                · omega
              subst hjM
              have hkk : k = k0 := by
                rcases Nat.lt_trichotomy k k0 with h | h | h
                · rw [hM3 k hk3 h] at hcyc; cases hcyc
                · exact h
                · rw [hk2 k0 hk0 h] at hM1; cases hM1
              subst hkk
              refine XC.seq ?_
              refine XC.region ?_
              refine XO.rd rfl rfl rfl (Reads.move rfl) ?_
              refine XO.perm (perm_take [4]) ?_
              refine XO.give_vec (fun hb => ?_)
              have hVs := Vec.sl (α := List (List Int)) (e := 38) (by decide) hV' hfl2 hb
              have hW := (hVs.2.arr).1
              refine XO.buildL [.int .i64 k] [.int .i64 k] rfl rfl Try.underlying22 el3 rfl (by simp) ⟨rfl, rfl, trivial⟩ rfl rfl (fun bu2 => ?_)
              refine XO.rd rfl rfl rfl (Reads.load_whole k28 z28 rfl (by first | exact WholeAt.of 0 rfl | exact WholeAt.of 1 rfl | exact WholeAt.of 2 rfl | exact WholeAt.of 3 rfl | exact WholeAt.of 4 rfl | exact WholeAt.of 5 rfl | exact WholeAt.of 6 rfl | exact WholeAt.of 7 rfl | exact WholeAt.of 8 rfl | exact WholeAt.of 9 rfl) (by rfl)) ?_
              refine XO.rd rfl rfl rfl (Reads.load_own k65 rfl (by first | exact OwnAt.of 0 rfl rfl | exact OwnAt.of 1 rfl rfl | exact OwnAt.of 2 rfl rfl | exact OwnAt.of 3 rfl rfl | exact OwnAt.of 4 rfl rfl | exact OwnAt.of 5 rfl rfl | exact OwnAt.of 6 rfl rfl | exact OwnAt.of 7 rfl rfl | exact OwnAt.of 8 rfl rfl | exact OwnAt.of 9 rfl rfl)) ?_
              refine XO.rd rfl rfl rfl (fa30_1 rfl) ?_
              refine XO.rd rfl rfl rfl (Reads.load_own k3 rfl (by first | exact OwnAt.of 0 rfl rfl | exact OwnAt.of 1 rfl rfl | exact OwnAt.of 2 rfl rfl | exact OwnAt.of 3 rfl rfl | exact OwnAt.of 4 rfl rfl | exact OwnAt.of 5 rfl rfl | exact OwnAt.of 6 rfl rfl | exact OwnAt.of 7 rfl rfl | exact OwnAt.of 8 rfl rfl | exact OwnAt.of 9 rfl rfl)) ?_
              refine XO.rd rfl rfl rfl (fa30_0 rfl) ?_
              refine XO.rd rfl rfl rfl (Reads.load_own k3 rfl (by first | exact OwnAt.of 0 rfl rfl | exact OwnAt.of 1 rfl rfl | exact OwnAt.of 2 rfl rfl | exact OwnAt.of 3 rfl rfl | exact OwnAt.of 4 rfl rfl | exact OwnAt.of 5 rfl rfl | exact OwnAt.of 6 rfl rfl | exact OwnAt.of 7 rfl rfl | exact OwnAt.of 8 rfl rfl | exact OwnAt.of 9 rfl rfl)) ?_
              refine XO.rd rfl rfl rfl (Reads.move rfl) ?_
              refine XO.rd rfl rfl rfl (Reads.sub rfl rfl (by omega)) ?_
              rw [show (j : Int) - 1 = ((j - 1 : Nat) : Int) by omega]
              refine XO.rd rfl rfl rfl (fa30_2 rfl) ?_
              refine XO.rd rfl rfl rfl (Reads.load_own k3 rfl (by first | exact OwnAt.of 0 rfl rfl | exact OwnAt.of 1 rfl rfl | exact OwnAt.of 2 rfl rfl | exact OwnAt.of 3 rfl rfl | exact OwnAt.of 4 rfl rfl | exact OwnAt.of 5 rfl rfl | exact OwnAt.of 6 rfl rfl | exact OwnAt.of 7 rfl rfl | exact OwnAt.of 8 rfl rfl | exact OwnAt.of 9 rfl rfl)) ?_
              refine XO.rd rfl rfl rfl (Reads.sub rfl rfl (by omega)) ?_
              refine XO.call rfl rfl en44 (chain_any n bs a cap V'.addr V'.cap (Btw.walk ⟨n, bs⟩) V'.len (j - 1) bs[k].to bs[k].fr (-1 - bs[k].mo) l0 _ (hA1.mono (Vec.le_give hb)) hok (by rw [hVl'']; exact hW) (by omega) (by omega) (by omega) (by omega) hl) ⟨rfl, rfl, rfl, rfl, rfl, rfl, trivial⟩ ?_
              rintro u I5 hle5 hsl
              obtain ⟨al, cl, rfl, hcl, hAl⟩ := hsl.ex
              obtain ⟨ncs, hnf, hnews⟩ := News.arr (P := Try.prog) (tx := 22) (c := cl) Try.underlying22 hAl
              refine XO.append (V := ⟨some (bu2, #[.int .i64 k]), 1, 1⟩) 0 rfl rfl Try.underlying22 el3 rfl rfl Vec.one rfl (hnews _) (by simp only; omega) (by simp only; omega) ?_
              intro V3 hV3 _
              refine XO.give_vec (fun hb3 => ?_)
              have hs3 := (Vec.sl (α := Int) (e := 3) (by decide) hV3 ((flat_ints I5 [(k : Int)]).append hnf) hb3).2
              refine XO.store 5 rfl z22 rfl rfl rfl rfl (by simp) ?_
              refine XO.store 4 rfl z4 rfl rfl rfl rfl (by simp) ?_
              refine XO.nil ?_
              refine XQ.then_normal ?_
              refine XC.ret ?_
              refine XQ.block_ret ?_
              refine XQ.then_ret ?_
              refine XQ.then_ret ?_
              refine XQ.block_ret ?_
              refine XQ.block_ret ?_
              refine XQ.dropn 1 ?_
              refine XQ.round_ret (L := [some (D, .deferred (some [])), some (b6, .cells #[V'.val] 65 (0, 0)), some (b3, .cells #[.bool true] 4 (0, 0)), some (b2, .cells #[V3.val] 22 (0, 0)), some (b1, .cells #[.int .i64 n, .slice a bs.length cap] 28 (0, 0))]) (Im.le_trans (Vec.le_give hb) (Im.le_trans hle5 (Vec.le_give hb3))) ?_
              exact ⟨(fun h => by cases h), fun _ => ⟨_, _, rfl, hs3⟩⟩
            · skip
              simp [cmpInt] at h5
              have hcyc : Btw.cycB ⟨n, bs⟩ j bs[k] = false := by simp [Btw.cycB]; omega
              refine XC.skip ?_
              refine XQ.block_normal ?_
              refine XQ.then_normal ?_
              refine XC.region ?_
              refine XO.rd rfl rfl rfl (Reads.add rfl rfl (by omega)) ?_
              refine XO.rd rfl rfl rfl (Reads.move rfl) ?_
              refine XO.nil ?_
              refine XQ.dropn 1 ?_
              refine XQ.back (k + 1) ⟨by omega, fun i h hi => by rcases Nat.lt_succ_iff_lt_or_eq.1 hi with h2 | rfl; exact hk2 i h h2; exact hcyc⟩ (by omega) ⟨rfl, rfl, rfl, rfl, rfl, rfl, rfl, rfl, trivial⟩ rfl (List.Perm.refl _)
          · skip
            simp [cmpInt] at h4
            have hcyc : Btw.cycB ⟨n, bs⟩ j bs[k] = false := by simp [Btw.cycB]; omega
            refine XR.s rfl (wg rfl rfl rfl) rfl ?_
            refine XR.s rfl (wg rfl rfl rfl) rfl ?_
            refine XR.s rfl (wg rfl rfl rfl) rfl ?_
            refine XR.s rfl (wg rfl rfl rfl) rfl ?_
            refine XR.s rfl (wg rfl rfl rfl) rfl ?_
            refine XR.s rfl (wg rfl rfl rfl) rfl ?_
            refine XR.s rfl (wg rfl rfl rfl) rfl ?_
            refine XR.s rfl (wg rfl rfl rfl) rfl ?_
            refine XR.s rfl (wg rfl rfl rfl) rfl ?_
            refine XR.s rfl (wg rfl rfl rfl) rfl ?_
            refine XR.s rfl (wg rfl rfl rfl) rfl ?_
            refine XR.s rfl (wg rfl rfl rfl) rfl ?_
            refine XR.s rfl (wg rfl rfl rfl) rfl ?_
            refine XR.s rfl (wg rfl rfl rfl) rfl ?_
            refine XR.s rfl (wg rfl rfl rfl) rfl ?_
            refine XR.se rfl (wg rfl rfl rfl) rfl (List.Sublist.refl _) ?_
            refine XR.s rfl (wg rfl rfl rfl) rfl ?_
            refine XR.rd rfl rfl rfl (Reads.pick_false rfl rfl) ?_
            refine XR.nil ?_
            refine XQ.then_normal ?_
            refine XC.cond rfl (fun hx => by cases hx) (fun _ => ?_)
            refine XC.skip ?_
            refine XQ.block_normal ?_
            refine XQ.then_normal ?_
            refine XC.region ?_
            refine XO.rd rfl rfl rfl (Reads.add rfl rfl (by omega)) ?_
            refine XO.rd rfl rfl rfl (Reads.move rfl) ?_
            refine XO.nil ?_
            refine XQ.dropn 1 ?_
            refine XQ.back (k + 1) ⟨by omega, fun i h hi => by rcases Nat.lt_succ_iff_lt_or_eq.1 hi with h2 | rfl; exact hk2 i h h2; exact hcyc⟩ (by omega) ⟨rfl, rfl, rfl, rfl, rfl, rfl, rfl, rfl, trivial⟩ rfl (List.Perm.refl _)
        · skip
          simp only [cmpInt, decide_eq_false_iff_not] at h3
          have hjM : j < M := by
            rcases Nat.lt_or_ge j M with h | h
            · exact h
            · have : j = M := by omega
              subst this; rw [hk2 k0 hk0 (by omega)] at hM1; cases hM1
          refine XC.exit ?_
          refine XQ.then_exit ?_
          refine XQ.then_exit ?_
          refine XQ.block_exit ?_
          refine XQ.block_normal ?_
          refine XQ.round_normal (L := [some (D, .deferred (some [])), some (b6, .cells #[V'.val] 65 (0, 0)), V'.ent 38, some (b3, .cells #[.bool false] 4 (0, 0)), some (b2, .cells #[.slice none 0 0] 22 (0, 0)), some (b1, .cells #[.int .i64 n, .slice a bs.length cap] 28 (0, 0))]) (Im.le_refl _) ?_
          exact ⟨fun _ => ⟨by omega, V', _, rfl, hV', hfl2, by omega, by omega⟩, (fun h => by cases h)⟩
      · skip
        rintro u I4 L4 hle2 ⟨L5, rfl, v, v6, rfl, hs3⟩
        refine ⟨.done, some .ret, [some (bb, .cells #[.int .i64 n, .slice a bs.length cap] 28 (0, 0)), some (D, .deferred (some [])), some (b6, .cells #[v6] 65 (0, 0)), some (b3, .cells #[.bool true] 4 (0, 0)), some (b2, .cells #[v] 22 (0, 0)), some (b1, .cells #[.int .i64 n, .slice a bs.length cap] 28 (0, 0))], perm_take [1], by simp, ?_⟩
        refine XC.ret ?_
        refine XQ.block_ret ?_
        refine XQ.then_ret ?_
        refine XQ.unmark 1 rfl ?_
        refine XQ.ofM ?_
        refine XQ.done2c [] 5 rfl k22 k4 rfl rfl (OwnAt.of 3 rfl rfl) (OwnAt.of 2 rfl rfl) rfl (Im.le_trans hle hle2) ?_
        exact ⟨rfl, _, by rw [hsome]; rfl, (fun r hr => by rw [hsome] at hr; cases hr; exact hs3), (fun hr => by rw [hsome] at hr; cases hr)⟩

end Go.Proofs.Ytlgfpieokaegiaa
