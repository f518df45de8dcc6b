/- Walks: a further hand. Walks: Begin, Pass. -/
import Derived.Test.YtmlliafhpbfdbaaDoorME
import Derived.Test.YtmlliafhpbfdbaaDoorMK
import Derived.Test.YtmlliafhpbfdbaaDoorCR
namespace Go.Proofs.YtmlliafhpbfdbaaDoor
open Go.Xe Go.Sh Go Go.At

set_option maxHeartbeats 4000000 in
theorem add_any (key : ByteArray) (x : Att) (a : Option Addr) (cap : Nat) (c l : Int) (I : Im) (hA : Arr I a x.hs) (hlen : x.hs.length ≤ 1000) (_hks : key.size ≤ 1000000) (hG : Glob I) : FC Tryd.prog 68 [.string key, .agg (x.cs a cap).toArray, .int .i64 c, .int .i64 l] I (fun u I' => AOut I' u (grow key x c l)) := by
  refine FSo.introM (n := 54) Tryd.func68 rfl rfl rfl (fun K Lf => ?_)
  refine XC.seq ?_
  refine XC.region ?_
  refine XO.box1 rfl rfl rfl rfl (fun b4 => ?_)
  refine XO.box_agg rfl rfl rfl (fun b5 => ?_)
  refine XO.alloc (cs := #[.int .i64 0, .int .i64 0, .int .i64 0, .int .i64 0, .slice none 0 0]) rfl rfl zo37 rfl (fun b8 => ?_)
  refine XO.rd rfl rfl rfl (Reads.assign rfl) ?_
  refine XO.nil ?_
  refine XQ.then_normal ?_
  refine XC.seq ?_
  refine XC.region ?_
  refine XO.rd rfl rfl rfl (Reads.move rfl) ?_
  refine XO.rd rfl rfl rfl (Reads.move rfl) ?_
  refine XO.callp rfl rfl en84 (repeat_any _) ⟨rfl, rfl, trivial⟩ ?_
  refine XO.rd rfl rfl rfl (bd53v c l zero32 ⟨rfl, rfl, rfl, rfl, rfl, rfl, trivial⟩) ?_
  refine XO.alloc (cs := #[.int .i64 0, .int .i64 0, .string ⟨#[]⟩]) rfl rfl zo53 rfl (fun b10 => ?_)
  refine XO.store_agg (vs := (newH c l).cs) 0 rfl z53 rfl rfl (by simp [Value.oneCell']) rfl (by simp) ?_
  refine XO.nil ?_
  refine XQ.then_normal ?_
  refine XC.seq ?_
  refine XC.join (ι := Vec × Nat) (fun q => [(4, .pointer (some ⟨b4, 0, none⟩)), (5, .pointer (some ⟨b5, 0, none⟩)), (8, .pointer (some ⟨b8, 0, none⟩)), (11, .pointer (some ⟨q.2, 0, none⟩))]) (fun q => I) (fun q => q.1.ent 53 :: some (q.2, .cells #[.int .i64 x.d.a, .int .i64 x.d.b, .int .i64 x.d.t, .int .i64 x.d.n, q.1.val] 37 (0, 0)) :: some (b10, .cells (newH c l).cs.toArray 53 (0, 0)) :: some (b8, .cells #[.int .i64 0, .int .i64 0, .int .i64 0, .int .i64 0, .slice none 0 0] 37 (0, 0)) :: some (b5, .cells (x.cs a cap).toArray 37 (0, 0)) :: some (b4, .cells #[.string key] 9 (0, 0)) :: ([] ++ Lf)) (fun q => q.1.Is 3 (handC (x.add (newH c l)).hs)) ?_ (fun q hq => ?_)
  · skip
    refine XC.draw m_mixed (some 10) (.pure 0 (.pure 1 (.pure 2 (.pure 3 (.pure 5 (.alt 4 (.alt 6 (.alt 7 (.pure 8 (.eff 9 (.eff 10 (.done)))) (.eff 9 (.eff 7 (.pure 8 (.eff 10 (.done)))))) (.eff 9 (.eff 6 (.eff 7 (.pure 8 (.eff 10 (.done))))))) (.alt 6 (.alt 4 (.alt 7 (.pure 8 (.eff 9 (.eff 10 (.done)))) (.eff 9 (.eff 7 (.pure 8 (.eff 10 (.done)))))) (.eff 9 (.eff 4 (.eff 7 (.pure 8 (.eff 10 (.done))))))) (.eff 9 (.alt 4 (.eff 6 (.eff 7 (.pure 8 (.eff 10 (.done))))) (.eff 6 (.eff 4 (.eff 7 (.pure 8 (.eff 10 (.done))))))))))))))) _ (by kernel_rfl) (List.Sublist.refl _) ?_
    refine XR.rd rfl rfl rfl (fa37_0 rfl) ?_
    refine XR.rd rfl rfl rfl (Reads.load_agg_own (vs := x.d.cs) k34 z34 rfl (fun j v hj => OwnAt.of 2 rfl (by rw [Nat.zero_add]; exact dial_at x a cap hj))) ?_
    refine XR.rd rfl rfl rfl (fa37_1 rfl) ?_
    refine XR.rd rfl rfl rfl (Reads.load_own k35 rfl (by first | exact OwnAt.of 0 rfl rfl | exact OwnAt.of 1 rfl rfl | exact OwnAt.of 2 rfl rfl | exact OwnAt.of 3 rfl rfl | exact OwnAt.of 4 rfl rfl | exact OwnAt.of 5 rfl rfl | exact OwnAt.of 6 rfl rfl | exact OwnAt.of 7 rfl rfl | exact OwnAt.of 8 rfl rfl | exact OwnAt.of 9 rfl rfl)) ?_
    refine XR.rd rfl rfl rfl (Reads.load_whole k53 z53 rfl (by first | exact WholeAt.of 0 rfl | exact WholeAt.of 1 rfl | exact WholeAt.of 2 rfl | exact WholeAt.of 3 rfl | exact WholeAt.of 4 rfl | exact WholeAt.of 5 rfl | exact WholeAt.of 6 rfl | exact WholeAt.of 7 rfl | exact WholeAt.of 8 rfl | exact WholeAt.of 9 rfl) (by rfl)) ?_
    refine XR.alt ?_ ?_
    · skip
      refine XR.callo (vs := [_]) (L1 := []) rfl rfl rfl rfl en53 ⟨rfl, trivial⟩ (clone_any a cap x.hs I hA (by omega)) (List.Perm.refl _) ?_
      rintro v' J' L' _ ⟨V, rfl, hJ', rfl, hV0⟩
      replace hJ' := hJ'.symm
      subst hJ'
      have hVl0 : V.len = x.hs.length := by have h9 := hV0.len; rw [handC_len] at h9; omega
      refine ⟨.inr (List.Sublist.cons _ (List.Sublist.refl _)), ?_⟩
      refine XR.alt ?_ ?_
      · skip
        refine XR.buildL [.agg (newH c l).cs.toArray] (newH c l).cs rfl rfl rfl Tryd.underlying35 el53 rfl (by simp) ⟨rfl, rfl, trivial⟩ rfl rfl (List.Sublist.cons _ (List.Sublist.refl _)) (fun bu => ?_)
        refine XR.alt ?_ ?_
        · skip
          refine XR.append (V := V) (news := (newH c l).cs) 1 rfl rfl rfl Tryd.underlying35 el53 rfl rfl hV0 rfl (.slice Tryd.underlying35 (.inr (.inr ⟨bu, 0, rfl, fun j v hj => ⟨(newH c l).cs.toArray, 53, (0, 0), by simp, by simpa using hj⟩⟩)) rfl (by simp [Value.oneCell'])) (by omega) (by omega) ?_
          intro V2 hV2 _
          refine ⟨.inr (List.Sublist.cons _ (List.Sublist.cons _ (List.Sublist.refl _))), ?_⟩
          refine XR.rd rfl rfl rfl (bd37v x.d V2.val ⟨_, _, _, rfl⟩ ⟨rfl, rfl, rfl, rfl, trivial⟩) ?_
          refine XR.alloc (cs := #[.int .i64 0, .int .i64 0, .int .i64 0, .int .i64 0, .slice none 0 0]) rfl rfl rfl zo37 rfl (List.Sublist.cons _ (List.Sublist.cons _ (List.Sublist.refl _))) (fun b11 => ?_)
          refine XR.store_agg (vs := [.int .i64 x.d.a, .int .i64 x.d.b, .int .i64 x.d.t, .int .i64 x.d.n, V2.val]) 0 rfl rfl z37 rfl rfl (by simp [Value.oneCell']) rfl (by simp) (.inl rfl) ?_
          refine XR.nil ?_
          refine XQ.perm (perm_take [1]) ?_
          refine XQ.dropn 1 ?_
          refine XQ.perm (perm_take [1]) ?_
          refine XQ.joined (V2, b11) (by rw [handC_add]; exact hV2) ⟨rfl, rfl, rfl, rfl, trivial⟩ rfl (List.Perm.refl _)
        · skip
          refine XR.alloc (cs := #[.int .i64 0, .int .i64 0, .int .i64 0, .int .i64 0, .slice none 0 0]) rfl rfl rfl zo37 rfl (List.Sublist.cons _ (List.Sublist.cons _ (List.Sublist.refl _))) (fun b11 => ?_)
          refine XR.append (V := V) (news := (newH c l).cs) 2 rfl rfl rfl Tryd.underlying35 el53 rfl rfl hV0 rfl (.slice Tryd.underlying35 (.inr (.inr ⟨bu, 0, rfl, fun j v hj => ⟨(newH c l).cs.toArray, 53, (0, 0), by simp, by simpa using hj⟩⟩)) rfl (by simp [Value.oneCell'])) (by omega) (by omega) ?_
          intro V2 hV2 _
          refine ⟨.inr (List.Sublist.cons _ (List.Sublist.cons _ (List.Sublist.cons _ (List.Sublist.refl _)))), ?_⟩
          refine XR.rd rfl rfl rfl (bd37v x.d V2.val ⟨_, _, _, rfl⟩ ⟨rfl, rfl, rfl, rfl, trivial⟩) ?_
          refine XR.store_agg (vs := [.int .i64 x.d.a, .int .i64 x.d.b, .int .i64 x.d.t, .int .i64 x.d.n, V2.val]) 0 rfl rfl z37 rfl rfl (by simp [Value.oneCell']) rfl (by simp) (.inl rfl) ?_
          refine XR.nil ?_
          refine XQ.perm (perm_take [1]) ?_
          refine XQ.dropn 1 ?_
          refine XQ.perm (perm_take [1]) ?_
          refine XQ.joined (V2, b11) (by rw [handC_add]; exact hV2) ⟨rfl, rfl, rfl, rfl, trivial⟩ rfl (List.Perm.refl _)
      · skip
        refine XR.alloc (cs := #[.int .i64 0, .int .i64 0, .int .i64 0, .int .i64 0, .slice none 0 0]) rfl rfl rfl zo37 rfl (List.Sublist.cons _ (List.Sublist.refl _)) (fun b11 => ?_)
        refine XR.buildL [.agg (newH c l).cs.toArray] (newH c l).cs rfl rfl rfl Tryd.underlying35 el53 rfl (by simp) ⟨rfl, rfl, trivial⟩ rfl rfl (List.Sublist.cons _ (List.Sublist.cons _ (List.Sublist.refl _))) (fun bu => ?_)
        refine XR.append (V := V) (news := (newH c l).cs) 2 rfl rfl rfl Tryd.underlying35 el53 rfl rfl hV0 rfl (.slice Tryd.underlying35 (.inr (.inr ⟨bu, 0, rfl, fun j v hj => ⟨(newH c l).cs.toArray, 53, (0, 0), by simp, by simpa using hj⟩⟩)) rfl (by simp [Value.oneCell'])) (by omega) (by omega) ?_
        intro V2 hV2 _
        refine ⟨.inr (List.Sublist.cons _ (List.Sublist.cons _ (List.Sublist.cons _ (List.Sublist.refl _)))), ?_⟩
        refine XR.rd rfl rfl rfl (bd37v x.d V2.val ⟨_, _, _, rfl⟩ ⟨rfl, rfl, rfl, rfl, trivial⟩) ?_
        refine XR.store_agg (vs := [.int .i64 x.d.a, .int .i64 x.d.b, .int .i64 x.d.t, .int .i64 x.d.n, V2.val]) 1 rfl rfl z37 rfl rfl (by simp [Value.oneCell']) rfl (by simp) (.inl rfl) ?_
        refine XR.nil ?_
        refine XQ.dropn 1 ?_
        refine XQ.perm (perm_take [1]) ?_
        refine XQ.joined (V2, b11) (by rw [handC_add]; exact hV2) ⟨rfl, rfl, rfl, rfl, trivial⟩ rfl (List.Perm.refl _)
    refine XR.alt ?_ ?_
    · skip
      refine XR.buildL [.agg (newH c l).cs.toArray] (newH c l).cs rfl rfl rfl Tryd.underlying35 el53 rfl (by simp) ⟨rfl, rfl, trivial⟩ rfl rfl (List.Sublist.refl _) (fun bu => ?_)
      refine XR.alt ?_ ?_
      · skip
        refine XR.callo (vs := [_]) (L1 := []) rfl rfl rfl rfl en53 ⟨rfl, trivial⟩ (clone_any a cap x.hs I hA (by omega)) (List.Perm.refl _) ?_
        rintro v' J' L' _ ⟨V, rfl, hJ', rfl, hV0⟩
        replace hJ' := hJ'.symm
        subst hJ'
        have hVl0 : V.len = x.hs.length := by have h9 := hV0.len; rw [handC_len] at h9; omega
        refine ⟨.inr (List.Sublist.cons _ (List.Sublist.cons _ (List.Sublist.refl _))), ?_⟩
        refine XR.alt ?_ ?_
        · skip
          refine XR.append (V := V) (news := (newH c l).cs) 0 rfl rfl rfl Tryd.underlying35 el53 rfl rfl hV0 rfl (.slice Tryd.underlying35 (.inr (.inr ⟨bu, 0, rfl, fun j v hj => ⟨(newH c l).cs.toArray, 53, (0, 0), by simp, by simpa using hj⟩⟩)) rfl (by simp [Value.oneCell'])) (by omega) (by omega) ?_
          intro V2 hV2 _
          refine ⟨.inr (List.Sublist.cons _ (List.Sublist.cons _ (List.Sublist.refl _))), ?_⟩
          refine XR.rd rfl rfl rfl (bd37v x.d V2.val ⟨_, _, _, rfl⟩ ⟨rfl, rfl, rfl, rfl, trivial⟩) ?_
          refine XR.alloc (cs := #[.int .i64 0, .int .i64 0, .int .i64 0, .int .i64 0, .slice none 0 0]) rfl rfl rfl zo37 rfl (List.Sublist.cons _ (List.Sublist.cons _ (List.Sublist.refl _))) (fun b11 => ?_)
          refine XR.store_agg (vs := [.int .i64 x.d.a, .int .i64 x.d.b, .int .i64 x.d.t, .int .i64 x.d.n, V2.val]) 0 rfl rfl z37 rfl rfl (by simp [Value.oneCell']) rfl (by simp) (.inl rfl) ?_
          refine XR.nil ?_
          refine XQ.perm (perm_take [2]) ?_
          refine XQ.dropn 1 ?_
          refine XQ.perm (perm_take [1]) ?_
          refine XQ.joined (V2, b11) (by rw [handC_add]; exact hV2) ⟨rfl, rfl, rfl, rfl, trivial⟩ rfl (List.Perm.refl _)
        · skip
          refine XR.alloc (cs := #[.int .i64 0, .int .i64 0, .int .i64 0, .int .i64 0, .slice none 0 0]) rfl rfl rfl zo37 rfl (List.Sublist.cons _ (List.Sublist.cons _ (List.Sublist.refl _))) (fun b11 => ?_)
          refine XR.append (V := V) (news := (newH c l).cs) 1 rfl rfl rfl Tryd.underlying35 el53 rfl rfl hV0 rfl (.slice Tryd.underlying35 (.inr (.inr ⟨bu, 0, rfl, fun j v hj => ⟨(newH c l).cs.toArray, 53, (0, 0), by simp, by simpa using hj⟩⟩)) rfl (by simp [Value.oneCell'])) (by omega) (by omega) ?_
          intro V2 hV2 _
          refine ⟨.inr (List.Sublist.cons _ (List.Sublist.cons _ (List.Sublist.cons _ (List.Sublist.refl _)))), ?_⟩
          refine XR.rd rfl rfl rfl (bd37v x.d V2.val ⟨_, _, _, rfl⟩ ⟨rfl, rfl, rfl, rfl, trivial⟩) ?_
          refine XR.store_agg (vs := [.int .i64 x.d.a, .int .i64 x.d.b, .int .i64 x.d.t, .int .i64 x.d.n, V2.val]) 0 rfl rfl z37 rfl rfl (by simp [Value.oneCell']) rfl (by simp) (.inl rfl) ?_
          refine XR.nil ?_
          refine XQ.perm (perm_take [2]) ?_
          refine XQ.dropn 1 ?_
          refine XQ.perm (perm_take [1]) ?_
          refine XQ.joined (V2, b11) (by rw [handC_add]; exact hV2) ⟨rfl, rfl, rfl, rfl, trivial⟩ rfl (List.Perm.refl _)
      · skip
        refine XR.alloc (cs := #[.int .i64 0, .int .i64 0, .int .i64 0, .int .i64 0, .slice none 0 0]) rfl rfl rfl zo37 rfl (List.Sublist.cons _ (List.Sublist.refl _)) (fun b11 => ?_)
        refine XR.callo (vs := [_]) (L1 := []) rfl rfl rfl rfl en53 ⟨rfl, trivial⟩ (clone_any a cap x.hs I hA (by omega)) (List.Perm.refl _) ?_
        rintro v' J' L' _ ⟨V, rfl, hJ', rfl, hV0⟩
        replace hJ' := hJ'.symm
        subst hJ'
        have hVl0 : V.len = x.hs.length := by have h9 := hV0.len; rw [handC_len] at h9; omega
        refine ⟨.inr (List.Sublist.cons _ (List.Sublist.cons _ (List.Sublist.cons _ (List.Sublist.refl _)))), ?_⟩
        refine XR.append (V := V) (news := (newH c l).cs) 0 rfl rfl rfl Tryd.underlying35 el53 rfl rfl hV0 rfl (.slice Tryd.underlying35 (.inr (.inr ⟨bu, 0, rfl, fun j v hj => ⟨(newH c l).cs.toArray, 53, (0, 0), by simp, by simpa using hj⟩⟩)) rfl (by simp [Value.oneCell'])) (by omega) (by omega) ?_
        intro V2 hV2 _
        refine ⟨.inr (List.Sublist.cons _ (List.Sublist.cons _ (List.Sublist.cons _ (List.Sublist.refl _)))), ?_⟩
        refine XR.rd rfl rfl rfl (bd37v x.d V2.val ⟨_, _, _, rfl⟩ ⟨rfl, rfl, rfl, rfl, trivial⟩) ?_
        refine XR.store_agg (vs := [.int .i64 x.d.a, .int .i64 x.d.b, .int .i64 x.d.t, .int .i64 x.d.n, V2.val]) 1 rfl rfl z37 rfl rfl (by simp [Value.oneCell']) rfl (by simp) (.inl rfl) ?_
        refine XR.nil ?_
        refine XQ.perm (perm_take [2]) ?_
        refine XQ.dropn 1 ?_
        refine XQ.joined (V2, b11) (by rw [handC_add]; exact hV2) ⟨rfl, rfl, rfl, rfl, trivial⟩ rfl (List.Perm.refl _)
    · skip
      refine XR.alloc (cs := #[.int .i64 0, .int .i64 0, .int .i64 0, .int .i64 0, .slice none 0 0]) rfl rfl rfl zo37 rfl (List.Sublist.refl _) (fun b11 => ?_)
      refine XR.alt ?_ ?_
      · skip
        refine XR.callo (vs := [_]) (L1 := []) rfl rfl rfl rfl en53 ⟨rfl, trivial⟩ (clone_any a cap x.hs I hA (by omega)) (List.Perm.refl _) ?_
        rintro v' J' L' _ ⟨V, rfl, hJ', rfl, hV0⟩
        replace hJ' := hJ'.symm
        subst hJ'
        have hVl0 : V.len = x.hs.length := by have h9 := hV0.len; rw [handC_len] at h9; omega
        refine ⟨.inr (List.Sublist.cons _ (List.Sublist.cons _ (List.Sublist.refl _))), ?_⟩
        refine XR.buildL [.agg (newH c l).cs.toArray] (newH c l).cs rfl rfl rfl Tryd.underlying35 el53 rfl (by simp) ⟨rfl, rfl, trivial⟩ rfl rfl (List.Sublist.cons _ (List.Sublist.cons _ (List.Sublist.refl _))) (fun bu => ?_)
        refine XR.append (V := V) (news := (newH c l).cs) 1 rfl rfl rfl Tryd.underlying35 el53 rfl rfl hV0 rfl (.slice Tryd.underlying35 (.inr (.inr ⟨bu, 0, rfl, fun j v hj => ⟨(newH c l).cs.toArray, 53, (0, 0), by simp, by simpa using hj⟩⟩)) rfl (by simp [Value.oneCell'])) (by omega) (by omega) ?_
        intro V2 hV2 _
        refine ⟨.inr (List.Sublist.cons _ (List.Sublist.cons _ (List.Sublist.cons _ (List.Sublist.refl _)))), ?_⟩
        refine XR.rd rfl rfl rfl (bd37v x.d V2.val ⟨_, _, _, rfl⟩ ⟨rfl, rfl, rfl, rfl, trivial⟩) ?_
        refine XR.store_agg (vs := [.int .i64 x.d.a, .int .i64 x.d.b, .int .i64 x.d.t, .int .i64 x.d.n, V2.val]) 2 rfl rfl z37 rfl rfl (by simp [Value.oneCell']) rfl (by simp) (.inl rfl) ?_
        refine XR.nil ?_
        refine XQ.dropn 1 ?_
        refine XQ.joined (V2, b11) (by rw [handC_add]; exact hV2) ⟨rfl, rfl, rfl, rfl, trivial⟩ rfl (List.Perm.refl _)
      · skip
        refine XR.buildL [.agg (newH c l).cs.toArray] (newH c l).cs rfl rfl rfl Tryd.underlying35 el53 rfl (by simp) ⟨rfl, rfl, trivial⟩ rfl rfl (List.Sublist.cons _ (List.Sublist.refl _)) (fun bu => ?_)
        refine XR.callo (vs := [_]) (L1 := []) rfl rfl rfl rfl en53 ⟨rfl, trivial⟩ (clone_any a cap x.hs I hA (by omega)) (List.Perm.refl _) ?_
        rintro v' J' L' _ ⟨V, rfl, hJ', rfl, hV0⟩
        replace hJ' := hJ'.symm
        subst hJ'
        have hVl0 : V.len = x.hs.length := by have h9 := hV0.len; rw [handC_len] at h9; omega
        refine ⟨.inr (List.Sublist.cons _ (List.Sublist.cons _ (List.Sublist.cons _ (List.Sublist.refl _)))), ?_⟩
        refine XR.append (V := V) (news := (newH c l).cs) 0 rfl rfl rfl Tryd.underlying35 el53 rfl rfl hV0 rfl (.slice Tryd.underlying35 (.inr (.inr ⟨bu, 0, rfl, fun j v hj => ⟨(newH c l).cs.toArray, 53, (0, 0), by simp, by simpa using hj⟩⟩)) rfl (by simp [Value.oneCell'])) (by omega) (by omega) ?_
        intro V2 hV2 _
        refine ⟨.inr (List.Sublist.cons _ (List.Sublist.cons _ (List.Sublist.cons _ (List.Sublist.refl _)))), ?_⟩
        refine XR.rd rfl rfl rfl (bd37v x.d V2.val ⟨_, _, _, rfl⟩ ⟨rfl, rfl, rfl, rfl, trivial⟩) ?_
        refine XR.store_agg (vs := [.int .i64 x.d.a, .int .i64 x.d.b, .int .i64 x.d.t, .int .i64 x.d.n, V2.val]) 2 rfl rfl z37 rfl rfl (by simp [Value.oneCell']) rfl (by simp) (.inl rfl) ?_
        refine XR.nil ?_
        refine XQ.perm (perm_take [1]) ?_
        refine XQ.dropn 1 ?_
        refine XQ.joined (V2, b11) (by rw [handC_add]; exact hV2) ⟨rfl, rfl, rfl, rfl, trivial⟩ rfl (List.Perm.refl _)
  · skip
    obtain ⟨⟨blk, n0, cp⟩, b11⟩ := q
    have hVl : n0 = (x.add (newH c l)).hs.length := by have h9 := hq.len; rw [handC_len] at h9; simp only at h9; omega
    subst hVl
    have hV : (⟨blk, (x.add (newH c l)).hs.length, cp⟩ : Vec).Is 3 (handC (x.add (newH c l)).hs) := hq
    simp only
    refine XQ.then_normal ?_
    refine XC.seq ?_
    refine XC.seq ?_
    refine XC.region ?_
    refine XO.rd rfl rfl rfl (Reads.load_own k9 rfl (by first | exact OwnAt.of 0 rfl rfl | exact OwnAt.of 1 rfl rfl | exact OwnAt.of 2 rfl rfl | exact OwnAt.of 3 rfl rfl | exact OwnAt.of 4 rfl rfl | exact OwnAt.of 5 rfl rfl | exact OwnAt.of 6 rfl rfl | exact OwnAt.of 7 rfl rfl | exact OwnAt.of 8 rfl rfl | exact OwnAt.of 9 rfl rfl)) ?_
    refine XO.callp rfl rfl en55 (isKey_any key _) ⟨rfl, trivial⟩ ?_
    refine XO.rd rfl rfl rfl (Reads.not rfl) ?_
    refine XO.rd rfl rfl rfl (Reads.move rfl) ?_
    refine XO.split (d := 30) rfl (fun h1 => ?_) (fun h1 => ?_)
    · skip
      simp only [Bool.not_eq_true'] at h1
      have hk1 : ¬ key.size = 32 := by simpa using h1
      refine XO.s (wg rfl rfl rfl) rfl ?_
      refine XO.s (wg rfl rfl rfl) rfl ?_
      refine XO.s (wg rfl rfl rfl) rfl ?_
      refine XO.rd rfl rfl rfl (Reads.pick_true rfl rfl) ?_
      refine XO.nil ?_
      refine XQ.then_normal ?_
      refine XC.cond rfl (fun _ => ?_) (fun hx => by cases hx)
      refine XC.seq ?_
      refine XC.region ?_
      refine XO.rd rfl rfl rfl (bd37 (vs := []) (none0.cs none 0).toArray trivial rfl) ?_
      refine XO.store_agg (vs := none0.cs none 0) 3 rfl z37 rfl rfl (by simp [Att.cs, none0, Value.oneCell']) rfl (by simp [Att.cs]) ?_
      refine XO.rd rfl rfl rfl (Reads.assign rfl) ?_
      refine XO.nil ?_
      refine XQ.then_normal ?_
      refine XC.ret ?_
      refine XQ.then_ret ?_
      refine XQ.ofM ?_
      refine XQ.done2ca [] 6 rfl k37 z37 rfl rfl (WholeAt.of 3 rfl) rfl rfl (Im.le_refl _) ?_
      exact ⟨rfl, _, _, rfl, (fun y hy => by rw [grow_no1 hk1] at hy; cases hy), fun _ => ⟨rfl, rfl⟩⟩
    · skip
      simp only [Bool.not_eq_false'] at h1
      have hk1 : key.size = 32 := by simpa using h1
      refine XO.rd (wg rfl rfl rfl) rfl rfl (Reads.load_whole k37 z37 rfl (by first | exact WholeAt.of 0 rfl | exact WholeAt.of 1 rfl | exact WholeAt.of 2 rfl | exact WholeAt.of 3 rfl | exact WholeAt.of 4 rfl | exact WholeAt.of 5 rfl | exact WholeAt.of 6 rfl | exact WholeAt.of 7 rfl | exact WholeAt.of 8 rfl | exact WholeAt.of 9 rfl) (by rfl)) ?_
      refine XO.callo (vs := [_]) (L1 := [(⟨blk, (x.add (newH c l)).hs.length, cp⟩ : Vec).ent 53]) (wg rfl rfl rfl) rfl rfl en20 ⟨rfl, trivial⟩ (FSo.lendA (α := Hand) (by decide) hV (flat_hand _ _) (fun J hle hA2 => formed_any (x.add (newH c l)) (⟨blk, (x.add (newH c l)).hs.length, cp⟩ : Vec).addr cp J hA2 (by rw [add_len]; omega))) (List.Perm.refl _) ?_
      rintro v' J' L' _ ⟨rfl, hJ', rfl⟩
      replace hJ' := hJ'.symm
      subst hJ'
      refine XO.rd (wg rfl rfl rfl) rfl rfl (Reads.not rfl) ?_
      refine XO.rd rfl rfl rfl (Reads.pick_false rfl rfl) ?_
      refine XO.nil ?_
      refine XQ.then_normal ?_
      refine XC.cond rfl (fun h2 => ?_) (fun h2 => ?_)
      · skip
        simp only [Bool.not_eq_true'] at h2
        refine XC.seq ?_
        refine XC.region ?_
        refine XO.rd rfl rfl rfl (bd37 (vs := []) (none0.cs none 0).toArray trivial rfl) ?_
        refine XO.store_agg (vs := none0.cs none 0) 3 rfl z37 rfl rfl (by simp [Att.cs, none0, Value.oneCell']) rfl (by simp [Att.cs]) ?_
        refine XO.rd rfl rfl rfl (Reads.assign rfl) ?_
        refine XO.nil ?_
        refine XQ.then_normal ?_
        refine XC.ret ?_
        refine XQ.then_ret ?_
        refine XQ.ofM ?_
        refine XQ.done2ca [] 6 rfl k37 z37 rfl rfl (WholeAt.of 3 rfl) rfl rfl (Im.le_refl _) ?_
        exact ⟨rfl, _, _, rfl, (fun y hy => by rw [grow_no2 (by assumption)] at hy; cases hy), fun _ => ⟨rfl, rfl⟩⟩
      · skip
        simp only [Bool.not_eq_false'] at h2
        have hf : (x.add (newH c l)).formed = true := h2
        have hle8 := formed_len hf
        have hn9 : (x.add (newH c l)).hs.length ≤ 9 := by omega
        have hsz := formed_sz hf
        have hin := formed_in hf
        have hdi := formed_d hf
        have hyl := add_len (x := x) (newH c l)
        refine XC.skip ?_
        refine XQ.then_normal ?_
        refine XC.seq ?_
        refine XC.seq ?_
        refine XC.region ?_
        refine XO.rd rfl rfl rfl (Reads.load_whole k37 z37 rfl (by first | exact WholeAt.of 0 rfl | exact WholeAt.of 1 rfl | exact WholeAt.of 2 rfl | exact WholeAt.of 3 rfl | exact WholeAt.of 4 rfl | exact WholeAt.of 5 rfl | exact WholeAt.of 6 rfl | exact WholeAt.of 7 rfl | exact WholeAt.of 8 rfl | exact WholeAt.of 9 rfl) (by rfl)) ?_
        refine XO.callo (vs := [_]) (L1 := []) rfl rfl rfl en49 ⟨rfl, trivial⟩ (hands_any (x.add (newH c l)) (⟨blk, (x.add (newH c l)).hs.length, cp⟩ : Vec).addr cp I) (List.Perm.refl _) ?_
        rintro v' J' L' _ ⟨bh, rfl, hJ', rfl⟩
        replace hJ' := hJ'.symm
        subst hJ'
        refine XO.nil ?_
        refine XQ.then_normal ?_
        refine XC.block ?_
        refine XC.rangeFunc (f := 74) (fi := #[]) (ca := #[.pointer (some ⟨bh, 0, none⟩)]) (L1 := [some (bh, .cells ((x.add (newH c l)).cs (⟨blk, (x.add (newH c l)).hs.length, cp⟩ : Vec).addr cp).toArray 37 (0, 0)), (⟨blk, (x.add (newH c l)).hs.length, cp⟩ : Vec).ent 53, some (b11, .cells #[.int .i64 x.d.a, .int .i64 x.d.b, .int .i64 x.d.t, .int .i64 x.d.n, (⟨blk, (x.add (newH c l)).hs.length, cp⟩ : Vec).val] 37 (0, 0)), some (b10, .cells (newH c l).cs.toArray 53 (0, 0)), some (b8, .cells #[.int .i64 0, .int .i64 0, .int .i64 0, .int .i64 0, .slice none 0 0] 37 (0, 0)), some (b5, .cells (x.cs a cap).toArray 37 (0, 0)), some (b4, .cells #[.string key] 9 (0, 0))]) (Lf := Lf) rfl en74 (List.Perm.refl _) (fun lq D rc hR => ?_)
        let J : Nat → Im → Own → Prop := fun j I' L => I' = I ∧ ∃ V1 : Vec, V1.val = (⟨blk, (x.add (newH c l)).hs.length, cp⟩ : Vec).val ∧ V1.Is 3 (handC (if j ≤ x.hs.length then (x.add (newH c l)).hs else (grown key x c l).hs)) ∧ L = some (lq, lp rc .ready none) :: some (D, .deferred (some [])) :: V1.ent 53 :: some (b11, .cells #[.int .i64 x.d.a, .int .i64 x.d.b, .int .i64 x.d.t, .int .i64 x.d.n, V1.val] 37 (0, 0)) :: some (b10, .cells (newH c l).cs.toArray 53 (0, 0)) :: some (b8, .cells #[.int .i64 0, .int .i64 0, .int .i64 0, .int .i64 0, .slice none 0 0] 37 (0, 0)) :: some (b5, .cells (x.cs a cap).toArray 37 (0, 0)) :: some (b4, .cells #[.string key] 9 (0, 0)) :: []
        refine ⟨_, FSo.perm (perm_take [2]) (hands1_any lq bh (x.add (newH c l)) (⟨blk, (x.add (newH c l)).hs.length, cp⟩ : Vec).addr cp I (some (lq, lp rc .ready none) :: some (D, .deferred (some [])) :: (⟨blk, (x.add (newH c l)).hs.length, cp⟩ : Vec).ent 53 :: some (b11, .cells #[.int .i64 x.d.a, .int .i64 x.d.b, .int .i64 x.d.t, .int .i64 x.d.n, (⟨blk, (x.add (newH c l)).hs.length, cp⟩ : Vec).val] 37 (0, 0)) :: some (b10, .cells (newH c l).cs.toArray 53 (0, 0)) :: some (b8, .cells #[.int .i64 0, .int .i64 0, .int .i64 0, .int .i64 0, .slice none 0 0] 37 (0, 0)) :: some (b5, .cells (x.cs a cap).toArray 37 (0, 0)) :: some (b4, .cells #[.string key] 9 (0, 0)) :: []) J (fun _ _ _ => False) hn9 hsz hin hdi ⟨rfl, _, rfl, by rw [if_pos (Nat.zero_le _)]; exact hV, rfl⟩ (fun h => vec_addr3 hV h) (fun j I1 L1 hJ hj3 i v hi => ?_) (fun j I1 L1 hJ hj3 => ?_)), fun u I4 L4 hle4 hq => ?_⟩
        · skip
          obtain ⟨hI1, V1, hv1, hV1, rfl⟩ := hJ
          rw [if_pos (by omega)] at hV1
          rw [Att.h_get _ hj3] at hi
          have h9 : V1.addr = (⟨blk, (x.add (newH c l)).hs.length, cp⟩ : Vec).addr := by have := hv1; simp only [Vec.val, Value.slice.injEq] at this; exact this.1
          rw [← h9]
          exact vec_rd (e := 53) hV1 (by simp) hj3 hi
        · skip
          obtain ⟨hI1, V1, hv1, hV1, rfl⟩ := hJ
          rw [hI1]
          refine YS.intro hR rfl rfl (fun K Lf => ?_)
          refine XC.seq ?_
          refine XC.region ?_
          refine XO.rd rfl rfl rfl (Reads.assign rfl) ?_
          refine XO.nil ?_
          refine XQ.then_normal ?_
          refine XC.region ?_
          refine XO.alloc (cs := #[.int .i64 0, .int .i64 0, .string ⟨#[]⟩, .string ⟨#[]⟩]) rfl rfl zo84 rfl (fun b13 => ?_)
          refine XO.store_agg (vs := hand84 (x.add (newH c l)) j) 0 rfl z84 rfl rfl (by simp [Value.oneCell']) rfl (by simp) ?_
          refine XO.nil ?_
          refine XQ.perm (perm_take [1]) ?_
          refine XQ.begin ?_
          refine XC.block ?_
          refine XC.seq ?_
          refine XC.region ?_
          refine XO.rd rfl rfl rfl (Reads.move rfl) ?_
          refine XO.rd rfl rfl rfl (fa37_1 rfl) ?_
          refine XO.rd rfl rfl rfl (Reads.load_own k35 rfl (by first | exact OwnAt.of 0 rfl rfl | exact OwnAt.of 1 rfl rfl | exact OwnAt.of 2 rfl rfl | exact OwnAt.of 3 rfl rfl | exact OwnAt.of 4 rfl rfl | exact OwnAt.of 5 rfl rfl | exact OwnAt.of 6 rfl rfl | exact OwnAt.of 7 rfl rfl | exact OwnAt.of 8 rfl rfl | exact OwnAt.of 9 rfl rfl)) ?_
          refine XO.rd rfl rfl rfl (Reads.len_slice Tryd.underlying35 rfl) ?_
          refine XO.rd rfl rfl rfl (Reads.cmp rfl rfl rfl) ?_
          refine XO.nil ?_
          refine XQ.then_normal ?_
          refine XC.cond rfl (fun h3 => ?_) (fun h3 => ?_)
          · skip
            simp only [cmpInt, beq_iff_eq] at h3
            have hj44 : j = x.hs.length := by omega
            rw [if_pos (show j ≤ x.hs.length by omega)] at hV1
            have ha1 := vec_addr3 hV1 (by omega)
            have hlast := fun (e : j = x.hs.length) => add_last (c := c) (l := l) e
            refine XC.draw m_mixed (some 8) (.pure 0 (.pure 1 (.pure 2 (.pure 3 (.pure 4 (.eff 5 (.pure 6 (.pure 7 (.eff 8 (.done)))))))))) _ (by kernel_rfl) (List.Sublist.refl _) ?_
            refine XR.rd rfl rfl rfl (fa37_1 rfl) ?_
            refine XR.rd rfl rfl rfl (Reads.load_own k35 rfl (by first | exact OwnAt.of 0 rfl rfl | exact OwnAt.of 1 rfl rfl | exact OwnAt.of 2 rfl rfl | exact OwnAt.of 3 rfl rfl | exact OwnAt.of 4 rfl rfl | exact OwnAt.of 5 rfl rfl | exact OwnAt.of 6 rfl rfl | exact OwnAt.of 7 rfl rfl | exact OwnAt.of 8 rfl rfl | exact OwnAt.of 9 rfl rfl)) ?_
            refine XR.rd rfl rfl rfl (Reads.move rfl) ?_
            refine XR.rd rfl rfl rfl (Reads.load_whole k84 z84 rfl (by first | exact WholeAt.of 0 rfl | exact WholeAt.of 1 rfl | exact WholeAt.of 2 rfl | exact WholeAt.of 3 rfl | exact WholeAt.of 4 rfl | exact WholeAt.of 5 rfl | exact WholeAt.of 6 rfl | exact WholeAt.of 7 rfl | exact WholeAt.of 8 rfl | exact WholeAt.of 9 rfl) (by rfl)) ?_
            refine XR.rd rfl rfl rfl (Reads.load_own k9 rfl (by first | exact OwnAt.of 0 rfl rfl | exact OwnAt.of 1 rfl rfl | exact OwnAt.of 2 rfl rfl | exact OwnAt.of 3 rfl rfl | exact OwnAt.of 4 rfl rfl | exact OwnAt.of 5 rfl rfl | exact OwnAt.of 6 rfl rfl | exact OwnAt.of 7 rfl rfl | exact OwnAt.of 8 rfl rfl | exact OwnAt.of 9 rfl rfl)) ?_
            refine XR.callp rfl rfl rfl en60 (seal_any _ _ _ (content (x.add (newH c l)) j) key _ (formed_ct hf hj3) (by omega) hG) ⟨rfl, rfl, trivial⟩ (List.Sublist.refl _) ?_
            refine XR.rd rfl rfl rfl (Reads.index_slot (q := j * 3) Tryd.underlying35 z53 rfl rfl (by have h9 := congrArg (fun z => match z with | Value.slice _ n _ => n | _ => 0) hv1; simp only at h9; rw [h9]; omega) (by obtain ⟨_, _, h9⟩ := ha1; rw [h9]; rfl) rfl) ?_
            refine XR.rd rfl rfl rfl (fs53_2 rfl ha1) ?_
            refine XR.store_vecs (V := V1) (e := 53) (k := j * 3 + 2) (v0 := .string zero32) 3 rfl rfl z9 rfl rfl rfl hV1 rfl (hlast hj44) rfl ?_
            intro V2 hV2 hval
            rw [handC_set (x.add (newH c l)).hs _ hj3, grown_set hj44 hj3] at hV2
            have hV3 : V2.Is 3 (handC (grown key x c l).hs) := by rw [hj44] at hV2; exact hV2
            rw [← hval]
            refine XR.nil ?_
            refine XQ.block_normal ?_
            refine XQ.perm (perm_take [1]) ?_
            refine XQ.dropn 1 ?_
            refine XQ.round_normal (L := some (D, .deferred (some [])) :: V2.ent 53 :: some (b11, .cells #[.int .i64 x.d.a, .int .i64 x.d.b, .int .i64 x.d.t, .int .i64 x.d.n, V2.val] 37 (0, 0)) :: some (b10, .cells (newH c l).cs.toArray 53 (0, 0)) :: some (b8, .cells #[.int .i64 0, .int .i64 0, .int .i64 0, .int .i64 0, .slice none 0 0] 37 (0, 0)) :: some (b5, .cells (x.cs a cap).toArray 37 (0, 0)) :: some (b4, .cells #[.string key] 9 (0, 0)) :: []) (Im.le_refl _) ?_
            exact ⟨fun _ => ⟨rfl, V2, hval.trans hv1, (by rw [if_neg (by omega)]; exact hV3), rfl⟩, (fun h => by cases h)⟩
          · skip
            simp only [cmpInt, beq_eq_false_iff_ne] at h3
            have hj44 : ¬ j = x.hs.length := by omega
            refine XC.skip ?_
            refine XQ.block_normal ?_
            refine XQ.perm (perm_take [1]) ?_
            refine XQ.dropn 1 ?_
            refine XQ.round_normal (L := some (D, .deferred (some [])) :: V1.ent 53 :: some (b11, .cells #[.int .i64 x.d.a, .int .i64 x.d.b, .int .i64 x.d.t, .int .i64 x.d.n, V1.val] 37 (0, 0)) :: some (b10, .cells (newH c l).cs.toArray 53 (0, 0)) :: some (b8, .cells #[.int .i64 0, .int .i64 0, .int .i64 0, .int .i64 0, .slice none 0 0] 37 (0, 0)) :: some (b5, .cells (x.cs a cap).toArray 37 (0, 0)) :: some (b4, .cells #[.string key] 9 (0, 0)) :: []) (Im.le_refl _) ?_
            exact ⟨fun _ => ⟨rfl, V1, hv1, (by rw [if_pos (by omega)]; rw [if_pos (by omega)] at hV1; exact hV1), rfl⟩, (fun h => by cases h)⟩
        · skip
          have hq : ∃ L1, L4 = some (bh, .cells ((x.add (newH c l)).cs (⟨blk, (x.add (newH c l)).hs.length, cp⟩ : Vec).addr cp).toArray 37 (0, 0)) :: L1 ∧ J (x.add (newH c l)).hs.length I4 L1 := hq.elim id (fun ⟨_, _, _, _, h⟩ => h.elim)
          obtain ⟨L5, rfl, hI4, V1, hv1, hV1, rfl⟩ := hq
          rw [if_neg (by omega)] at hV1
          rw [hI4]
          refine ⟨.ready, none, some (bh, .cells ((x.add (newH c l)).cs (⟨blk, (x.add (newH c l)).hs.length, cp⟩ : Vec).addr cp).toArray 37 (0, 0)) :: some (D, .deferred (some [])) :: V1.ent 53 :: some (b11, .cells #[.int .i64 x.d.a, .int .i64 x.d.b, .int .i64 x.d.t, .int .i64 x.d.n, V1.val] 37 (0, 0)) :: some (b10, .cells (newH c l).cs.toArray 53 (0, 0)) :: some (b8, .cells #[.int .i64 0, .int .i64 0, .int .i64 0, .int .i64 0, .slice none 0 0] 37 (0, 0)) :: some (b5, .cells (x.cs a cap).toArray 37 (0, 0)) :: some (b4, .cells #[.string key] 9 (0, 0)) :: [], perm_take [1], by simp, ?_⟩
          refine XQ.block_normal ?_
          refine XQ.then_normal ?_
          refine XC.seq ?_
          refine XC.region ?_
          refine XO.rd rfl rfl rfl (Reads.load_whole k37 z37 rfl (by first | exact WholeAt.of 0 rfl | exact WholeAt.of 1 rfl | exact WholeAt.of 2 rfl | exact WholeAt.of 3 rfl | exact WholeAt.of 4 rfl | exact WholeAt.of 5 rfl | exact WholeAt.of 6 rfl | exact WholeAt.of 7 rfl | exact WholeAt.of 8 rfl | exact WholeAt.of 9 rfl) (by rfl)) ?_
          refine XO.store_agg (vs := [.int .i64 x.d.a, .int .i64 x.d.b, .int .i64 x.d.t, .int .i64 x.d.n, V1.val]) 5 rfl z37 rfl rfl (by simp [Value.oneCell']) rfl (by simp) ?_
          refine XO.rd rfl rfl rfl (Reads.assign rfl) ?_
          refine XO.nil ?_
          refine XQ.then_normal ?_
          refine XC.ret ?_
          refine XQ.unmark 1 rfl ?_
          refine XQ.ofM ?_
          refine XQ.dropn 1 ?_
          refine XQ.give_vec (fun hb => ?_)
          refine XQ.done2ca [] 5 rfl k37 z37 rfl rfl (WholeAt.of 2 rfl) rfl rfl (Vec.le_give hb) ?_
          obtain ⟨a9, c9, h91, h92, h93⟩ := (Vec.sl (e := 53) (α := Hand) (by decide) hV1 (flat_hand _ _) hb).2.ex
          have hgr := grow_some (c := c) (l := l) hk1 hf
          exact ⟨rfl, _, _, rfl, (fun y hy => by rw [hgr] at hy; cases hy; exact ⟨rfl, a9, c9, congrArg (fun z => Value.agg #[.int .i64 x.d.a, .int .i64 x.d.b, .int .i64 x.d.t, .int .i64 x.d.n, z]) h91, h92, h93⟩), fun hy => by rw [hgr] at hy; cases hy⟩

end Go.Proofs.YtmlliafhpbfdbaaDoor
namespace Go.Proofs.YtmlliafhpbfdbaaDoor
open Go.Xe Go.Sh Go Go.At

theorem begin_any (key : ByteArray) (d : Dial) (c l : Int) (I : Im) (hks : key.size ≤ 1000000) (hG : Glob I) : FC Tryd.prog 38 [.string key, .agg d.cs.toArray, .int .i64 c, .int .i64 l] I (fun u I' => AOut I' u (beginA key d c l)) := by
  have hI := Im.le_refl I
  refine FSo.intro (n := 18) Tryd.func38 rfl rfl rfl (fun K Lf => ?_)
  refine XC.seq ?_
  refine XC.region ?_
  refine XO.box_agg rfl rfl rfl (fun b5 => ?_)
  refine XO.alloc (cs := #[.int .i64 0, .int .i64 0, .int .i64 0, .int .i64 0, .slice none 0 0]) rfl rfl zo37 rfl (fun b8 => ?_)
  refine XO.rd rfl rfl rfl (Reads.assign rfl) ?_
  refine XO.nil ?_
  refine XQ.then_normal ?_
  refine XC.seq ?_
  refine XC.region ?_
  refine XO.rd rfl rfl rfl (Reads.move rfl) ?_
  refine XO.rd rfl rfl rfl (Reads.load_whole k34 z34 rfl (by first | exact WholeAt.of 0 rfl | exact WholeAt.of 1 rfl | exact WholeAt.of 2 rfl | exact WholeAt.of 3 rfl | exact WholeAt.of 4 rfl | exact WholeAt.of 5 rfl) (by rfl)) ?_
  refine XO.rd rfl rfl rfl (bd37 (vs := [(0, .agg d.cs.toArray)]) ((⟨d, []⟩ : Att).cs none 0).toArray ⟨rfl, rfl, trivial⟩ rfl) ?_
  refine XO.rd rfl rfl rfl (Reads.move rfl) ?_
  refine XO.rd rfl rfl rfl (Reads.move rfl) ?_
  refine XO.call rfl rfl en68 (add_any key ⟨d, []⟩ none 0 c l _ Arr.nil (by simp) hks hG) ⟨rfl, rfl, rfl, rfl, trivial⟩ ?_
  rintro u J1 hle1 hr
  replace hI := Im.le_trans hI hle1
  obtain ⟨ao, co, rfl, hco, hAo, hno⟩ := hr.any4
  refine XO.rd rfl rfl rfl (Reads.extract rfl rfl) ?_
  refine XO.rd rfl rfl rfl (Reads.extract rfl rfl) ?_
  refine XO.store_agg (vs := ((grow key ⟨d, []⟩ c l).getD none0).cs ao co) 0 rfl z37 rfl rfl (by simp [Value.oneCell']) rfl (by simp) ?_
  refine XO.rd rfl rfl rfl (Reads.assign rfl) ?_
  refine XO.nil ?_
  refine XQ.then_normal ?_
  refine XC.ret ?_
  refine XQ.done2ca [] 2 rfl k37 z37 rfl rfl (WholeAt.of 0 rfl) rfl rfl hI ?_
  exact ⟨rfl, AOut.mk4 (o := grow key ⟨d, []⟩ c l) hco hAo hno⟩

theorem pass_any (key : ByteArray) (x : Att) (a ak : Option Addr) (cap ck : Nat) (keys : List ByteArray) (c : Int) (I : Im) (hA : Arr I a x.hs) (h63 : x.hs.length ≤ 9223372036854775807) (hK : Arr I ak keys) (hkl : keys.length ≤ 1000000) (hks0 : key.size ≤ 1000000) (hG : Glob I) : FC Tryd.prog 40 [.string key, .slice ak keys.length ck, .agg (x.cs a cap).toArray, .int .i64 c] I (fun u I' => AOut I' u (pass key keys x c)) := by
  have hI := Im.le_refl I
  refine FSo.introM (n := 36) Tryd.func40 rfl rfl rfl (fun K Lf => ?_)
  refine XC.seq ?_
  refine XC.region ?_
  refine XO.box1 rfl rfl rfl rfl (fun b5 => ?_)
  refine XO.box_agg rfl rfl rfl (fun b6 => ?_)
  refine XO.alloc (cs := #[.int .i64 0, .int .i64 0, .int .i64 0, .int .i64 0, .slice none 0 0]) rfl rfl zo37 rfl (fun b8 => ?_)
  refine XO.rd rfl rfl rfl (Reads.assign rfl) ?_
  refine XO.nil ?_
  refine XQ.then_normal ?_
  refine XC.seq ?_
  refine XC.seq ?_
  refine XC.region ?_
  refine XO.rd rfl rfl rfl (Reads.load_whole k37 z37 rfl (by first | exact WholeAt.of 0 rfl | exact WholeAt.of 1 rfl | exact WholeAt.of 2 rfl | exact WholeAt.of 3 rfl | exact WholeAt.of 4 rfl | exact WholeAt.of 5 rfl | exact WholeAt.of 6 rfl | exact WholeAt.of 7 rfl | exact WholeAt.of 8 rfl | exact WholeAt.of 9 rfl) (by rfl)) ?_
  refine XO.callp rfl rfl en20 (formed_any x a cap _ hA h63) ⟨rfl, trivial⟩ ?_
  refine XO.rd rfl rfl rfl (Reads.not rfl) ?_
  refine XO.rd rfl rfl rfl (Reads.move rfl) ?_
  refine XO.split (d := 16) rfl (fun h1 => ?_) (fun h1 => ?_)
  · skip
    simp only [Bool.not_eq_true'] at h1
    refine XO.s (wg rfl rfl rfl) rfl ?_
    refine XO.s (wg rfl rfl rfl) rfl ?_
    refine XO.s (wg rfl rfl rfl) rfl ?_
    refine XO.rd rfl rfl rfl (Reads.pick_true rfl rfl) ?_
    refine XO.nil ?_
    refine XQ.then_normal ?_
    refine XC.cond rfl (fun _ => ?_) (fun hx => by cases hx)
    refine XC.seq ?_
    refine XC.region ?_
    refine XO.rd rfl rfl rfl (bd37 (vs := []) (none0.cs none 0).toArray trivial rfl) ?_
    refine XO.store_agg (vs := none0.cs none 0) 0 rfl z37 rfl rfl (by simp [Att.cs, none0, Value.oneCell']) rfl (by simp [Att.cs]) ?_
    refine XO.rd rfl rfl rfl (Reads.assign rfl) ?_
    refine XO.nil ?_
    refine XQ.then_normal ?_
    refine XC.ret ?_
    refine XQ.then_ret ?_
    refine XQ.ofM ?_
    refine XQ.done2ca [] 3 rfl k37 z37 rfl rfl (WholeAt.of 0 rfl) rfl rfl (Im.le_refl _) ?_
    exact ⟨rfl, _, _, rfl, (fun y hy => by rw [pass_no1 (by assumption)] at hy; cases hy), fun _ => ⟨rfl, rfl⟩⟩
  · skip
    simp only [Bool.not_eq_false'] at h1
    have hf : x.formed = true := h1
    have hle8 := formed_len hf
    have hn9 : x.hs.length ≤ 9 := by omega
    have hsz := formed_sz hf
    have hin := formed_in hf
    have hdi := formed_d hf
    refine XO.rd (wg rfl rfl rfl) rfl rfl (Reads.load_own k29 rfl (by first | exact OwnAt.of 0 rfl rfl | exact OwnAt.of 1 rfl rfl | exact OwnAt.of 2 rfl rfl | exact OwnAt.of 3 rfl rfl | exact OwnAt.of 4 rfl rfl | exact OwnAt.of 5 rfl rfl | exact OwnAt.of 6 rfl rfl | exact OwnAt.of 7 rfl rfl | exact OwnAt.of 8 rfl rfl | exact OwnAt.of 9 rfl rfl)) ?_
    refine XO.callp (wg rfl rfl rfl) rfl en47 (isKnown_any ak ck keys _ hK hkl) ⟨rfl, trivial⟩ ?_
    refine XO.rd (wg rfl rfl rfl) rfl rfl (Reads.not rfl) ?_
    refine XO.rd rfl rfl rfl (Reads.pick_false rfl rfl) ?_
    refine XO.nil ?_
    refine XQ.then_normal ?_
    refine XC.cond rfl (fun h2 => ?_) (fun h2 => ?_)
    · skip
      simp only [Bool.not_eq_true'] at h2
      refine XC.seq ?_
      refine XC.region ?_
      refine XO.rd rfl rfl rfl (bd37 (vs := []) (none0.cs none 0).toArray trivial rfl) ?_
      refine XO.store_agg (vs := none0.cs none 0) 0 rfl z37 rfl rfl (by simp [Att.cs, none0, Value.oneCell']) rfl (by simp [Att.cs]) ?_
      refine XO.rd rfl rfl rfl (Reads.assign rfl) ?_
      refine XO.nil ?_
      refine XQ.then_normal ?_
      refine XC.ret ?_
      refine XQ.then_ret ?_
      refine XQ.ofM ?_
      refine XQ.done2ca [] 3 rfl k37 z37 rfl rfl (WholeAt.of 0 rfl) rfl rfl (Im.le_refl _) ?_
      exact ⟨rfl, _, _, rfl, (fun y hy => by rw [pass_no2 (by assumption)] at hy; cases hy), fun _ => ⟨rfl, rfl⟩⟩
    · skip
      simp only [Bool.not_eq_false'] at h2
      have hok : okKeys keys = true := h2
      have hk8 := (okKeys_iff.1 hok).1
      have hks := okKeys_sz hok
      refine XC.skip ?_
      refine XQ.then_normal ?_
      refine XC.seq ?_
      refine XC.region ?_
      refine XO.alloc (cs := #[.int .i64 0]) rfl rfl zo3 rfl (fun b10 => ?_)
      refine XO.store 0 rfl z3 rfl rfl rfl rfl (by simp) ?_
      refine XO.nil ?_
      refine XQ.then_normal ?_
      refine XC.seq ?_
      refine XC.seq ?_
      refine XC.region ?_
      refine XO.rd rfl rfl rfl (Reads.load_whole k37 z37 rfl (by first | exact WholeAt.of 0 rfl | exact WholeAt.of 1 rfl | exact WholeAt.of 2 rfl | exact WholeAt.of 3 rfl | exact WholeAt.of 4 rfl | exact WholeAt.of 5 rfl | exact WholeAt.of 6 rfl | exact WholeAt.of 7 rfl | exact WholeAt.of 8 rfl | exact WholeAt.of 9 rfl) (by rfl)) ?_
      refine XO.callo (vs := [_]) (L1 := []) rfl rfl rfl en49 ⟨rfl, trivial⟩ (hands_any x a cap I) (List.Perm.refl _) ?_
      rintro v' J' L' _ ⟨bh, rfl, hJ', rfl⟩
      replace hJ' := hJ'.symm
      subst hJ'
      refine XO.nil ?_
      refine XQ.then_normal ?_
      refine XC.block ?_
      refine XC.rangeFunc (f := 74) (fi := #[]) (ca := #[.pointer (some ⟨bh, 0, none⟩)]) (L1 := [some (bh, .cells (x.cs a cap).toArray 37 (0, 0)), some (b10, .cells #[.int .i64 (lastS keys x 0)] 3 (0, 0)), some (b8, .cells #[.int .i64 0, .int .i64 0, .int .i64 0, .int .i64 0, .slice none 0 0] 37 (0, 0)), some (b6, .cells (x.cs a cap).toArray 37 (0, 0)), some (b5, .cells #[.slice ak keys.length ck] 29 (0, 0))]) (Lf := Lf) rfl en74 (List.Perm.refl _) (fun l D rc hR => ?_)
      let J : Nat → Im → Own → Prop := fun j I' L => I' = I ∧ L = [some (l, lp rc .ready none), some (D, .deferred (some [])), some (b10, .cells #[.int .i64 (lastS keys x j)] 3 (0, 0)), some (b8, .cells #[.int .i64 0, .int .i64 0, .int .i64 0, .int .i64 0, .slice none 0 0] 37 (0, 0)), some (b6, .cells (x.cs a cap).toArray 37 (0, 0)), some (b5, .cells #[.slice ak keys.length ck] 29 (0, 0))]
      refine ⟨_, FSo.perm (perm_take [2]) (hands1_any l bh x a cap I [some (l, lp rc .ready none), some (D, .deferred (some [])), some (b10, .cells #[.int .i64 (lastS keys x 0)] 3 (0, 0)), some (b8, .cells #[.int .i64 0, .int .i64 0, .int .i64 0, .int .i64 0, .slice none 0 0] 37 (0, 0)), some (b6, .cells (x.cs a cap).toArray 37 (0, 0)), some (b5, .cells #[.slice ak keys.length ck] 29 (0, 0))] J (fun _ _ _ => False) hn9 hsz hin hdi ⟨rfl, rfl⟩ (fun h => hA.addr (by decide) h) (fun j I1 L1 hJ hj3 i v hi => .inl (by rw [hJ.1]; rw [x.h_get hj3] at hi; exact hA.hand hj3 i v hi)) (fun j I1 L1 hJ hj3 => ?_)), fun u I4 L4 hle4 hq => ?_⟩
      · skip
        obtain ⟨hI1, rfl⟩ := hJ
        rw [hI1]
        refine YS.intro hR rfl rfl (fun K Lf => ?_)
        refine XC.region ?_
        refine XO.alloc (cs := #[.int .i64 0, .int .i64 0, .string ⟨#[]⟩, .string ⟨#[]⟩]) rfl rfl zo84 rfl (fun b12 => ?_)
        refine XO.store_agg (vs := hand84 x j) 0 rfl z84 rfl rfl (by simp [Value.oneCell']) rfl (by simp) ?_
        refine XO.nil ?_
        refine XQ.perm (perm_take [1]) ?_
        refine XQ.begin ?_
        refine XC.block ?_
        refine XC.region ?_
        refine XO.rd rfl rfl rfl (Reads.load_own k29 rfl (by first | exact OwnAt.of 0 rfl rfl | exact OwnAt.of 1 rfl rfl | exact OwnAt.of 2 rfl rfl | exact OwnAt.of 3 rfl rfl | exact OwnAt.of 4 rfl rfl | exact OwnAt.of 5 rfl rfl | exact OwnAt.of 6 rfl rfl | exact OwnAt.of 7 rfl rfl | exact OwnAt.of 8 rfl rfl | exact OwnAt.of 9 rfl rfl)) ?_
        refine XO.rd rfl rfl rfl (Reads.load_whole k84 z84 rfl (by first | exact WholeAt.of 0 rfl | exact WholeAt.of 1 rfl | exact WholeAt.of 2 rfl | exact WholeAt.of 3 rfl | exact WholeAt.of 4 rfl | exact WholeAt.of 5 rfl | exact WholeAt.of 6 rfl | exact WholeAt.of 7 rfl | exact WholeAt.of 8 rfl | exact WholeAt.of 9 rfl) (by rfl)) ?_
        refine XO.callp rfl rfl en70 (says_any _ _ _ _ ak ck keys _ hK hk8 hks (formed_c hf hj3) (formed_ct hf hj3) hG) ⟨rfl, rfl, trivial⟩ ?_
        refine XO.store 3 rfl z3 rfl rfl rfl rfl (by simp) ?_
        refine XO.nil ?_
        refine XQ.block_normal ?_
        refine XQ.perm (perm_take [1]) ?_
        refine XQ.dropn 1 ?_
        refine XQ.round_normal (L := [some (D, .deferred (some [])), some (b10, .cells #[.int .i64 (lastS keys x (j + 1))] 3 (0, 0)), some (b8, .cells #[.int .i64 0, .int .i64 0, .int .i64 0, .int .i64 0, .slice none 0 0] 37 (0, 0)), some (b6, .cells (x.cs a cap).toArray 37 (0, 0)), some (b5, .cells #[.slice ak keys.length ck] 29 (0, 0))]) (Im.le_refl _) ?_
        exact ⟨fun _ => ⟨rfl, rfl⟩, (fun h => by cases h)⟩
      · skip
        have hq : ∃ L1, L4 = some (bh, .cells (x.cs a cap).toArray 37 (0, 0)) :: L1 ∧ J x.hs.length I4 L1 := hq.elim id (fun ⟨_, _, _, _, h⟩ => h.elim)
        obtain ⟨L5, rfl, hI4, rfl⟩ := hq
        rw [hI4]
        refine ⟨.ready, none, [some (bh, .cells (x.cs a cap).toArray 37 (0, 0)), some (D, .deferred (some [])), some (b10, .cells #[.int .i64 (lastS keys x x.hs.length)] 3 (0, 0)), some (b8, .cells #[.int .i64 0, .int .i64 0, .int .i64 0, .int .i64 0, .slice none 0 0] 37 (0, 0)), some (b6, .cells (x.cs a cap).toArray 37 (0, 0)), some (b5, .cells #[.slice ak keys.length ck] 29 (0, 0))], perm_take [1], by simp, ?_⟩
        refine XQ.block_normal ?_
        refine XQ.then_normal ?_
        refine XC.seq ?_
        refine XC.region ?_
        refine XO.rd rfl rfl rfl (Reads.move rfl) ?_
        refine XO.rd rfl rfl rfl (Reads.load_whole k37 z37 rfl (by first | exact WholeAt.of 0 rfl | exact WholeAt.of 1 rfl | exact WholeAt.of 2 rfl | exact WholeAt.of 3 rfl | exact WholeAt.of 4 rfl | exact WholeAt.of 5 rfl | exact WholeAt.of 6 rfl | exact WholeAt.of 7 rfl | exact WholeAt.of 8 rfl | exact WholeAt.of 9 rfl) (by rfl)) ?_
        refine XO.rd rfl rfl rfl (Reads.move rfl) ?_
        refine XO.rd rfl rfl rfl (Reads.load_own (v := .int .i64 (says keys x (x.hs.length - 1))) k3 rfl (by rw [lastS_end hle8.1]; exact OwnAt.of 2 rfl rfl)) ?_
        refine XO.call rfl rfl en68 (add_any key x a cap c (says keys x (x.hs.length - 1)) _ hA (by omega) hks0 hG) ⟨rfl, rfl, rfl, rfl, trivial⟩ ?_
        rintro u J2 hle2 hr
        replace hI := Im.le_trans hI hle2
        obtain ⟨ao, co, rfl, hco, hAo, hno⟩ := hr.any4
        refine XO.rd rfl rfl rfl (Reads.extract rfl rfl) ?_
        refine XO.rd rfl rfl rfl (Reads.extract rfl rfl) ?_
        refine XO.store_agg (vs := ((grow key x c (says keys x (x.hs.length - 1))).getD none0).cs ao co) 3 rfl z37 rfl rfl (by simp [Value.oneCell']) rfl (by simp) ?_
        refine XO.rd rfl rfl rfl (Reads.assign rfl) ?_
        refine XO.nil ?_
        refine XQ.then_normal ?_
        refine XC.ret ?_
        refine XQ.unmark 1 rfl ?_
        refine XQ.ofM ?_
        refine XQ.done2ca [] 5 rfl k37 z37 rfl rfl (WholeAt.of 2 rfl) rfl rfl hI ?_
        rw [pass_yes hf hok]
        exact ⟨rfl, AOut.mk4 (o := grow key x c (says keys x (x.hs.length - 1))) hco hAo hno⟩

end Go.Proofs.YtmlliafhpbfdbaaDoor
