/- Walks: the reference's further hand. -/
import Derived.Test.YtmlliafhpbfdbaaDoorMG
namespace Go.Proofs.YtmlliafhpbfdbaaDoor
open Go.Xe Go.Sh Go Go.At

set_option maxHeartbeats 8000000 in
theorem rwith_any (key : ByteArray) (x : Att) (a : Option Addr) (cap : Nat) (c l : Int) (I : Im) (hA : Arr I a x.hs) (hlen : x.hs.length ≤ 1000) : FC Tryd.prog 69 [.string key, .agg (x.cs a cap).toArray, .int .i64 c, .int .i64 l] I (fun u I' => AOut I' u (grow key x c l)) := by
  obtain ⟨ncs, hnf, hnw⟩ := News.arr (P := Tryd.prog) (tx := 35) (c := cap) Tryd.underlying35 (hA)
  have hne := flat_hand_eq hnf
  subst hne
  refine FSo.intro (n := 50) Tryd.func69 rfl rfl rfl (fun K Lf => ?_)
  refine XC.seq ?_
  refine XC.region ?_
  refine XO.box_agg rfl rfl rfl (fun b5 => ?_)
  refine XO.alloc (cs := #[.int .i64 0, .int .i64 0, .int .i64 0, .int .i64 0, .slice none 0 0]) rfl rfl zo37 rfl (fun b8 => ?_)
  refine XO.rd rfl rfl rfl (Reads.assign rfl) ?_
  refine XO.nil ?_
  refine XQ.then_normal ?_
  refine XC.seq ?_
  refine XC.join (ι := Vec × Nat) (fun q => [(0, .string key), (8, .pointer (some ⟨b8, 0, none⟩)), (10, .pointer (some ⟨q.2, 0, none⟩))]) (fun q => I) (fun q => q.1.ent 53 :: some (q.2, .cells #[.int .i64 x.d.a, .int .i64 x.d.b, .int .i64 x.d.t, .int .i64 x.d.n, q.1.val] 37 (0, 0)) :: some (b8, .cells #[.int .i64 0, .int .i64 0, .int .i64 0, .int .i64 0, .slice none 0 0] 37 (0, 0)) :: some (b5, .cells (x.cs a cap).toArray 37 (0, 0)) :: ([] ++ Lf)) (fun q => q.1.Is 3 (handC (x.add (newH c l)).hs)) ?_ (fun q hq => ?_)
  · skip
    refine XC.draw m_mixed (some 15) (.pure 0 (.pure 1 (.pure 3 (.pure 4 (.pure 6 (.pure 7 (.alt 2 (.alt 5 (.alt 8 (.alt 9 (.pure 10 (.alt 11 (.alt 12 (.pure 13 (.eff 14 (.eff 15 (.done)))) (.eff 14 (.eff 12 (.pure 13 (.eff 15 (.done)))))) (.eff 14 (.eff 11 (.eff 12 (.pure 13 (.eff 15 (.done)))))))) (.eff 14 (.eff 9 (.pure 10 (.eff 11 (.eff 12 (.pure 13 (.eff 15 (.done))))))))) (.eff 14 (.eff 8 (.eff 9 (.pure 10 (.eff 11 (.eff 12 (.pure 13 (.eff 15 (.done)))))))))) (.alt 8 (.alt 5 (.alt 9 (.pure 10 (.alt 11 (.alt 12 (.pure 13 (.eff 14 (.eff 15 (.done)))) (.eff 14 (.eff 12 (.pure 13 (.eff 15 (.done)))))) (.eff 14 (.eff 11 (.eff 12 (.pure 13 (.eff 15 (.done)))))))) (.eff 14 (.eff 9 (.pure 10 (.eff 11 (.eff 12 (.pure 13 (.eff 15 (.done))))))))) (.alt 9 (.pure 10 (.alt 5 (.alt 11 (.alt 12 (.pure 13 (.eff 14 (.eff 15 (.done)))) (.eff 14 (.eff 12 (.pure 13 (.eff 15 (.done)))))) (.eff 14 (.eff 11 (.eff 12 (.pure 13 (.eff 15 (.done))))))) (.alt 11 (.alt 5 (.alt 12 (.pure 13 (.eff 14 (.eff 15 (.done)))) (.eff 14 (.eff 12 (.pure 13 (.eff 15 (.done)))))) (.eff 14 (.eff 5 (.eff 12 (.pure 13 (.eff 15 (.done))))))) (.eff 14 (.alt 5 (.eff 11 (.eff 12 (.pure 13 (.eff 15 (.done))))) (.eff 11 (.eff 5 (.eff 12 (.pure 13 (.eff 15 (.done))))))))))) (.eff 14 (.alt 5 (.eff 9 (.pure 10 (.eff 11 (.eff 12 (.pure 13 (.eff 15 (.done))))))) (.eff 9 (.pure 10 (.alt 5 (.eff 11 (.eff 12 (.pure 13 (.eff 15 (.done))))) (.eff 11 (.eff 5 (.eff 12 (.pure 13 (.eff 15 (.done))))))))))))) (.eff 14 (.alt 5 (.eff 8 (.eff 9 (.pure 10 (.eff 11 (.eff 12 (.pure 13 (.eff 15 (.done)))))))) (.eff 8 (.alt 5 (.eff 9 (.pure 10 (.eff 11 (.eff 12 (.pure 13 (.eff 15 (.done))))))) (.eff 9 (.pure 10 (.alt 5 (.eff 11 (.eff 12 (.pure 13 (.eff 15 (.done))))) (.eff 11 (.eff 5 (.eff 12 (.pure 13 (.eff 15 (.done))))))))))))))) (.alt 8 (.alt 2 (.alt 5 (.alt 9 (.pure 10 (.alt 11 (.alt 12 (.pure 13 (.eff 14 (.eff 15 (.done)))) (.eff 14 (.eff 12 (.pure 13 (.eff 15 (.done)))))) (.eff 14 (.eff 11 (.eff 12 (.pure 13 (.eff 15 (.done)))))))) (.eff 14 (.eff 9 (.pure 10 (.eff 11 (.eff 12 (.pure 13 (.eff 15 (.done))))))))) (.alt 9 (.pure 10 (.alt 5 (.alt 11 (.alt 12 (.pure 13 (.eff 14 (.eff 15 (.done)))) (.eff 14 (.eff 12 (.pure 13 (.eff 15 (.done)))))) (.eff 14 (.eff 11 (.eff 12 (.pure 13 (.eff 15 (.done))))))) (.alt 11 (.alt 5 (.alt 12 (.pure 13 (.eff 14 (.eff 15 (.done)))) (.eff 14 (.eff 12 (.pure 13 (.eff 15 (.done)))))) (.eff 14 (.eff 5 (.eff 12 (.pure 13 (.eff 15 (.done))))))) (.eff 14 (.alt 5 (.eff 11 (.eff 12 (.pure 13 (.eff 15 (.done))))) (.eff 11 (.eff 5 (.eff 12 (.pure 13 (.eff 15 (.done))))))))))) (.eff 14 (.alt 5 (.eff 9 (.pure 10 (.eff 11 (.eff 12 (.pure 13 (.eff 15 (.done))))))) (.eff 9 (.pure 10 (.alt 5 (.eff 11 (.eff 12 (.pure 13 (.eff 15 (.done))))) (.eff 11 (.eff 5 (.eff 12 (.pure 13 (.eff 15 (.done))))))))))))) (.alt 9 (.pure 10 (.alt 2 (.alt 5 (.alt 11 (.alt 12 (.pure 13 (.eff 14 (.eff 15 (.done)))) (.eff 14 (.eff 12 (.pure 13 (.eff 15 (.done)))))) (.eff 14 (.eff 11 (.eff 12 (.pure 13 (.eff 15 (.done))))))) (.alt 11 (.alt 5 (.alt 12 (.pure 13 (.eff 14 (.eff 15 (.done)))) (.eff 14 (.eff 12 (.pure 13 (.eff 15 (.done)))))) (.eff 14 (.eff 5 (.eff 12 (.pure 13 (.eff 15 (.done))))))) (.eff 14 (.alt 5 (.eff 11 (.eff 12 (.pure 13 (.eff 15 (.done))))) (.eff 11 (.eff 5 (.eff 12 (.pure 13 (.eff 15 (.done)))))))))) (.alt 11 (.alt 2 (.alt 5 (.alt 12 (.pure 13 (.eff 14 (.eff 15 (.done)))) (.eff 14 (.eff 12 (.pure 13 (.eff 15 (.done)))))) (.eff 14 (.eff 5 (.eff 12 (.pure 13 (.eff 15 (.done))))))) (.eff 14 (.eff 2 (.eff 5 (.eff 12 (.pure 13 (.eff 15 (.done)))))))) (.eff 14 (.alt 2 (.alt 5 (.eff 11 (.eff 12 (.pure 13 (.eff 15 (.done))))) (.eff 11 (.eff 5 (.eff 12 (.pure 13 (.eff 15 (.done))))))) (.eff 11 (.eff 2 (.eff 5 (.eff 12 (.pure 13 (.eff 15 (.done)))))))))))) (.eff 14 (.alt 2 (.alt 5 (.eff 9 (.pure 10 (.eff 11 (.eff 12 (.pure 13 (.eff 15 (.done))))))) (.eff 9 (.pure 10 (.alt 5 (.eff 11 (.eff 12 (.pure 13 (.eff 15 (.done))))) (.eff 11 (.eff 5 (.eff 12 (.pure 13 (.eff 15 (.done)))))))))) (.eff 9 (.pure 10 (.alt 2 (.alt 5 (.eff 11 (.eff 12 (.pure 13 (.eff 15 (.done))))) (.eff 11 (.eff 5 (.eff 12 (.pure 13 (.eff 15 (.done))))))) (.eff 11 (.eff 2 (.eff 5 (.eff 12 (.pure 13 (.eff 15 (.done)))))))))))))) (.eff 14 (.alt 2 (.alt 5 (.eff 8 (.eff 9 (.pure 10 (.eff 11 (.eff 12 (.pure 13 (.eff 15 (.done)))))))) (.eff 8 (.alt 5 (.eff 9 (.pure 10 (.eff 11 (.eff 12 (.pure 13 (.eff 15 (.done))))))) (.eff 9 (.pure 10 (.alt 5 (.eff 11 (.eff 12 (.pure 13 (.eff 15 (.done))))) (.eff 11 (.eff 5 (.eff 12 (.pure 13 (.eff 15 (.done)))))))))))) (.eff 8 (.alt 2 (.alt 5 (.eff 9 (.pure 10 (.eff 11 (.eff 12 (.pure 13 (.eff 15 (.done))))))) (.eff 9 (.pure 10 (.alt 5 (.eff 11 (.eff 12 (.pure 13 (.eff 15 (.done))))) (.eff 11 (.eff 5 (.eff 12 (.pure 13 (.eff 15 (.done)))))))))) (.eff 9 (.pure 10 (.alt 2 (.alt 5 (.eff 11 (.eff 12 (.pure 13 (.eff 15 (.done))))) (.eff 11 (.eff 5 (.eff 12 (.pure 13 (.eff 15 (.done))))))) (.eff 11 (.eff 2 (.eff 5 (.eff 12 (.pure 13 (.eff 15 (.done)))))))))))))))))))))) _ (by kernel_rfl) (List.Sublist.refl _) ?_
    refine XR.rd rfl rfl rfl (fa37_0 rfl) ?_
    refine XR.rd rfl rfl rfl (Reads.load_agg_own (vs := x.d.cs) k34 z34 rfl (fun j v hj => OwnAt.of 1 rfl (by rw [Nat.zero_add]; exact dial_at x a cap hj))) ?_
    refine XR.rd rfl rfl rfl (fa37_1 rfl) ?_
    refine XR.rd rfl rfl rfl (Reads.load_own k35 rfl (by first | exact OwnAt.of 0 rfl rfl | exact OwnAt.of 1 rfl rfl | exact OwnAt.of 2 rfl rfl | exact OwnAt.of 3 rfl rfl | exact OwnAt.of 4 rfl rfl | exact OwnAt.of 5 rfl rfl | exact OwnAt.of 6 rfl rfl | exact OwnAt.of 7 rfl rfl | exact OwnAt.of 8 rfl rfl | exact OwnAt.of 9 rfl rfl)) ?_
    refine XR.rd rfl rfl rfl (Reads.move rfl) ?_
    refine XR.rd rfl rfl rfl (Reads.move rfl) ?_
    refine XR.alt ?_ ?_
    · skip
      refine XR.buildL [] [] rfl rfl rfl Tryd.underlying35 el53 rfl (by simp) trivial rfl rfl (List.Sublist.refl _) (fun b14 => ?_)
      refine XR.alt ?_ ?_
      · skip
        refine XR.append (V := ⟨some (b14, #[]), 0, 0⟩) 0 rfl rfl rfl Tryd.underlying35 el53 rfl rfl (vec_zero b14 3) rfl (hnw _) (by simp only; omega) (by simp only; omega) ?_
        intro V1 hV1 hVl1
        simp only [Nat.zero_add] at hVl1
        refine ⟨.inr (List.Sublist.cons _ (List.Sublist.refl _)), ?_⟩
        refine XR.alt ?_ ?_
        · skip
          refine XR.makeSlice (m := 32) rfl rfl rfl Tryd.underlying98 el5 rfl rfl rfl (by decide) (by decide) (List.Sublist.cons _ (List.Sublist.refl _)) (fun b20 => ?_)
          refine XR.alt ?_ ?_
          · skip
            refine XR.rde rfl rfl rfl rfl (Reads.to_string (bs := List.replicate 32 0) Tryd.underlying98 Tryd.underlying5 Tryd.underlying9 rfl rfl (readable_row 0 rfl rfl)) (List.Sublist.cons _ (List.Sublist.cons _ (List.Sublist.refl _))) ?_
            refine XR.rd rfl rfl rfl (bd53v c l zero32 ⟨rfl, rfl, rfl, rfl, rfl, rfl, trivial⟩) ?_
            refine XR.alt ?_ ?_
            · skip
              refine XR.buildL [.agg (newH c l).cs.toArray] (newH c l).cs rfl rfl rfl Tryd.underlying35 el53 rfl (by simp) ⟨rfl, rfl, trivial⟩ rfl rfl (List.Sublist.cons _ (List.Sublist.cons _ (List.Sublist.refl _))) (fun bu => ?_)
              refine XR.alt ?_ ?_
              · skip
                refine XR.append (V := V1) (news := (newH c l).cs) 2 rfl rfl rfl Tryd.underlying35 el53 rfl rfl hV1 rfl (.slice Tryd.underlying35 (.inr (.inr ⟨bu, 0, rfl, fun j v hj => ⟨(newH c l).cs.toArray, 53, (0, 0), by simp, by simpa using hj⟩⟩)) rfl (by simp [Value.oneCell'])) (by omega) (by omega) ?_
                intro V2 hV2 _
                refine ⟨.inr (List.Sublist.cons _ (List.Sublist.cons _ (List.Sublist.cons _ (List.Sublist.refl _)))), ?_⟩
                refine XR.rd rfl rfl rfl (bd37v x.d V2.val ⟨_, _, _, rfl⟩ ⟨rfl, rfl, rfl, rfl, trivial⟩) ?_
                refine XR.alloc (cs := #[.int .i64 0, .int .i64 0, .int .i64 0, .int .i64 0, .slice none 0 0]) rfl rfl rfl zo37 rfl (List.Sublist.cons _ (List.Sublist.cons _ (List.Sublist.cons _ (List.Sublist.refl _)))) (fun b10 => ?_)
                refine XR.store_agg (vs := [.int .i64 x.d.a, .int .i64 x.d.b, .int .i64 x.d.t, .int .i64 x.d.n, V2.val]) 0 rfl rfl z37 rfl rfl (by simp [Value.oneCell']) rfl (by simp) (.inl rfl) ?_
                refine XR.nil ?_
                refine XQ.perm (perm_take [3, 0]) ?_
                refine XQ.drop (List.Sublist.cons_cons _ (List.Sublist.cons_cons _ (List.Sublist.cons _ (List.Sublist.cons _ (List.Sublist.refl _))))) ?_
                refine XQ.joined (V2, b10) (by rw [handC_add]; simpa using hV2) ⟨rfl, rfl, rfl, trivial⟩ rfl (List.Perm.refl _)
              · skip
                refine XR.alloc (cs := #[.int .i64 0, .int .i64 0, .int .i64 0, .int .i64 0, .slice none 0 0]) rfl rfl rfl zo37 rfl (List.Sublist.cons _ (List.Sublist.cons _ (List.Sublist.cons _ (List.Sublist.refl _)))) (fun b10 => ?_)
                refine XR.append (V := V1) (news := (newH c l).cs) 3 rfl rfl rfl Tryd.underlying35 el53 rfl rfl hV1 rfl (.slice Tryd.underlying35 (.inr (.inr ⟨bu, 0, rfl, fun j v hj => ⟨(newH c l).cs.toArray, 53, (0, 0), by simp, by simpa using hj⟩⟩)) rfl (by simp [Value.oneCell'])) (by omega) (by omega) ?_
                intro V2 hV2 _
                refine ⟨.inr (List.Sublist.cons _ (List.Sublist.cons _ (List.Sublist.cons _ (List.Sublist.cons _ (List.Sublist.refl _))))), ?_⟩
                refine XR.rd rfl rfl rfl (bd37v x.d V2.val ⟨_, _, _, rfl⟩ ⟨rfl, rfl, rfl, rfl, trivial⟩) ?_
                refine XR.store_agg (vs := [.int .i64 x.d.a, .int .i64 x.d.b, .int .i64 x.d.t, .int .i64 x.d.n, V2.val]) 0 rfl rfl z37 rfl rfl (by simp [Value.oneCell']) rfl (by simp) (.inl rfl) ?_
                refine XR.nil ?_
                refine XQ.perm (perm_take [3, 0]) ?_
                refine XQ.drop (List.Sublist.cons_cons _ (List.Sublist.cons_cons _ (List.Sublist.cons _ (List.Sublist.cons _ (List.Sublist.refl _))))) ?_
                refine XQ.joined (V2, b10) (by rw [handC_add]; simpa using hV2) ⟨rfl, rfl, rfl, trivial⟩ rfl (List.Perm.refl _)
            · skip
              refine XR.alloc (cs := #[.int .i64 0, .int .i64 0, .int .i64 0, .int .i64 0, .slice none 0 0]) rfl rfl rfl zo37 rfl (List.Sublist.cons _ (List.Sublist.cons _ (List.Sublist.refl _))) (fun b10 => ?_)
              refine XR.buildL [.agg (newH c l).cs.toArray] (newH c l).cs rfl rfl rfl Tryd.underlying35 el53 rfl (by simp) ⟨rfl, rfl, trivial⟩ rfl rfl (List.Sublist.cons _ (List.Sublist.cons _ (List.Sublist.cons _ (List.Sublist.refl _)))) (fun bu => ?_)
              refine XR.append (V := V1) (news := (newH c l).cs) 3 rfl rfl rfl Tryd.underlying35 el53 rfl rfl hV1 rfl (.slice Tryd.underlying35 (.inr (.inr ⟨bu, 0, rfl, fun j v hj => ⟨(newH c l).cs.toArray, 53, (0, 0), by simp, by simpa using hj⟩⟩)) rfl (by simp [Value.oneCell'])) (by omega) (by omega) ?_
              intro V2 hV2 _
              refine ⟨.inr (List.Sublist.cons _ (List.Sublist.cons _ (List.Sublist.cons _ (List.Sublist.cons _ (List.Sublist.refl _))))), ?_⟩
              refine XR.rd rfl rfl rfl (bd37v x.d V2.val ⟨_, _, _, rfl⟩ ⟨rfl, rfl, rfl, rfl, trivial⟩) ?_
              refine XR.store_agg (vs := [.int .i64 x.d.a, .int .i64 x.d.b, .int .i64 x.d.t, .int .i64 x.d.n, V2.val]) 1 rfl rfl z37 rfl rfl (by simp [Value.oneCell']) rfl (by simp) (.inl rfl) ?_
              refine XR.nil ?_
              refine XQ.perm (perm_take [3, 1]) ?_
              refine XQ.drop (List.Sublist.cons_cons _ (List.Sublist.cons_cons _ (List.Sublist.cons _ (List.Sublist.cons _ (List.Sublist.refl _))))) ?_
              refine XQ.joined (V2, b10) (by rw [handC_add]; simpa using hV2) ⟨rfl, rfl, rfl, trivial⟩ rfl (List.Perm.refl _)
          · skip
            refine XR.alloc (cs := #[.int .i64 0, .int .i64 0, .int .i64 0, .int .i64 0, .slice none 0 0]) rfl rfl rfl zo37 rfl (List.Sublist.cons _ (List.Sublist.cons _ (List.Sublist.refl _))) (fun b10 => ?_)
            refine XR.rde rfl rfl rfl rfl (Reads.to_string (bs := List.replicate 32 0) Tryd.underlying98 Tryd.underlying5 Tryd.underlying9 rfl rfl (readable_row 1 rfl rfl)) (List.Sublist.cons _ (List.Sublist.cons _ (List.Sublist.cons _ (List.Sublist.refl _)))) ?_
            refine XR.rd rfl rfl rfl (bd53v c l zero32 ⟨rfl, rfl, rfl, rfl, rfl, rfl, trivial⟩) ?_
            refine XR.buildL [.agg (newH c l).cs.toArray] (newH c l).cs rfl rfl rfl Tryd.underlying35 el53 rfl (by simp) ⟨rfl, rfl, trivial⟩ rfl rfl (List.Sublist.cons _ (List.Sublist.cons _ (List.Sublist.cons _ (List.Sublist.refl _)))) (fun bu => ?_)
            refine XR.append (V := V1) (news := (newH c l).cs) 3 rfl rfl rfl Tryd.underlying35 el53 rfl rfl hV1 rfl (.slice Tryd.underlying35 (.inr (.inr ⟨bu, 0, rfl, fun j v hj => ⟨(newH c l).cs.toArray, 53, (0, 0), by simp, by simpa using hj⟩⟩)) rfl (by simp [Value.oneCell'])) (by omega) (by omega) ?_
            intro V2 hV2 _
            refine ⟨.inr (List.Sublist.cons _ (List.Sublist.cons _ (List.Sublist.cons _ (List.Sublist.cons _ (List.Sublist.refl _))))), ?_⟩
            refine XR.rd rfl rfl rfl (bd37v x.d V2.val ⟨_, _, _, rfl⟩ ⟨rfl, rfl, rfl, rfl, trivial⟩) ?_
            refine XR.store_agg (vs := [.int .i64 x.d.a, .int .i64 x.d.b, .int .i64 x.d.t, .int .i64 x.d.n, V2.val]) 1 rfl rfl z37 rfl rfl (by simp [Value.oneCell']) rfl (by simp) (.inl rfl) ?_
            refine XR.nil ?_
            refine XQ.perm (perm_take [3, 1]) ?_
            refine XQ.drop (List.Sublist.cons_cons _ (List.Sublist.cons_cons _ (List.Sublist.cons _ (List.Sublist.cons _ (List.Sublist.refl _))))) ?_
            refine XQ.joined (V2, b10) (by rw [handC_add]; simpa using hV2) ⟨rfl, rfl, rfl, trivial⟩ rfl (List.Perm.refl _)
        · skip
          refine XR.alloc (cs := #[.int .i64 0, .int .i64 0, .int .i64 0, .int .i64 0, .slice none 0 0]) rfl rfl rfl zo37 rfl (List.Sublist.cons _ (List.Sublist.refl _)) (fun b10 => ?_)
          refine XR.makeSlice (m := 32) rfl rfl rfl Tryd.underlying98 el5 rfl rfl rfl (by decide) (by decide) (List.Sublist.cons _ (List.Sublist.cons _ (List.Sublist.refl _))) (fun b20 => ?_)
          refine XR.rde rfl rfl rfl rfl (Reads.to_string (bs := List.replicate 32 0) Tryd.underlying98 Tryd.underlying5 Tryd.underlying9 rfl rfl (readable_row 0 rfl rfl)) (List.Sublist.cons _ (List.Sublist.cons _ (List.Sublist.cons _ (List.Sublist.refl _)))) ?_
          refine XR.rd rfl rfl rfl (bd53v c l zero32 ⟨rfl, rfl, rfl, rfl, rfl, rfl, trivial⟩) ?_
          refine XR.buildL [.agg (newH c l).cs.toArray] (newH c l).cs rfl rfl rfl Tryd.underlying35 el53 rfl (by simp) ⟨rfl, rfl, trivial⟩ rfl rfl (List.Sublist.cons _ (List.Sublist.cons _ (List.Sublist.cons _ (List.Sublist.refl _)))) (fun bu => ?_)
          refine XR.append (V := V1) (news := (newH c l).cs) 3 rfl rfl rfl Tryd.underlying35 el53 rfl rfl hV1 rfl (.slice Tryd.underlying35 (.inr (.inr ⟨bu, 0, rfl, fun j v hj => ⟨(newH c l).cs.toArray, 53, (0, 0), by simp, by simpa using hj⟩⟩)) rfl (by simp [Value.oneCell'])) (by omega) (by omega) ?_
          intro V2 hV2 _
          refine ⟨.inr (List.Sublist.cons _ (List.Sublist.cons _ (List.Sublist.cons _ (List.Sublist.cons _ (List.Sublist.refl _))))), ?_⟩
          refine XR.rd rfl rfl rfl (bd37v x.d V2.val ⟨_, _, _, rfl⟩ ⟨rfl, rfl, rfl, rfl, trivial⟩) ?_
          refine XR.store_agg (vs := [.int .i64 x.d.a, .int .i64 x.d.b, .int .i64 x.d.t, .int .i64 x.d.n, V2.val]) 2 rfl rfl z37 rfl rfl (by simp [Value.oneCell']) rfl (by simp) (.inl rfl) ?_
          refine XR.nil ?_
          refine XQ.perm (perm_take [3, 2]) ?_
          refine XQ.drop (List.Sublist.cons_cons _ (List.Sublist.cons_cons _ (List.Sublist.cons _ (List.Sublist.cons _ (List.Sublist.refl _))))) ?_
          refine XQ.joined (V2, b10) (by rw [handC_add]; simpa using hV2) ⟨rfl, rfl, rfl, trivial⟩ rfl (List.Perm.refl _)
      refine XR.alt ?_ ?_
      · skip
        refine XR.makeSlice (m := 32) rfl rfl rfl Tryd.underlying98 el5 rfl rfl rfl (by decide) (by decide) (List.Sublist.cons _ (List.Sublist.refl _)) (fun b20 => ?_)
        refine XR.alt ?_ ?_
        · skip
          refine XR.append (V := ⟨some (b14, #[]), 0, 0⟩) 1 rfl rfl rfl Tryd.underlying35 el53 rfl rfl (vec_zero b14 3) rfl (hnw _) (by simp only; omega) (by simp only; omega) ?_
          intro V1 hV1 hVl1
          simp only [Nat.zero_add] at hVl1
          refine ⟨.inr (List.Sublist.cons _ (List.Sublist.cons _ (List.Sublist.refl _))), ?_⟩
          refine XR.alt ?_ ?_
          · skip
            refine XR.rde rfl rfl rfl rfl (Reads.to_string (bs := List.replicate 32 0) Tryd.underlying98 Tryd.underlying5 Tryd.underlying9 rfl rfl (readable_row 0 rfl rfl)) (List.Sublist.cons _ (List.Sublist.cons _ (List.Sublist.refl _))) ?_
            refine XR.rd rfl rfl rfl (bd53v c l zero32 ⟨rfl, rfl, rfl, rfl, rfl, rfl, trivial⟩) ?_
            refine XR.alt ?_ ?_
            · skip
              refine XR.buildL [.agg (newH c l).cs.toArray] (newH c l).cs rfl rfl rfl Tryd.underlying35 el53 rfl (by simp) ⟨rfl, rfl, trivial⟩ rfl rfl (List.Sublist.cons _ (List.Sublist.cons _ (List.Sublist.refl _))) (fun bu => ?_)
              refine XR.alt ?_ ?_
              · skip
                refine XR.append (V := V1) (news := (newH c l).cs) 2 rfl rfl rfl Tryd.underlying35 el53 rfl rfl hV1 rfl (.slice Tryd.underlying35 (.inr (.inr ⟨bu, 0, rfl, fun j v hj => ⟨(newH c l).cs.toArray, 53, (0, 0), by simp, by simpa using hj⟩⟩)) rfl (by simp [Value.oneCell'])) (by omega) (by omega) ?_
                intro V2 hV2 _
                refine ⟨.inr (List.Sublist.cons _ (List.Sublist.cons _ (List.Sublist.cons _ (List.Sublist.refl _)))), ?_⟩
                refine XR.rd rfl rfl rfl (bd37v x.d V2.val ⟨_, _, _, rfl⟩ ⟨rfl, rfl, rfl, rfl, trivial⟩) ?_
                refine XR.alloc (cs := #[.int .i64 0, .int .i64 0, .int .i64 0, .int .i64 0, .slice none 0 0]) rfl rfl rfl zo37 rfl (List.Sublist.cons _ (List.Sublist.cons _ (List.Sublist.cons _ (List.Sublist.refl _)))) (fun b10 => ?_)
                refine XR.store_agg (vs := [.int .i64 x.d.a, .int .i64 x.d.b, .int .i64 x.d.t, .int .i64 x.d.n, V2.val]) 0 rfl rfl z37 rfl rfl (by simp [Value.oneCell']) rfl (by simp) (.inl rfl) ?_
                refine XR.nil ?_
                refine XQ.perm (perm_take [3, 0]) ?_
                refine XQ.drop (List.Sublist.cons_cons _ (List.Sublist.cons_cons _ (List.Sublist.cons _ (List.Sublist.cons _ (List.Sublist.refl _))))) ?_
                refine XQ.joined (V2, b10) (by rw [handC_add]; simpa using hV2) ⟨rfl, rfl, rfl, trivial⟩ rfl (List.Perm.refl _)
              · skip
                refine XR.alloc (cs := #[.int .i64 0, .int .i64 0, .int .i64 0, .int .i64 0, .slice none 0 0]) rfl rfl rfl zo37 rfl (List.Sublist.cons _ (List.Sublist.cons _ (List.Sublist.cons _ (List.Sublist.refl _)))) (fun b10 => ?_)
                refine XR.append (V := V1) (news := (newH c l).cs) 3 rfl rfl rfl Tryd.underlying35 el53 rfl rfl hV1 rfl (.slice Tryd.underlying35 (.inr (.inr ⟨bu, 0, rfl, fun j v hj => ⟨(newH c l).cs.toArray, 53, (0, 0), by simp, by simpa using hj⟩⟩)) rfl (by simp [Value.oneCell'])) (by omega) (by omega) ?_
                intro V2 hV2 _
                refine ⟨.inr (List.Sublist.cons _ (List.Sublist.cons _ (List.Sublist.cons _ (List.Sublist.cons _ (List.Sublist.refl _))))), ?_⟩
                refine XR.rd rfl rfl rfl (bd37v x.d V2.val ⟨_, _, _, rfl⟩ ⟨rfl, rfl, rfl, rfl, trivial⟩) ?_
                refine XR.store_agg (vs := [.int .i64 x.d.a, .int .i64 x.d.b, .int .i64 x.d.t, .int .i64 x.d.n, V2.val]) 0 rfl rfl z37 rfl rfl (by simp [Value.oneCell']) rfl (by simp) (.inl rfl) ?_
                refine XR.nil ?_
                refine XQ.perm (perm_take [3, 0]) ?_
                refine XQ.drop (List.Sublist.cons_cons _ (List.Sublist.cons_cons _ (List.Sublist.cons _ (List.Sublist.cons _ (List.Sublist.refl _))))) ?_
                refine XQ.joined (V2, b10) (by rw [handC_add]; simpa using hV2) ⟨rfl, rfl, rfl, trivial⟩ rfl (List.Perm.refl _)
            · skip
              refine XR.alloc (cs := #[.int .i64 0, .int .i64 0, .int .i64 0, .int .i64 0, .slice none 0 0]) rfl rfl rfl zo37 rfl (List.Sublist.cons _ (List.Sublist.cons _ (List.Sublist.refl _))) (fun b10 => ?_)
              refine XR.buildL [.agg (newH c l).cs.toArray] (newH c l).cs rfl rfl rfl Tryd.underlying35 el53 rfl (by simp) ⟨rfl, rfl, trivial⟩ rfl rfl (List.Sublist.cons _ (List.Sublist.cons _ (List.Sublist.cons _ (List.Sublist.refl _)))) (fun bu => ?_)
              refine XR.append (V := V1) (news := (newH c l).cs) 3 rfl rfl rfl Tryd.underlying35 el53 rfl rfl hV1 rfl (.slice Tryd.underlying35 (.inr (.inr ⟨bu, 0, rfl, fun j v hj => ⟨(newH c l).cs.toArray, 53, (0, 0), by simp, by simpa using hj⟩⟩)) rfl (by simp [Value.oneCell'])) (by omega) (by omega) ?_
              intro V2 hV2 _
              refine ⟨.inr (List.Sublist.cons _ (List.Sublist.cons _ (List.Sublist.cons _ (List.Sublist.cons _ (List.Sublist.refl _))))), ?_⟩
              refine XR.rd rfl rfl rfl (bd37v x.d V2.val ⟨_, _, _, rfl⟩ ⟨rfl, rfl, rfl, rfl, trivial⟩) ?_
              refine XR.store_agg (vs := [.int .i64 x.d.a, .int .i64 x.d.b, .int .i64 x.d.t, .int .i64 x.d.n, V2.val]) 1 rfl rfl z37 rfl rfl (by simp [Value.oneCell']) rfl (by simp) (.inl rfl) ?_
              refine XR.nil ?_
              refine XQ.perm (perm_take [3, 1]) ?_
              refine XQ.drop (List.Sublist.cons_cons _ (List.Sublist.cons_cons _ (List.Sublist.cons _ (List.Sublist.cons _ (List.Sublist.refl _))))) ?_
              refine XQ.joined (V2, b10) (by rw [handC_add]; simpa using hV2) ⟨rfl, rfl, rfl, trivial⟩ rfl (List.Perm.refl _)
          · skip
            refine XR.alloc (cs := #[.int .i64 0, .int .i64 0, .int .i64 0, .int .i64 0, .slice none 0 0]) rfl rfl rfl zo37 rfl (List.Sublist.cons _ (List.Sublist.cons _ (List.Sublist.refl _))) (fun b10 => ?_)
            refine XR.rde rfl rfl rfl rfl (Reads.to_string (bs := List.replicate 32 0) Tryd.underlying98 Tryd.underlying5 Tryd.underlying9 rfl rfl (readable_row 1 rfl rfl)) (List.Sublist.cons _ (List.Sublist.cons _ (List.Sublist.cons _ (List.Sublist.refl _)))) ?_
            refine XR.rd rfl rfl rfl (bd53v c l zero32 ⟨rfl, rfl, rfl, rfl, rfl, rfl, trivial⟩) ?_
            refine XR.buildL [.agg (newH c l).cs.toArray] (newH c l).cs rfl rfl rfl Tryd.underlying35 el53 rfl (by simp) ⟨rfl, rfl, trivial⟩ rfl rfl (List.Sublist.cons _ (List.Sublist.cons _ (List.Sublist.cons _ (List.Sublist.refl _)))) (fun bu => ?_)
            refine XR.append (V := V1) (news := (newH c l).cs) 3 rfl rfl rfl Tryd.underlying35 el53 rfl rfl hV1 rfl (.slice Tryd.underlying35 (.inr (.inr ⟨bu, 0, rfl, fun j v hj => ⟨(newH c l).cs.toArray, 53, (0, 0), by simp, by simpa using hj⟩⟩)) rfl (by simp [Value.oneCell'])) (by omega) (by omega) ?_
            intro V2 hV2 _
            refine ⟨.inr (List.Sublist.cons _ (List.Sublist.cons _ (List.Sublist.cons _ (List.Sublist.cons _ (List.Sublist.refl _))))), ?_⟩
            refine XR.rd rfl rfl rfl (bd37v x.d V2.val ⟨_, _, _, rfl⟩ ⟨rfl, rfl, rfl, rfl, trivial⟩) ?_
            refine XR.store_agg (vs := [.int .i64 x.d.a, .int .i64 x.d.b, .int .i64 x.d.t, .int .i64 x.d.n, V2.val]) 1 rfl rfl z37 rfl rfl (by simp [Value.oneCell']) rfl (by simp) (.inl rfl) ?_
            refine XR.nil ?_
            refine XQ.perm (perm_take [3, 1]) ?_
            refine XQ.drop (List.Sublist.cons_cons _ (List.Sublist.cons_cons _ (List.Sublist.cons _ (List.Sublist.cons _ (List.Sublist.refl _))))) ?_
            refine XQ.joined (V2, b10) (by rw [handC_add]; simpa using hV2) ⟨rfl, rfl, rfl, trivial⟩ rfl (List.Perm.refl _)
        refine XR.alt ?_ ?_
        · skip
          refine XR.rde rfl rfl rfl rfl (Reads.to_string (bs := List.replicate 32 0) Tryd.underlying98 Tryd.underlying5 Tryd.underlying9 rfl rfl (readable_row 0 rfl rfl)) (List.Sublist.cons _ (List.Sublist.cons _ (List.Sublist.refl _))) ?_
          refine XR.rd rfl rfl rfl (bd53v c l zero32 ⟨rfl, rfl, rfl, rfl, rfl, rfl, trivial⟩) ?_
          refine XR.alt ?_ ?_
          · skip
            refine XR.append (V := ⟨some (b14, #[]), 0, 0⟩) 1 rfl rfl rfl Tryd.underlying35 el53 rfl rfl (vec_zero b14 3) rfl (hnw _) (by simp only; omega) (by simp only; omega) ?_
            intro V1 hV1 hVl1
            simp only [Nat.zero_add] at hVl1
            refine ⟨.inr (List.Sublist.cons _ (List.Sublist.cons _ (List.Sublist.refl _))), ?_⟩
            refine XR.alt ?_ ?_
            · skip
              refine XR.buildL [.agg (newH c l).cs.toArray] (newH c l).cs rfl rfl rfl Tryd.underlying35 el53 rfl (by simp) ⟨rfl, rfl, trivial⟩ rfl rfl (List.Sublist.cons _ (List.Sublist.cons _ (List.Sublist.refl _))) (fun bu => ?_)
              refine XR.alt ?_ ?_
              · skip
                refine XR.append (V := V1) (news := (newH c l).cs) 2 rfl rfl rfl Tryd.underlying35 el53 rfl rfl hV1 rfl (.slice Tryd.underlying35 (.inr (.inr ⟨bu, 0, rfl, fun j v hj => ⟨(newH c l).cs.toArray, 53, (0, 0), by simp, by simpa using hj⟩⟩)) rfl (by simp [Value.oneCell'])) (by omega) (by omega) ?_
                intro V2 hV2 _
                refine ⟨.inr (List.Sublist.cons _ (List.Sublist.cons _ (List.Sublist.cons _ (List.Sublist.refl _)))), ?_⟩
                refine XR.rd rfl rfl rfl (bd37v x.d V2.val ⟨_, _, _, rfl⟩ ⟨rfl, rfl, rfl, rfl, trivial⟩) ?_
                refine XR.alloc (cs := #[.int .i64 0, .int .i64 0, .int .i64 0, .int .i64 0, .slice none 0 0]) rfl rfl rfl zo37 rfl (List.Sublist.cons _ (List.Sublist.cons _ (List.Sublist.cons _ (List.Sublist.refl _)))) (fun b10 => ?_)
                refine XR.store_agg (vs := [.int .i64 x.d.a, .int .i64 x.d.b, .int .i64 x.d.t, .int .i64 x.d.n, V2.val]) 0 rfl rfl z37 rfl rfl (by simp [Value.oneCell']) rfl (by simp) (.inl rfl) ?_
                refine XR.nil ?_
                refine XQ.perm (perm_take [3, 0]) ?_
                refine XQ.drop (List.Sublist.cons_cons _ (List.Sublist.cons_cons _ (List.Sublist.cons _ (List.Sublist.cons _ (List.Sublist.refl _))))) ?_
                refine XQ.joined (V2, b10) (by rw [handC_add]; simpa using hV2) ⟨rfl, rfl, rfl, trivial⟩ rfl (List.Perm.refl _)
              · skip
                refine XR.alloc (cs := #[.int .i64 0, .int .i64 0, .int .i64 0, .int .i64 0, .slice none 0 0]) rfl rfl rfl zo37 rfl (List.Sublist.cons _ (List.Sublist.cons _ (List.Sublist.cons _ (List.Sublist.refl _)))) (fun b10 => ?_)
                refine XR.append (V := V1) (news := (newH c l).cs) 3 rfl rfl rfl Tryd.underlying35 el53 rfl rfl hV1 rfl (.slice Tryd.underlying35 (.inr (.inr ⟨bu, 0, rfl, fun j v hj => ⟨(newH c l).cs.toArray, 53, (0, 0), by simp, by simpa using hj⟩⟩)) rfl (by simp [Value.oneCell'])) (by omega) (by omega) ?_
                intro V2 hV2 _
                refine ⟨.inr (List.Sublist.cons _ (List.Sublist.cons _ (List.Sublist.cons _ (List.Sublist.cons _ (List.Sublist.refl _))))), ?_⟩
                refine XR.rd rfl rfl rfl (bd37v x.d V2.val ⟨_, _, _, rfl⟩ ⟨rfl, rfl, rfl, rfl, trivial⟩) ?_
                refine XR.store_agg (vs := [.int .i64 x.d.a, .int .i64 x.d.b, .int .i64 x.d.t, .int .i64 x.d.n, V2.val]) 0 rfl rfl z37 rfl rfl (by simp [Value.oneCell']) rfl (by simp) (.inl rfl) ?_
                refine XR.nil ?_
                refine XQ.perm (perm_take [3, 0]) ?_
                refine XQ.drop (List.Sublist.cons_cons _ (List.Sublist.cons_cons _ (List.Sublist.cons _ (List.Sublist.cons _ (List.Sublist.refl _))))) ?_
                refine XQ.joined (V2, b10) (by rw [handC_add]; simpa using hV2) ⟨rfl, rfl, rfl, trivial⟩ rfl (List.Perm.refl _)
            · skip
              refine XR.alloc (cs := #[.int .i64 0, .int .i64 0, .int .i64 0, .int .i64 0, .slice none 0 0]) rfl rfl rfl zo37 rfl (List.Sublist.cons _ (List.Sublist.cons _ (List.Sublist.refl _))) (fun b10 => ?_)
              refine XR.buildL [.agg (newH c l).cs.toArray] (newH c l).cs rfl rfl rfl Tryd.underlying35 el53 rfl (by simp) ⟨rfl, rfl, trivial⟩ rfl rfl (List.Sublist.cons _ (List.Sublist.cons _ (List.Sublist.cons _ (List.Sublist.refl _)))) (fun bu => ?_)
              refine XR.append (V := V1) (news := (newH c l).cs) 3 rfl rfl rfl Tryd.underlying35 el53 rfl rfl hV1 rfl (.slice Tryd.underlying35 (.inr (.inr ⟨bu, 0, rfl, fun j v hj => ⟨(newH c l).cs.toArray, 53, (0, 0), by simp, by simpa using hj⟩⟩)) rfl (by simp [Value.oneCell'])) (by omega) (by omega) ?_
              intro V2 hV2 _
              refine ⟨.inr (List.Sublist.cons _ (List.Sublist.cons _ (List.Sublist.cons _ (List.Sublist.cons _ (List.Sublist.refl _))))), ?_⟩
              refine XR.rd rfl rfl rfl (bd37v x.d V2.val ⟨_, _, _, rfl⟩ ⟨rfl, rfl, rfl, rfl, trivial⟩) ?_
              refine XR.store_agg (vs := [.int .i64 x.d.a, .int .i64 x.d.b, .int .i64 x.d.t, .int .i64 x.d.n, V2.val]) 1 rfl rfl z37 rfl rfl (by simp [Value.oneCell']) rfl (by simp) (.inl rfl) ?_
              refine XR.nil ?_
              refine XQ.perm (perm_take [3, 1]) ?_
              refine XQ.drop (List.Sublist.cons_cons _ (List.Sublist.cons_cons _ (List.Sublist.cons _ (List.Sublist.cons _ (List.Sublist.refl _))))) ?_
              refine XQ.joined (V2, b10) (by rw [handC_add]; simpa using hV2) ⟨rfl, rfl, rfl, trivial⟩ rfl (List.Perm.refl _)
          refine XR.alt ?_ ?_
          · skip
            refine XR.buildL [.agg (newH c l).cs.toArray] (newH c l).cs rfl rfl rfl Tryd.underlying35 el53 rfl (by simp) ⟨rfl, rfl, trivial⟩ rfl rfl (List.Sublist.cons _ (List.Sublist.cons _ (List.Sublist.refl _))) (fun bu => ?_)
            refine XR.alt ?_ ?_
            · skip
              refine XR.append (V := ⟨some (b14, #[]), 0, 0⟩) 2 rfl rfl rfl Tryd.underlying35 el53 rfl rfl (vec_zero b14 3) rfl (hnw _) (by simp only; omega) (by simp only; omega) ?_
              intro V1 hV1 hVl1
              simp only [Nat.zero_add] at hVl1
              refine ⟨.inr (List.Sublist.cons _ (List.Sublist.cons _ (List.Sublist.cons _ (List.Sublist.refl _)))), ?_⟩
              refine XR.alt ?_ ?_
              · skip
                refine XR.append (V := V1) (news := (newH c l).cs) 2 rfl rfl rfl Tryd.underlying35 el53 rfl rfl hV1 rfl (.slice Tryd.underlying35 (.inr (.inr ⟨bu, 0, rfl, fun j v hj => ⟨(newH c l).cs.toArray, 53, (0, 0), by simp, by simpa using hj⟩⟩)) rfl (by simp [Value.oneCell'])) (by omega) (by omega) ?_
                intro V2 hV2 _
                refine ⟨.inr (List.Sublist.cons _ (List.Sublist.cons _ (List.Sublist.cons _ (List.Sublist.refl _)))), ?_⟩
                refine XR.rd rfl rfl rfl (bd37v x.d V2.val ⟨_, _, _, rfl⟩ ⟨rfl, rfl, rfl, rfl, trivial⟩) ?_
                refine XR.alloc (cs := #[.int .i64 0, .int .i64 0, .int .i64 0, .int .i64 0, .slice none 0 0]) rfl rfl rfl zo37 rfl (List.Sublist.cons _ (List.Sublist.cons _ (List.Sublist.cons _ (List.Sublist.refl _)))) (fun b10 => ?_)
                refine XR.store_agg (vs := [.int .i64 x.d.a, .int .i64 x.d.b, .int .i64 x.d.t, .int .i64 x.d.n, V2.val]) 0 rfl rfl z37 rfl rfl (by simp [Value.oneCell']) rfl (by simp) (.inl rfl) ?_
                refine XR.nil ?_
                refine XQ.perm (perm_take [3, 0]) ?_
                refine XQ.drop (List.Sublist.cons_cons _ (List.Sublist.cons_cons _ (List.Sublist.cons _ (List.Sublist.cons _ (List.Sublist.refl _))))) ?_
                refine XQ.joined (V2, b10) (by rw [handC_add]; simpa using hV2) ⟨rfl, rfl, rfl, trivial⟩ rfl (List.Perm.refl _)
              · skip
                refine XR.alloc (cs := #[.int .i64 0, .int .i64 0, .int .i64 0, .int .i64 0, .slice none 0 0]) rfl rfl rfl zo37 rfl (List.Sublist.cons _ (List.Sublist.cons _ (List.Sublist.cons _ (List.Sublist.refl _)))) (fun b10 => ?_)
                refine XR.append (V := V1) (news := (newH c l).cs) 3 rfl rfl rfl Tryd.underlying35 el53 rfl rfl hV1 rfl (.slice Tryd.underlying35 (.inr (.inr ⟨bu, 0, rfl, fun j v hj => ⟨(newH c l).cs.toArray, 53, (0, 0), by simp, by simpa using hj⟩⟩)) rfl (by simp [Value.oneCell'])) (by omega) (by omega) ?_
                intro V2 hV2 _
                refine ⟨.inr (List.Sublist.cons _ (List.Sublist.cons _ (List.Sublist.cons _ (List.Sublist.cons _ (List.Sublist.refl _))))), ?_⟩
                refine XR.rd rfl rfl rfl (bd37v x.d V2.val ⟨_, _, _, rfl⟩ ⟨rfl, rfl, rfl, rfl, trivial⟩) ?_
                refine XR.store_agg (vs := [.int .i64 x.d.a, .int .i64 x.d.b, .int .i64 x.d.t, .int .i64 x.d.n, V2.val]) 0 rfl rfl z37 rfl rfl (by simp [Value.oneCell']) rfl (by simp) (.inl rfl) ?_
                refine XR.nil ?_
                refine XQ.perm (perm_take [3, 0]) ?_
                refine XQ.drop (List.Sublist.cons_cons _ (List.Sublist.cons_cons _ (List.Sublist.cons _ (List.Sublist.cons _ (List.Sublist.refl _))))) ?_
                refine XQ.joined (V2, b10) (by rw [handC_add]; simpa using hV2) ⟨rfl, rfl, rfl, trivial⟩ rfl (List.Perm.refl _)
            · skip
              refine XR.alloc (cs := #[.int .i64 0, .int .i64 0, .int .i64 0, .int .i64 0, .slice none 0 0]) rfl rfl rfl zo37 rfl (List.Sublist.cons _ (List.Sublist.cons _ (List.Sublist.cons _ (List.Sublist.refl _)))) (fun b10 => ?_)
              refine XR.append (V := ⟨some (b14, #[]), 0, 0⟩) 3 rfl rfl rfl Tryd.underlying35 el53 rfl rfl (vec_zero b14 3) rfl (hnw _) (by simp only; omega) (by simp only; omega) ?_
              intro V1 hV1 hVl1
              simp only [Nat.zero_add] at hVl1
              refine ⟨.inr (List.Sublist.cons _ (List.Sublist.cons _ (List.Sublist.cons _ (List.Sublist.cons _ (List.Sublist.refl _))))), ?_⟩
              refine XR.append (V := V1) (news := (newH c l).cs) 3 rfl rfl rfl Tryd.underlying35 el53 rfl rfl hV1 rfl (.slice Tryd.underlying35 (.inr (.inr ⟨bu, 0, rfl, fun j v hj => ⟨(newH c l).cs.toArray, 53, (0, 0), by simp, by simpa using hj⟩⟩)) rfl (by simp [Value.oneCell'])) (by omega) (by omega) ?_
              intro V2 hV2 _
              refine ⟨.inr (List.Sublist.cons _ (List.Sublist.cons _ (List.Sublist.cons _ (List.Sublist.cons _ (List.Sublist.refl _))))), ?_⟩
              refine XR.rd rfl rfl rfl (bd37v x.d V2.val ⟨_, _, _, rfl⟩ ⟨rfl, rfl, rfl, rfl, trivial⟩) ?_
              refine XR.store_agg (vs := [.int .i64 x.d.a, .int .i64 x.d.b, .int .i64 x.d.t, .int .i64 x.d.n, V2.val]) 0 rfl rfl z37 rfl rfl (by simp [Value.oneCell']) rfl (by simp) (.inl rfl) ?_
              refine XR.nil ?_
              refine XQ.perm (perm_take [3, 0]) ?_
              refine XQ.drop (List.Sublist.cons_cons _ (List.Sublist.cons_cons _ (List.Sublist.cons _ (List.Sublist.cons _ (List.Sublist.refl _))))) ?_
              refine XQ.joined (V2, b10) (by rw [handC_add]; simpa using hV2) ⟨rfl, rfl, rfl, trivial⟩ rfl (List.Perm.refl _)
          · skip
            refine XR.alloc (cs := #[.int .i64 0, .int .i64 0, .int .i64 0, .int .i64 0, .slice none 0 0]) rfl rfl rfl zo37 rfl (List.Sublist.cons _ (List.Sublist.cons _ (List.Sublist.refl _))) (fun b10 => ?_)
            refine XR.alt ?_ ?_
            · skip
              refine XR.append (V := ⟨some (b14, #[]), 0, 0⟩) 2 rfl rfl rfl Tryd.underlying35 el53 rfl rfl (vec_zero b14 3) rfl (hnw _) (by simp only; omega) (by simp only; omega) ?_
              intro V1 hV1 hVl1
              simp only [Nat.zero_add] at hVl1
              refine ⟨.inr (List.Sublist.cons _ (List.Sublist.cons _ (List.Sublist.cons _ (List.Sublist.refl _)))), ?_⟩
              refine XR.buildL [.agg (newH c l).cs.toArray] (newH c l).cs rfl rfl rfl Tryd.underlying35 el53 rfl (by simp) ⟨rfl, rfl, trivial⟩ rfl rfl (List.Sublist.cons _ (List.Sublist.cons _ (List.Sublist.cons _ (List.Sublist.refl _)))) (fun bu => ?_)
              refine XR.append (V := V1) (news := (newH c l).cs) 3 rfl rfl rfl Tryd.underlying35 el53 rfl rfl hV1 rfl (.slice Tryd.underlying35 (.inr (.inr ⟨bu, 0, rfl, fun j v hj => ⟨(newH c l).cs.toArray, 53, (0, 0), by simp, by simpa using hj⟩⟩)) rfl (by simp [Value.oneCell'])) (by omega) (by omega) ?_
              intro V2 hV2 _
              refine ⟨.inr (List.Sublist.cons _ (List.Sublist.cons _ (List.Sublist.cons _ (List.Sublist.cons _ (List.Sublist.refl _))))), ?_⟩
              refine XR.rd rfl rfl rfl (bd37v x.d V2.val ⟨_, _, _, rfl⟩ ⟨rfl, rfl, rfl, rfl, trivial⟩) ?_
              refine XR.store_agg (vs := [.int .i64 x.d.a, .int .i64 x.d.b, .int .i64 x.d.t, .int .i64 x.d.n, V2.val]) 1 rfl rfl z37 rfl rfl (by simp [Value.oneCell']) rfl (by simp) (.inl rfl) ?_
              refine XR.nil ?_
              refine XQ.perm (perm_take [3, 1]) ?_
              refine XQ.drop (List.Sublist.cons_cons _ (List.Sublist.cons_cons _ (List.Sublist.cons _ (List.Sublist.cons _ (List.Sublist.refl _))))) ?_
              refine XQ.joined (V2, b10) (by rw [handC_add]; simpa using hV2) ⟨rfl, rfl, rfl, trivial⟩ rfl (List.Perm.refl _)
            · skip
              refine XR.buildL [.agg (newH c l).cs.toArray] (newH c l).cs rfl rfl rfl Tryd.underlying35 el53 rfl (by simp) ⟨rfl, rfl, trivial⟩ rfl rfl (List.Sublist.cons _ (List.Sublist.cons _ (List.Sublist.cons _ (List.Sublist.refl _)))) (fun bu => ?_)
              refine XR.append (V := ⟨some (b14, #[]), 0, 0⟩) 3 rfl rfl rfl Tryd.underlying35 el53 rfl rfl (vec_zero b14 3) rfl (hnw _) (by simp only; omega) (by simp only; omega) ?_
              intro V1 hV1 hVl1
              simp only [Nat.zero_add] at hVl1
              refine ⟨.inr (List.Sublist.cons _ (List.Sublist.cons _ (List.Sublist.cons _ (List.Sublist.cons _ (List.Sublist.refl _))))), ?_⟩
              refine XR.append (V := V1) (news := (newH c l).cs) 3 rfl rfl rfl Tryd.underlying35 el53 rfl rfl hV1 rfl (.slice Tryd.underlying35 (.inr (.inr ⟨bu, 0, rfl, fun j v hj => ⟨(newH c l).cs.toArray, 53, (0, 0), by simp, by simpa using hj⟩⟩)) rfl (by simp [Value.oneCell'])) (by omega) (by omega) ?_
              intro V2 hV2 _
              refine ⟨.inr (List.Sublist.cons _ (List.Sublist.cons _ (List.Sublist.cons _ (List.Sublist.cons _ (List.Sublist.refl _))))), ?_⟩
              refine XR.rd rfl rfl rfl (bd37v x.d V2.val ⟨_, _, _, rfl⟩ ⟨rfl, rfl, rfl, rfl, trivial⟩) ?_
              refine XR.store_agg (vs := [.int .i64 x.d.a, .int .i64 x.d.b, .int .i64 x.d.t, .int .i64 x.d.n, V2.val]) 1 rfl rfl z37 rfl rfl (by simp [Value.oneCell']) rfl (by simp) (.inl rfl) ?_
              refine XR.nil ?_
              refine XQ.perm (perm_take [3, 1]) ?_
              refine XQ.drop (List.Sublist.cons_cons _ (List.Sublist.cons_cons _ (List.Sublist.cons _ (List.Sublist.cons _ (List.Sublist.refl _))))) ?_
              refine XQ.joined (V2, b10) (by rw [handC_add]; simpa using hV2) ⟨rfl, rfl, rfl, trivial⟩ rfl (List.Perm.refl _)
        · skip
          refine XR.alloc (cs := #[.int .i64 0, .int .i64 0, .int .i64 0, .int .i64 0, .slice none 0 0]) rfl rfl rfl zo37 rfl (List.Sublist.cons _ (List.Sublist.cons _ (List.Sublist.refl _))) (fun b10 => ?_)
          refine XR.alt ?_ ?_
          · skip
            refine XR.append (V := ⟨some (b14, #[]), 0, 0⟩) 2 rfl rfl rfl Tryd.underlying35 el53 rfl rfl (vec_zero b14 3) rfl (hnw _) (by simp only; omega) (by simp only; omega) ?_
            intro V1 hV1 hVl1
            simp only [Nat.zero_add] at hVl1
            refine ⟨.inr (List.Sublist.cons _ (List.Sublist.cons _ (List.Sublist.cons _ (List.Sublist.refl _)))), ?_⟩
            refine XR.rde rfl rfl rfl rfl (Reads.to_string (bs := List.replicate 32 0) Tryd.underlying98 Tryd.underlying5 Tryd.underlying9 rfl rfl (readable_row 1 rfl rfl)) (List.Sublist.cons _ (List.Sublist.cons _ (List.Sublist.cons _ (List.Sublist.refl _)))) ?_
            refine XR.rd rfl rfl rfl (bd53v c l zero32 ⟨rfl, rfl, rfl, rfl, rfl, rfl, trivial⟩) ?_
            refine XR.buildL [.agg (newH c l).cs.toArray] (newH c l).cs rfl rfl rfl Tryd.underlying35 el53 rfl (by simp) ⟨rfl, rfl, trivial⟩ rfl rfl (List.Sublist.cons _ (List.Sublist.cons _ (List.Sublist.cons _ (List.Sublist.refl _)))) (fun bu => ?_)
            refine XR.append (V := V1) (news := (newH c l).cs) 3 rfl rfl rfl Tryd.underlying35 el53 rfl rfl hV1 rfl (.slice Tryd.underlying35 (.inr (.inr ⟨bu, 0, rfl, fun j v hj => ⟨(newH c l).cs.toArray, 53, (0, 0), by simp, by simpa using hj⟩⟩)) rfl (by simp [Value.oneCell'])) (by omega) (by omega) ?_
            intro V2 hV2 _
            refine ⟨.inr (List.Sublist.cons _ (List.Sublist.cons _ (List.Sublist.cons _ (List.Sublist.cons _ (List.Sublist.refl _))))), ?_⟩
            refine XR.rd rfl rfl rfl (bd37v x.d V2.val ⟨_, _, _, rfl⟩ ⟨rfl, rfl, rfl, rfl, trivial⟩) ?_
            refine XR.store_agg (vs := [.int .i64 x.d.a, .int .i64 x.d.b, .int .i64 x.d.t, .int .i64 x.d.n, V2.val]) 1 rfl rfl z37 rfl rfl (by simp [Value.oneCell']) rfl (by simp) (.inl rfl) ?_
            refine XR.nil ?_
            refine XQ.perm (perm_take [3, 1]) ?_
            refine XQ.drop (List.Sublist.cons_cons _ (List.Sublist.cons_cons _ (List.Sublist.cons _ (List.Sublist.cons _ (List.Sublist.refl _))))) ?_
            refine XQ.joined (V2, b10) (by rw [handC_add]; simpa using hV2) ⟨rfl, rfl, rfl, trivial⟩ rfl (List.Perm.refl _)
          · skip
            refine XR.rde rfl rfl rfl rfl (Reads.to_string (bs := List.replicate 32 0) Tryd.underlying98 Tryd.underlying5 Tryd.underlying9 rfl rfl (readable_row 1 rfl rfl)) (List.Sublist.cons _ (List.Sublist.cons _ (List.Sublist.cons _ (List.Sublist.refl _)))) ?_
            refine XR.rd rfl rfl rfl (bd53v c l zero32 ⟨rfl, rfl, rfl, rfl, rfl, rfl, trivial⟩) ?_
            refine XR.alt ?_ ?_
            · skip
              refine XR.append (V := ⟨some (b14, #[]), 0, 0⟩) 2 rfl rfl rfl Tryd.underlying35 el53 rfl rfl (vec_zero b14 3) rfl (hnw _) (by simp only; omega) (by simp only; omega) ?_
              intro V1 hV1 hVl1
              simp only [Nat.zero_add] at hVl1
              refine ⟨.inr (List.Sublist.cons _ (List.Sublist.cons _ (List.Sublist.cons _ (List.Sublist.refl _)))), ?_⟩
              refine XR.buildL [.agg (newH c l).cs.toArray] (newH c l).cs rfl rfl rfl Tryd.underlying35 el53 rfl (by simp) ⟨rfl, rfl, trivial⟩ rfl rfl (List.Sublist.cons _ (List.Sublist.cons _ (List.Sublist.cons _ (List.Sublist.refl _)))) (fun bu => ?_)
              refine XR.append (V := V1) (news := (newH c l).cs) 3 rfl rfl rfl Tryd.underlying35 el53 rfl rfl hV1 rfl (.slice Tryd.underlying35 (.inr (.inr ⟨bu, 0, rfl, fun j v hj => ⟨(newH c l).cs.toArray, 53, (0, 0), by simp, by simpa using hj⟩⟩)) rfl (by simp [Value.oneCell'])) (by omega) (by omega) ?_
              intro V2 hV2 _
              refine ⟨.inr (List.Sublist.cons _ (List.Sublist.cons _ (List.Sublist.cons _ (List.Sublist.cons _ (List.Sublist.refl _))))), ?_⟩
              refine XR.rd rfl rfl rfl (bd37v x.d V2.val ⟨_, _, _, rfl⟩ ⟨rfl, rfl, rfl, rfl, trivial⟩) ?_
              refine XR.store_agg (vs := [.int .i64 x.d.a, .int .i64 x.d.b, .int .i64 x.d.t, .int .i64 x.d.n, V2.val]) 1 rfl rfl z37 rfl rfl (by simp [Value.oneCell']) rfl (by simp) (.inl rfl) ?_
              refine XR.nil ?_
              refine XQ.perm (perm_take [3, 1]) ?_
              refine XQ.drop (List.Sublist.cons_cons _ (List.Sublist.cons_cons _ (List.Sublist.cons _ (List.Sublist.cons _ (List.Sublist.refl _))))) ?_
              refine XQ.joined (V2, b10) (by rw [handC_add]; simpa using hV2) ⟨rfl, rfl, rfl, trivial⟩ rfl (List.Perm.refl _)
            · skip
              refine XR.buildL [.agg (newH c l).cs.toArray] (newH c l).cs rfl rfl rfl Tryd.underlying35 el53 rfl (by simp) ⟨rfl, rfl, trivial⟩ rfl rfl (List.Sublist.cons _ (List.Sublist.cons _ (List.Sublist.cons _ (List.Sublist.refl _)))) (fun bu => ?_)
              refine XR.append (V := ⟨some (b14, #[]), 0, 0⟩) 3 rfl rfl rfl Tryd.underlying35 el53 rfl rfl (vec_zero b14 3) rfl (hnw _) (by simp only; omega) (by simp only; omega) ?_
              intro V1 hV1 hVl1
              simp only [Nat.zero_add] at hVl1
              refine ⟨.inr (List.Sublist.cons _ (List.Sublist.cons _ (List.Sublist.cons _ (List.Sublist.cons _ (List.Sublist.refl _))))), ?_⟩
              refine XR.append (V := V1) (news := (newH c l).cs) 3 rfl rfl rfl Tryd.underlying35 el53 rfl rfl hV1 rfl (.slice Tryd.underlying35 (.inr (.inr ⟨bu, 0, rfl, fun j v hj => ⟨(newH c l).cs.toArray, 53, (0, 0), by simp, by simpa using hj⟩⟩)) rfl (by simp [Value.oneCell'])) (by omega) (by omega) ?_
              intro V2 hV2 _
              refine ⟨.inr (List.Sublist.cons _ (List.Sublist.cons _ (List.Sublist.cons _ (List.Sublist.cons _ (List.Sublist.refl _))))), ?_⟩
              refine XR.rd rfl rfl rfl (bd37v x.d V2.val ⟨_, _, _, rfl⟩ ⟨rfl, rfl, rfl, rfl, trivial⟩) ?_
              refine XR.store_agg (vs := [.int .i64 x.d.a, .int .i64 x.d.b, .int .i64 x.d.t, .int .i64 x.d.n, V2.val]) 1 rfl rfl z37 rfl rfl (by simp [Value.oneCell']) rfl (by simp) (.inl rfl) ?_
              refine XR.nil ?_
              refine XQ.perm (perm_take [3, 1]) ?_
              refine XQ.drop (List.Sublist.cons_cons _ (List.Sublist.cons_cons _ (List.Sublist.cons _ (List.Sublist.cons _ (List.Sublist.refl _))))) ?_
              refine XQ.joined (V2, b10) (by rw [handC_add]; simpa using hV2) ⟨rfl, rfl, rfl, trivial⟩ rfl (List.Perm.refl _)
      · skip
        refine XR.alloc (cs := #[.int .i64 0, .int .i64 0, .int .i64 0, .int .i64 0, .slice none 0 0]) rfl rfl rfl zo37 rfl (List.Sublist.cons _ (List.Sublist.refl _)) (fun b10 => ?_)
        refine XR.alt ?_ ?_
        · skip
          refine XR.append (V := ⟨some (b14, #[]), 0, 0⟩) 1 rfl rfl rfl Tryd.underlying35 el53 rfl rfl (vec_zero b14 3) rfl (hnw _) (by simp only; omega) (by simp only; omega) ?_
          intro V1 hV1 hVl1
          simp only [Nat.zero_add] at hVl1
          refine ⟨.inr (List.Sublist.cons _ (List.Sublist.cons _ (List.Sublist.refl _))), ?_⟩
          refine XR.makeSlice (m := 32) rfl rfl rfl Tryd.underlying98 el5 rfl rfl rfl (by decide) (by decide) (List.Sublist.cons _ (List.Sublist.cons _ (List.Sublist.refl _))) (fun b20 => ?_)
          refine XR.rde rfl rfl rfl rfl (Reads.to_string (bs := List.replicate 32 0) Tryd.underlying98 Tryd.underlying5 Tryd.underlying9 rfl rfl (readable_row 0 rfl rfl)) (List.Sublist.cons _ (List.Sublist.cons _ (List.Sublist.cons _ (List.Sublist.refl _)))) ?_
          refine XR.rd rfl rfl rfl (bd53v c l zero32 ⟨rfl, rfl, rfl, rfl, rfl, rfl, trivial⟩) ?_
          refine XR.buildL [.agg (newH c l).cs.toArray] (newH c l).cs rfl rfl rfl Tryd.underlying35 el53 rfl (by simp) ⟨rfl, rfl, trivial⟩ rfl rfl (List.Sublist.cons _ (List.Sublist.cons _ (List.Sublist.cons _ (List.Sublist.refl _)))) (fun bu => ?_)
          refine XR.append (V := V1) (news := (newH c l).cs) 3 rfl rfl rfl Tryd.underlying35 el53 rfl rfl hV1 rfl (.slice Tryd.underlying35 (.inr (.inr ⟨bu, 0, rfl, fun j v hj => ⟨(newH c l).cs.toArray, 53, (0, 0), by simp, by simpa using hj⟩⟩)) rfl (by simp [Value.oneCell'])) (by omega) (by omega) ?_
          intro V2 hV2 _
          refine ⟨.inr (List.Sublist.cons _ (List.Sublist.cons _ (List.Sublist.cons _ (List.Sublist.cons _ (List.Sublist.refl _))))), ?_⟩
          refine XR.rd rfl rfl rfl (bd37v x.d V2.val ⟨_, _, _, rfl⟩ ⟨rfl, rfl, rfl, rfl, trivial⟩) ?_
          refine XR.store_agg (vs := [.int .i64 x.d.a, .int .i64 x.d.b, .int .i64 x.d.t, .int .i64 x.d.n, V2.val]) 2 rfl rfl z37 rfl rfl (by simp [Value.oneCell']) rfl (by simp) (.inl rfl) ?_
          refine XR.nil ?_
          refine XQ.perm (perm_take [3, 2]) ?_
          refine XQ.drop (List.Sublist.cons_cons _ (List.Sublist.cons_cons _ (List.Sublist.cons _ (List.Sublist.cons _ (List.Sublist.refl _))))) ?_
          refine XQ.joined (V2, b10) (by rw [handC_add]; simpa using hV2) ⟨rfl, rfl, rfl, trivial⟩ rfl (List.Perm.refl _)
        · skip
          refine XR.makeSlice (m := 32) rfl rfl rfl Tryd.underlying98 el5 rfl rfl rfl (by decide) (by decide) (List.Sublist.cons _ (List.Sublist.cons _ (List.Sublist.refl _))) (fun b20 => ?_)
          refine XR.alt ?_ ?_
          · skip
            refine XR.append (V := ⟨some (b14, #[]), 0, 0⟩) 2 rfl rfl rfl Tryd.underlying35 el53 rfl rfl (vec_zero b14 3) rfl (hnw _) (by simp only; omega) (by simp only; omega) ?_
            intro V1 hV1 hVl1
            simp only [Nat.zero_add] at hVl1
            refine ⟨.inr (List.Sublist.cons _ (List.Sublist.cons _ (List.Sublist.cons _ (List.Sublist.refl _)))), ?_⟩
            refine XR.rde rfl rfl rfl rfl (Reads.to_string (bs := List.replicate 32 0) Tryd.underlying98 Tryd.underlying5 Tryd.underlying9 rfl rfl (readable_row 0 rfl rfl)) (List.Sublist.cons _ (List.Sublist.cons _ (List.Sublist.cons _ (List.Sublist.refl _)))) ?_
            refine XR.rd rfl rfl rfl (bd53v c l zero32 ⟨rfl, rfl, rfl, rfl, rfl, rfl, trivial⟩) ?_
            refine XR.buildL [.agg (newH c l).cs.toArray] (newH c l).cs rfl rfl rfl Tryd.underlying35 el53 rfl (by simp) ⟨rfl, rfl, trivial⟩ rfl rfl (List.Sublist.cons _ (List.Sublist.cons _ (List.Sublist.cons _ (List.Sublist.refl _)))) (fun bu => ?_)
            refine XR.append (V := V1) (news := (newH c l).cs) 3 rfl rfl rfl Tryd.underlying35 el53 rfl rfl hV1 rfl (.slice Tryd.underlying35 (.inr (.inr ⟨bu, 0, rfl, fun j v hj => ⟨(newH c l).cs.toArray, 53, (0, 0), by simp, by simpa using hj⟩⟩)) rfl (by simp [Value.oneCell'])) (by omega) (by omega) ?_
            intro V2 hV2 _
            refine ⟨.inr (List.Sublist.cons _ (List.Sublist.cons _ (List.Sublist.cons _ (List.Sublist.cons _ (List.Sublist.refl _))))), ?_⟩
            refine XR.rd rfl rfl rfl (bd37v x.d V2.val ⟨_, _, _, rfl⟩ ⟨rfl, rfl, rfl, rfl, trivial⟩) ?_
            refine XR.store_agg (vs := [.int .i64 x.d.a, .int .i64 x.d.b, .int .i64 x.d.t, .int .i64 x.d.n, V2.val]) 2 rfl rfl z37 rfl rfl (by simp [Value.oneCell']) rfl (by simp) (.inl rfl) ?_
            refine XR.nil ?_
            refine XQ.perm (perm_take [3, 2]) ?_
            refine XQ.drop (List.Sublist.cons_cons _ (List.Sublist.cons_cons _ (List.Sublist.cons _ (List.Sublist.cons _ (List.Sublist.refl _))))) ?_
            refine XQ.joined (V2, b10) (by rw [handC_add]; simpa using hV2) ⟨rfl, rfl, rfl, trivial⟩ rfl (List.Perm.refl _)
          · skip
            refine XR.rde rfl rfl rfl rfl (Reads.to_string (bs := List.replicate 32 0) Tryd.underlying98 Tryd.underlying5 Tryd.underlying9 rfl rfl (readable_row 0 rfl rfl)) (List.Sublist.cons _ (List.Sublist.cons _ (List.Sublist.cons _ (List.Sublist.refl _)))) ?_
            refine XR.rd rfl rfl rfl (bd53v c l zero32 ⟨rfl, rfl, rfl, rfl, rfl, rfl, trivial⟩) ?_
            refine XR.alt ?_ ?_
            · skip
              refine XR.append (V := ⟨some (b14, #[]), 0, 0⟩) 2 rfl rfl rfl Tryd.underlying35 el53 rfl rfl (vec_zero b14 3) rfl (hnw _) (by simp only; omega) (by simp only; omega) ?_
              intro V1 hV1 hVl1
              simp only [Nat.zero_add] at hVl1
              refine ⟨.inr (List.Sublist.cons _ (List.Sublist.cons _ (List.Sublist.cons _ (List.Sublist.refl _)))), ?_⟩
              refine XR.buildL [.agg (newH c l).cs.toArray] (newH c l).cs rfl rfl rfl Tryd.underlying35 el53 rfl (by simp) ⟨rfl, rfl, trivial⟩ rfl rfl (List.Sublist.cons _ (List.Sublist.cons _ (List.Sublist.cons _ (List.Sublist.refl _)))) (fun bu => ?_)
              refine XR.append (V := V1) (news := (newH c l).cs) 3 rfl rfl rfl Tryd.underlying35 el53 rfl rfl hV1 rfl (.slice Tryd.underlying35 (.inr (.inr ⟨bu, 0, rfl, fun j v hj => ⟨(newH c l).cs.toArray, 53, (0, 0), by simp, by simpa using hj⟩⟩)) rfl (by simp [Value.oneCell'])) (by omega) (by omega) ?_
              intro V2 hV2 _
              refine ⟨.inr (List.Sublist.cons _ (List.Sublist.cons _ (List.Sublist.cons _ (List.Sublist.cons _ (List.Sublist.refl _))))), ?_⟩
              refine XR.rd rfl rfl rfl (bd37v x.d V2.val ⟨_, _, _, rfl⟩ ⟨rfl, rfl, rfl, rfl, trivial⟩) ?_
              refine XR.store_agg (vs := [.int .i64 x.d.a, .int .i64 x.d.b, .int .i64 x.d.t, .int .i64 x.d.n, V2.val]) 2 rfl rfl z37 rfl rfl (by simp [Value.oneCell']) rfl (by simp) (.inl rfl) ?_
              refine XR.nil ?_
              refine XQ.perm (perm_take [3, 2]) ?_
              refine XQ.drop (List.Sublist.cons_cons _ (List.Sublist.cons_cons _ (List.Sublist.cons _ (List.Sublist.cons _ (List.Sublist.refl _))))) ?_
              refine XQ.joined (V2, b10) (by rw [handC_add]; simpa using hV2) ⟨rfl, rfl, rfl, trivial⟩ rfl (List.Perm.refl _)
            · skip
              refine XR.buildL [.agg (newH c l).cs.toArray] (newH c l).cs rfl rfl rfl Tryd.underlying35 el53 rfl (by simp) ⟨rfl, rfl, trivial⟩ rfl rfl (List.Sublist.cons _ (List.Sublist.cons _ (List.Sublist.cons _ (List.Sublist.refl _)))) (fun bu => ?_)
              refine XR.append (V := ⟨some (b14, #[]), 0, 0⟩) 3 rfl rfl rfl Tryd.underlying35 el53 rfl rfl (vec_zero b14 3) rfl (hnw _) (by simp only; omega) (by simp only; omega) ?_
              intro V1 hV1 hVl1
              simp only [Nat.zero_add] at hVl1
              refine ⟨.inr (List.Sublist.cons _ (List.Sublist.cons _ (List.Sublist.cons _ (List.Sublist.cons _ (List.Sublist.refl _))))), ?_⟩
              refine XR.append (V := V1) (news := (newH c l).cs) 3 rfl rfl rfl Tryd.underlying35 el53 rfl rfl hV1 rfl (.slice Tryd.underlying35 (.inr (.inr ⟨bu, 0, rfl, fun j v hj => ⟨(newH c l).cs.toArray, 53, (0, 0), by simp, by simpa using hj⟩⟩)) rfl (by simp [Value.oneCell'])) (by omega) (by omega) ?_
              intro V2 hV2 _
              refine ⟨.inr (List.Sublist.cons _ (List.Sublist.cons _ (List.Sublist.cons _ (List.Sublist.cons _ (List.Sublist.refl _))))), ?_⟩
              refine XR.rd rfl rfl rfl (bd37v x.d V2.val ⟨_, _, _, rfl⟩ ⟨rfl, rfl, rfl, rfl, trivial⟩) ?_
              refine XR.store_agg (vs := [.int .i64 x.d.a, .int .i64 x.d.b, .int .i64 x.d.t, .int .i64 x.d.n, V2.val]) 2 rfl rfl z37 rfl rfl (by simp [Value.oneCell']) rfl (by simp) (.inl rfl) ?_
              refine XR.nil ?_
              refine XQ.perm (perm_take [3, 2]) ?_
              refine XQ.drop (List.Sublist.cons_cons _ (List.Sublist.cons_cons _ (List.Sublist.cons _ (List.Sublist.cons _ (List.Sublist.refl _))))) ?_
              refine XQ.joined (V2, b10) (by rw [handC_add]; simpa using hV2) ⟨rfl, rfl, rfl, trivial⟩ rfl (List.Perm.refl _)
    refine XR.alt ?_ ?_
    · skip
      refine XR.makeSlice (m := 32) rfl rfl rfl Tryd.underlying98 el5 rfl rfl rfl (by decide) (by decide) (List.Sublist.refl _) (fun b20 => ?_)
      refine XR.alt ?_ ?_
      · skip
        refine XR.buildL [] [] rfl rfl rfl Tryd.underlying35 el53 rfl (by simp) trivial rfl rfl (List.Sublist.cons _ (List.Sublist.refl _)) (fun b14 => ?_)
        refine XR.alt ?_ ?_
        · skip
          refine XR.append (V := ⟨some (b14, #[]), 0, 0⟩) 0 rfl rfl rfl Tryd.underlying35 el53 rfl rfl (vec_zero b14 3) rfl (hnw _) (by simp only; omega) (by simp only; omega) ?_
          intro V1 hV1 hVl1
          simp only [Nat.zero_add] at hVl1
          refine ⟨.inr (List.Sublist.cons _ (List.Sublist.cons _ (List.Sublist.refl _))), ?_⟩
          refine XR.alt ?_ ?_
          · skip
            refine XR.rde rfl rfl rfl rfl (Reads.to_string (bs := List.replicate 32 0) Tryd.underlying98 Tryd.underlying5 Tryd.underlying9 rfl rfl (readable_row 1 rfl rfl)) (List.Sublist.cons _ (List.Sublist.cons _ (List.Sublist.refl _))) ?_
            refine XR.rd rfl rfl rfl (bd53v c l zero32 ⟨rfl, rfl, rfl, rfl, rfl, rfl, trivial⟩) ?_
            refine XR.alt ?_ ?_
            · skip
              refine XR.buildL [.agg (newH c l).cs.toArray] (newH c l).cs rfl rfl rfl Tryd.underlying35 el53 rfl (by simp) ⟨rfl, rfl, trivial⟩ rfl rfl (List.Sublist.cons _ (List.Sublist.cons _ (List.Sublist.refl _))) (fun bu => ?_)
              refine XR.alt ?_ ?_
              · skip
                refine XR.append (V := V1) (news := (newH c l).cs) 1 rfl rfl rfl Tryd.underlying35 el53 rfl rfl hV1 rfl (.slice Tryd.underlying35 (.inr (.inr ⟨bu, 0, rfl, fun j v hj => ⟨(newH c l).cs.toArray, 53, (0, 0), by simp, by simpa using hj⟩⟩)) rfl (by simp [Value.oneCell'])) (by omega) (by omega) ?_
                intro V2 hV2 _
                refine ⟨.inr (List.Sublist.cons _ (List.Sublist.cons _ (List.Sublist.cons _ (List.Sublist.refl _)))), ?_⟩
                refine XR.rd rfl rfl rfl (bd37v x.d V2.val ⟨_, _, _, rfl⟩ ⟨rfl, rfl, rfl, rfl, trivial⟩) ?_
                refine XR.alloc (cs := #[.int .i64 0, .int .i64 0, .int .i64 0, .int .i64 0, .slice none 0 0]) rfl rfl rfl zo37 rfl (List.Sublist.cons _ (List.Sublist.cons _ (List.Sublist.cons _ (List.Sublist.refl _)))) (fun b10 => ?_)
                refine XR.store_agg (vs := [.int .i64 x.d.a, .int .i64 x.d.b, .int .i64 x.d.t, .int .i64 x.d.n, V2.val]) 0 rfl rfl z37 rfl rfl (by simp [Value.oneCell']) rfl (by simp) (.inl rfl) ?_
                refine XR.nil ?_
                refine XQ.perm (perm_take [2, 0]) ?_
                refine XQ.drop (List.Sublist.cons_cons _ (List.Sublist.cons_cons _ (List.Sublist.cons _ (List.Sublist.cons _ (List.Sublist.refl _))))) ?_
                refine XQ.joined (V2, b10) (by rw [handC_add]; simpa using hV2) ⟨rfl, rfl, rfl, trivial⟩ rfl (List.Perm.refl _)
              · skip
                refine XR.alloc (cs := #[.int .i64 0, .int .i64 0, .int .i64 0, .int .i64 0, .slice none 0 0]) rfl rfl rfl zo37 rfl (List.Sublist.cons _ (List.Sublist.cons _ (List.Sublist.cons _ (List.Sublist.refl _)))) (fun b10 => ?_)
                refine XR.append (V := V1) (news := (newH c l).cs) 2 rfl rfl rfl Tryd.underlying35 el53 rfl rfl hV1 rfl (.slice Tryd.underlying35 (.inr (.inr ⟨bu, 0, rfl, fun j v hj => ⟨(newH c l).cs.toArray, 53, (0, 0), by simp, by simpa using hj⟩⟩)) rfl (by simp [Value.oneCell'])) (by omega) (by omega) ?_
                intro V2 hV2 _
                refine ⟨.inr (List.Sublist.cons _ (List.Sublist.cons _ (List.Sublist.cons _ (List.Sublist.cons _ (List.Sublist.refl _))))), ?_⟩
                refine XR.rd rfl rfl rfl (bd37v x.d V2.val ⟨_, _, _, rfl⟩ ⟨rfl, rfl, rfl, rfl, trivial⟩) ?_
                refine XR.store_agg (vs := [.int .i64 x.d.a, .int .i64 x.d.b, .int .i64 x.d.t, .int .i64 x.d.n, V2.val]) 0 rfl rfl z37 rfl rfl (by simp [Value.oneCell']) rfl (by simp) (.inl rfl) ?_
                refine XR.nil ?_
                refine XQ.perm (perm_take [2, 0]) ?_
                refine XQ.drop (List.Sublist.cons_cons _ (List.Sublist.cons_cons _ (List.Sublist.cons _ (List.Sublist.cons _ (List.Sublist.refl _))))) ?_
                refine XQ.joined (V2, b10) (by rw [handC_add]; simpa using hV2) ⟨rfl, rfl, rfl, trivial⟩ rfl (List.Perm.refl _)
            · skip
              refine XR.alloc (cs := #[.int .i64 0, .int .i64 0, .int .i64 0, .int .i64 0, .slice none 0 0]) rfl rfl rfl zo37 rfl (List.Sublist.cons _ (List.Sublist.cons _ (List.Sublist.refl _))) (fun b10 => ?_)
              refine XR.buildL [.agg (newH c l).cs.toArray] (newH c l).cs rfl rfl rfl Tryd.underlying35 el53 rfl (by simp) ⟨rfl, rfl, trivial⟩ rfl rfl (List.Sublist.cons _ (List.Sublist.cons _ (List.Sublist.cons _ (List.Sublist.refl _)))) (fun bu => ?_)
              refine XR.append (V := V1) (news := (newH c l).cs) 2 rfl rfl rfl Tryd.underlying35 el53 rfl rfl hV1 rfl (.slice Tryd.underlying35 (.inr (.inr ⟨bu, 0, rfl, fun j v hj => ⟨(newH c l).cs.toArray, 53, (0, 0), by simp, by simpa using hj⟩⟩)) rfl (by simp [Value.oneCell'])) (by omega) (by omega) ?_
              intro V2 hV2 _
              refine ⟨.inr (List.Sublist.cons _ (List.Sublist.cons _ (List.Sublist.cons _ (List.Sublist.cons _ (List.Sublist.refl _))))), ?_⟩
              refine XR.rd rfl rfl rfl (bd37v x.d V2.val ⟨_, _, _, rfl⟩ ⟨rfl, rfl, rfl, rfl, trivial⟩) ?_
              refine XR.store_agg (vs := [.int .i64 x.d.a, .int .i64 x.d.b, .int .i64 x.d.t, .int .i64 x.d.n, V2.val]) 1 rfl rfl z37 rfl rfl (by simp [Value.oneCell']) rfl (by simp) (.inl rfl) ?_
              refine XR.nil ?_
              refine XQ.perm (perm_take [2, 1]) ?_
              refine XQ.drop (List.Sublist.cons_cons _ (List.Sublist.cons_cons _ (List.Sublist.cons _ (List.Sublist.cons _ (List.Sublist.refl _))))) ?_
              refine XQ.joined (V2, b10) (by rw [handC_add]; simpa using hV2) ⟨rfl, rfl, rfl, trivial⟩ rfl (List.Perm.refl _)
          · skip
            refine XR.alloc (cs := #[.int .i64 0, .int .i64 0, .int .i64 0, .int .i64 0, .slice none 0 0]) rfl rfl rfl zo37 rfl (List.Sublist.cons _ (List.Sublist.cons _ (List.Sublist.refl _))) (fun b10 => ?_)
            refine XR.rde rfl rfl rfl rfl (Reads.to_string (bs := List.replicate 32 0) Tryd.underlying98 Tryd.underlying5 Tryd.underlying9 rfl rfl (readable_row 2 rfl rfl)) (List.Sublist.cons _ (List.Sublist.cons _ (List.Sublist.cons _ (List.Sublist.refl _)))) ?_
            refine XR.rd rfl rfl rfl (bd53v c l zero32 ⟨rfl, rfl, rfl, rfl, rfl, rfl, trivial⟩) ?_
            refine XR.buildL [.agg (newH c l).cs.toArray] (newH c l).cs rfl rfl rfl Tryd.underlying35 el53 rfl (by simp) ⟨rfl, rfl, trivial⟩ rfl rfl (List.Sublist.cons _ (List.Sublist.cons _ (List.Sublist.cons _ (List.Sublist.refl _)))) (fun bu => ?_)
            refine XR.append (V := V1) (news := (newH c l).cs) 2 rfl rfl rfl Tryd.underlying35 el53 rfl rfl hV1 rfl (.slice Tryd.underlying35 (.inr (.inr ⟨bu, 0, rfl, fun j v hj => ⟨(newH c l).cs.toArray, 53, (0, 0), by simp, by simpa using hj⟩⟩)) rfl (by simp [Value.oneCell'])) (by omega) (by omega) ?_
            intro V2 hV2 _
            refine ⟨.inr (List.Sublist.cons _ (List.Sublist.cons _ (List.Sublist.cons _ (List.Sublist.cons _ (List.Sublist.refl _))))), ?_⟩
            refine XR.rd rfl rfl rfl (bd37v x.d V2.val ⟨_, _, _, rfl⟩ ⟨rfl, rfl, rfl, rfl, trivial⟩) ?_
            refine XR.store_agg (vs := [.int .i64 x.d.a, .int .i64 x.d.b, .int .i64 x.d.t, .int .i64 x.d.n, V2.val]) 1 rfl rfl z37 rfl rfl (by simp [Value.oneCell']) rfl (by simp) (.inl rfl) ?_
            refine XR.nil ?_
            refine XQ.perm (perm_take [2, 1]) ?_
            refine XQ.drop (List.Sublist.cons_cons _ (List.Sublist.cons_cons _ (List.Sublist.cons _ (List.Sublist.cons _ (List.Sublist.refl _))))) ?_
            refine XQ.joined (V2, b10) (by rw [handC_add]; simpa using hV2) ⟨rfl, rfl, rfl, trivial⟩ rfl (List.Perm.refl _)
        refine XR.alt ?_ ?_
        · skip
          refine XR.rde rfl rfl rfl rfl (Reads.to_string (bs := List.replicate 32 0) Tryd.underlying98 Tryd.underlying5 Tryd.underlying9 rfl rfl (readable_row 1 rfl rfl)) (List.Sublist.cons _ (List.Sublist.cons _ (List.Sublist.refl _))) ?_
          refine XR.rd rfl rfl rfl (bd53v c l zero32 ⟨rfl, rfl, rfl, rfl, rfl, rfl, trivial⟩) ?_
          refine XR.alt ?_ ?_
          · skip
            refine XR.append (V := ⟨some (b14, #[]), 0, 0⟩) 0 rfl rfl rfl Tryd.underlying35 el53 rfl rfl (vec_zero b14 3) rfl (hnw _) (by simp only; omega) (by simp only; omega) ?_
            intro V1 hV1 hVl1
            simp only [Nat.zero_add] at hVl1
            refine ⟨.inr (List.Sublist.cons _ (List.Sublist.cons _ (List.Sublist.refl _))), ?_⟩
            refine XR.alt ?_ ?_
            · skip
              refine XR.buildL [.agg (newH c l).cs.toArray] (newH c l).cs rfl rfl rfl Tryd.underlying35 el53 rfl (by simp) ⟨rfl, rfl, trivial⟩ rfl rfl (List.Sublist.cons _ (List.Sublist.cons _ (List.Sublist.refl _))) (fun bu => ?_)
              refine XR.alt ?_ ?_
              · skip
                refine XR.append (V := V1) (news := (newH c l).cs) 1 rfl rfl rfl Tryd.underlying35 el53 rfl rfl hV1 rfl (.slice Tryd.underlying35 (.inr (.inr ⟨bu, 0, rfl, fun j v hj => ⟨(newH c l).cs.toArray, 53, (0, 0), by simp, by simpa using hj⟩⟩)) rfl (by simp [Value.oneCell'])) (by omega) (by omega) ?_
                intro V2 hV2 _
                refine ⟨.inr (List.Sublist.cons _ (List.Sublist.cons _ (List.Sublist.cons _ (List.Sublist.refl _)))), ?_⟩
                refine XR.rd rfl rfl rfl (bd37v x.d V2.val ⟨_, _, _, rfl⟩ ⟨rfl, rfl, rfl, rfl, trivial⟩) ?_
                refine XR.alloc (cs := #[.int .i64 0, .int .i64 0, .int .i64 0, .int .i64 0, .slice none 0 0]) rfl rfl rfl zo37 rfl (List.Sublist.cons _ (List.Sublist.cons _ (List.Sublist.cons _ (List.Sublist.refl _)))) (fun b10 => ?_)
                refine XR.store_agg (vs := [.int .i64 x.d.a, .int .i64 x.d.b, .int .i64 x.d.t, .int .i64 x.d.n, V2.val]) 0 rfl rfl z37 rfl rfl (by simp [Value.oneCell']) rfl (by simp) (.inl rfl) ?_
                refine XR.nil ?_
                refine XQ.perm (perm_take [2, 0]) ?_
                refine XQ.drop (List.Sublist.cons_cons _ (List.Sublist.cons_cons _ (List.Sublist.cons _ (List.Sublist.cons _ (List.Sublist.refl _))))) ?_
                refine XQ.joined (V2, b10) (by rw [handC_add]; simpa using hV2) ⟨rfl, rfl, rfl, trivial⟩ rfl (List.Perm.refl _)
              · skip
                refine XR.alloc (cs := #[.int .i64 0, .int .i64 0, .int .i64 0, .int .i64 0, .slice none 0 0]) rfl rfl rfl zo37 rfl (List.Sublist.cons _ (List.Sublist.cons _ (List.Sublist.cons _ (List.Sublist.refl _)))) (fun b10 => ?_)
                refine XR.append (V := V1) (news := (newH c l).cs) 2 rfl rfl rfl Tryd.underlying35 el53 rfl rfl hV1 rfl (.slice Tryd.underlying35 (.inr (.inr ⟨bu, 0, rfl, fun j v hj => ⟨(newH c l).cs.toArray, 53, (0, 0), by simp, by simpa using hj⟩⟩)) rfl (by simp [Value.oneCell'])) (by omega) (by omega) ?_
                intro V2 hV2 _
                refine ⟨.inr (List.Sublist.cons _ (List.Sublist.cons _ (List.Sublist.cons _ (List.Sublist.cons _ (List.Sublist.refl _))))), ?_⟩
                refine XR.rd rfl rfl rfl (bd37v x.d V2.val ⟨_, _, _, rfl⟩ ⟨rfl, rfl, rfl, rfl, trivial⟩) ?_
                refine XR.store_agg (vs := [.int .i64 x.d.a, .int .i64 x.d.b, .int .i64 x.d.t, .int .i64 x.d.n, V2.val]) 0 rfl rfl z37 rfl rfl (by simp [Value.oneCell']) rfl (by simp) (.inl rfl) ?_
                refine XR.nil ?_
                refine XQ.perm (perm_take [2, 0]) ?_
                refine XQ.drop (List.Sublist.cons_cons _ (List.Sublist.cons_cons _ (List.Sublist.cons _ (List.Sublist.cons _ (List.Sublist.refl _))))) ?_
                refine XQ.joined (V2, b10) (by rw [handC_add]; simpa using hV2) ⟨rfl, rfl, rfl, trivial⟩ rfl (List.Perm.refl _)
            · skip
              refine XR.alloc (cs := #[.int .i64 0, .int .i64 0, .int .i64 0, .int .i64 0, .slice none 0 0]) rfl rfl rfl zo37 rfl (List.Sublist.cons _ (List.Sublist.cons _ (List.Sublist.refl _))) (fun b10 => ?_)
              refine XR.buildL [.agg (newH c l).cs.toArray] (newH c l).cs rfl rfl rfl Tryd.underlying35 el53 rfl (by simp) ⟨rfl, rfl, trivial⟩ rfl rfl (List.Sublist.cons _ (List.Sublist.cons _ (List.Sublist.cons _ (List.Sublist.refl _)))) (fun bu => ?_)
              refine XR.append (V := V1) (news := (newH c l).cs) 2 rfl rfl rfl Tryd.underlying35 el53 rfl rfl hV1 rfl (.slice Tryd.underlying35 (.inr (.inr ⟨bu, 0, rfl, fun j v hj => ⟨(newH c l).cs.toArray, 53, (0, 0), by simp, by simpa using hj⟩⟩)) rfl (by simp [Value.oneCell'])) (by omega) (by omega) ?_
              intro V2 hV2 _
              refine ⟨.inr (List.Sublist.cons _ (List.Sublist.cons _ (List.Sublist.cons _ (List.Sublist.cons _ (List.Sublist.refl _))))), ?_⟩
              refine XR.rd rfl rfl rfl (bd37v x.d V2.val ⟨_, _, _, rfl⟩ ⟨rfl, rfl, rfl, rfl, trivial⟩) ?_
              refine XR.store_agg (vs := [.int .i64 x.d.a, .int .i64 x.d.b, .int .i64 x.d.t, .int .i64 x.d.n, V2.val]) 1 rfl rfl z37 rfl rfl (by simp [Value.oneCell']) rfl (by simp) (.inl rfl) ?_
              refine XR.nil ?_
              refine XQ.perm (perm_take [2, 1]) ?_
              refine XQ.drop (List.Sublist.cons_cons _ (List.Sublist.cons_cons _ (List.Sublist.cons _ (List.Sublist.cons _ (List.Sublist.refl _))))) ?_
              refine XQ.joined (V2, b10) (by rw [handC_add]; simpa using hV2) ⟨rfl, rfl, rfl, trivial⟩ rfl (List.Perm.refl _)
          refine XR.alt ?_ ?_
          · skip
            refine XR.buildL [.agg (newH c l).cs.toArray] (newH c l).cs rfl rfl rfl Tryd.underlying35 el53 rfl (by simp) ⟨rfl, rfl, trivial⟩ rfl rfl (List.Sublist.cons _ (List.Sublist.cons _ (List.Sublist.refl _))) (fun bu => ?_)
            refine XR.alt ?_ ?_
            · skip
              refine XR.append (V := ⟨some (b14, #[]), 0, 0⟩) 1 rfl rfl rfl Tryd.underlying35 el53 rfl rfl (vec_zero b14 3) rfl (hnw _) (by simp only; omega) (by simp only; omega) ?_
              intro V1 hV1 hVl1
              simp only [Nat.zero_add] at hVl1
              refine ⟨.inr (List.Sublist.cons _ (List.Sublist.cons _ (List.Sublist.cons _ (List.Sublist.refl _)))), ?_⟩
              refine XR.alt ?_ ?_
              · skip
                refine XR.append (V := V1) (news := (newH c l).cs) 1 rfl rfl rfl Tryd.underlying35 el53 rfl rfl hV1 rfl (.slice Tryd.underlying35 (.inr (.inr ⟨bu, 0, rfl, fun j v hj => ⟨(newH c l).cs.toArray, 53, (0, 0), by simp, by simpa using hj⟩⟩)) rfl (by simp [Value.oneCell'])) (by omega) (by omega) ?_
                intro V2 hV2 _
                refine ⟨.inr (List.Sublist.cons _ (List.Sublist.cons _ (List.Sublist.cons _ (List.Sublist.refl _)))), ?_⟩
                refine XR.rd rfl rfl rfl (bd37v x.d V2.val ⟨_, _, _, rfl⟩ ⟨rfl, rfl, rfl, rfl, trivial⟩) ?_
                refine XR.alloc (cs := #[.int .i64 0, .int .i64 0, .int .i64 0, .int .i64 0, .slice none 0 0]) rfl rfl rfl zo37 rfl (List.Sublist.cons _ (List.Sublist.cons _ (List.Sublist.cons _ (List.Sublist.refl _)))) (fun b10 => ?_)
                refine XR.store_agg (vs := [.int .i64 x.d.a, .int .i64 x.d.b, .int .i64 x.d.t, .int .i64 x.d.n, V2.val]) 0 rfl rfl z37 rfl rfl (by simp [Value.oneCell']) rfl (by simp) (.inl rfl) ?_
                refine XR.nil ?_
                refine XQ.perm (perm_take [2, 0]) ?_
                refine XQ.drop (List.Sublist.cons_cons _ (List.Sublist.cons_cons _ (List.Sublist.cons _ (List.Sublist.cons _ (List.Sublist.refl _))))) ?_
                refine XQ.joined (V2, b10) (by rw [handC_add]; simpa using hV2) ⟨rfl, rfl, rfl, trivial⟩ rfl (List.Perm.refl _)
              · skip
                refine XR.alloc (cs := #[.int .i64 0, .int .i64 0, .int .i64 0, .int .i64 0, .slice none 0 0]) rfl rfl rfl zo37 rfl (List.Sublist.cons _ (List.Sublist.cons _ (List.Sublist.cons _ (List.Sublist.refl _)))) (fun b10 => ?_)
                refine XR.append (V := V1) (news := (newH c l).cs) 2 rfl rfl rfl Tryd.underlying35 el53 rfl rfl hV1 rfl (.slice Tryd.underlying35 (.inr (.inr ⟨bu, 0, rfl, fun j v hj => ⟨(newH c l).cs.toArray, 53, (0, 0), by simp, by simpa using hj⟩⟩)) rfl (by simp [Value.oneCell'])) (by omega) (by omega) ?_
                intro V2 hV2 _
                refine ⟨.inr (List.Sublist.cons _ (List.Sublist.cons _ (List.Sublist.cons _ (List.Sublist.cons _ (List.Sublist.refl _))))), ?_⟩
                refine XR.rd rfl rfl rfl (bd37v x.d V2.val ⟨_, _, _, rfl⟩ ⟨rfl, rfl, rfl, rfl, trivial⟩) ?_
                refine XR.store_agg (vs := [.int .i64 x.d.a, .int .i64 x.d.b, .int .i64 x.d.t, .int .i64 x.d.n, V2.val]) 0 rfl rfl z37 rfl rfl (by simp [Value.oneCell']) rfl (by simp) (.inl rfl) ?_
                refine XR.nil ?_
                refine XQ.perm (perm_take [2, 0]) ?_
                refine XQ.drop (List.Sublist.cons_cons _ (List.Sublist.cons_cons _ (List.Sublist.cons _ (List.Sublist.cons _ (List.Sublist.refl _))))) ?_
                refine XQ.joined (V2, b10) (by rw [handC_add]; simpa using hV2) ⟨rfl, rfl, rfl, trivial⟩ rfl (List.Perm.refl _)
            · skip
              refine XR.alloc (cs := #[.int .i64 0, .int .i64 0, .int .i64 0, .int .i64 0, .slice none 0 0]) rfl rfl rfl zo37 rfl (List.Sublist.cons _ (List.Sublist.cons _ (List.Sublist.cons _ (List.Sublist.refl _)))) (fun b10 => ?_)
              refine XR.append (V := ⟨some (b14, #[]), 0, 0⟩) 2 rfl rfl rfl Tryd.underlying35 el53 rfl rfl (vec_zero b14 3) rfl (hnw _) (by simp only; omega) (by simp only; omega) ?_
              intro V1 hV1 hVl1
              simp only [Nat.zero_add] at hVl1
              refine ⟨.inr (List.Sublist.cons _ (List.Sublist.cons _ (List.Sublist.cons _ (List.Sublist.cons _ (List.Sublist.refl _))))), ?_⟩
              refine XR.append (V := V1) (news := (newH c l).cs) 2 rfl rfl rfl Tryd.underlying35 el53 rfl rfl hV1 rfl (.slice Tryd.underlying35 (.inr (.inr ⟨bu, 0, rfl, fun j v hj => ⟨(newH c l).cs.toArray, 53, (0, 0), by simp, by simpa using hj⟩⟩)) rfl (by simp [Value.oneCell'])) (by omega) (by omega) ?_
              intro V2 hV2 _
              refine ⟨.inr (List.Sublist.cons _ (List.Sublist.cons _ (List.Sublist.cons _ (List.Sublist.cons _ (List.Sublist.refl _))))), ?_⟩
              refine XR.rd rfl rfl rfl (bd37v x.d V2.val ⟨_, _, _, rfl⟩ ⟨rfl, rfl, rfl, rfl, trivial⟩) ?_
              refine XR.store_agg (vs := [.int .i64 x.d.a, .int .i64 x.d.b, .int .i64 x.d.t, .int .i64 x.d.n, V2.val]) 0 rfl rfl z37 rfl rfl (by simp [Value.oneCell']) rfl (by simp) (.inl rfl) ?_
              refine XR.nil ?_
              refine XQ.perm (perm_take [2, 0]) ?_
              refine XQ.drop (List.Sublist.cons_cons _ (List.Sublist.cons_cons _ (List.Sublist.cons _ (List.Sublist.cons _ (List.Sublist.refl _))))) ?_
              refine XQ.joined (V2, b10) (by rw [handC_add]; simpa using hV2) ⟨rfl, rfl, rfl, trivial⟩ rfl (List.Perm.refl _)
          · skip
            refine XR.alloc (cs := #[.int .i64 0, .int .i64 0, .int .i64 0, .int .i64 0, .slice none 0 0]) rfl rfl rfl zo37 rfl (List.Sublist.cons _ (List.Sublist.cons _ (List.Sublist.refl _))) (fun b10 => ?_)
            refine XR.alt ?_ ?_
            · skip
              refine XR.append (V := ⟨some (b14, #[]), 0, 0⟩) 1 rfl rfl rfl Tryd.underlying35 el53 rfl rfl (vec_zero b14 3) rfl (hnw _) (by simp only; omega) (by simp only; omega) ?_
              intro V1 hV1 hVl1
              simp only [Nat.zero_add] at hVl1
              refine ⟨.inr (List.Sublist.cons _ (List.Sublist.cons _ (List.Sublist.cons _ (List.Sublist.refl _)))), ?_⟩
              refine XR.buildL [.agg (newH c l).cs.toArray] (newH c l).cs rfl rfl rfl Tryd.underlying35 el53 rfl (by simp) ⟨rfl, rfl, trivial⟩ rfl rfl (List.Sublist.cons _ (List.Sublist.cons _ (List.Sublist.cons _ (List.Sublist.refl _)))) (fun bu => ?_)
              refine XR.append (V := V1) (news := (newH c l).cs) 2 rfl rfl rfl Tryd.underlying35 el53 rfl rfl hV1 rfl (.slice Tryd.underlying35 (.inr (.inr ⟨bu, 0, rfl, fun j v hj => ⟨(newH c l).cs.toArray, 53, (0, 0), by simp, by simpa using hj⟩⟩)) rfl (by simp [Value.oneCell'])) (by omega) (by omega) ?_
              intro V2 hV2 _
              refine ⟨.inr (List.Sublist.cons _ (List.Sublist.cons _ (List.Sublist.cons _ (List.Sublist.cons _ (List.Sublist.refl _))))), ?_⟩
              refine XR.rd rfl rfl rfl (bd37v x.d V2.val ⟨_, _, _, rfl⟩ ⟨rfl, rfl, rfl, rfl, trivial⟩) ?_
              refine XR.store_agg (vs := [.int .i64 x.d.a, .int .i64 x.d.b, .int .i64 x.d.t, .int .i64 x.d.n, V2.val]) 1 rfl rfl z37 rfl rfl (by simp [Value.oneCell']) rfl (by simp) (.inl rfl) ?_
              refine XR.nil ?_
              refine XQ.perm (perm_take [2, 1]) ?_
              refine XQ.drop (List.Sublist.cons_cons _ (List.Sublist.cons_cons _ (List.Sublist.cons _ (List.Sublist.cons _ (List.Sublist.refl _))))) ?_
              refine XQ.joined (V2, b10) (by rw [handC_add]; simpa using hV2) ⟨rfl, rfl, rfl, trivial⟩ rfl (List.Perm.refl _)
            · skip
              refine XR.buildL [.agg (newH c l).cs.toArray] (newH c l).cs rfl rfl rfl Tryd.underlying35 el53 rfl (by simp) ⟨rfl, rfl, trivial⟩ rfl rfl (List.Sublist.cons _ (List.Sublist.cons _ (List.Sublist.cons _ (List.Sublist.refl _)))) (fun bu => ?_)
              refine XR.append (V := ⟨some (b14, #[]), 0, 0⟩) 2 rfl rfl rfl Tryd.underlying35 el53 rfl rfl (vec_zero b14 3) rfl (hnw _) (by simp only; omega) (by simp only; omega) ?_
              intro V1 hV1 hVl1
              simp only [Nat.zero_add] at hVl1
              refine ⟨.inr (List.Sublist.cons _ (List.Sublist.cons _ (List.Sublist.cons _ (List.Sublist.cons _ (List.Sublist.refl _))))), ?_⟩
              refine XR.append (V := V1) (news := (newH c l).cs) 2 rfl rfl rfl Tryd.underlying35 el53 rfl rfl hV1 rfl (.slice Tryd.underlying35 (.inr (.inr ⟨bu, 0, rfl, fun j v hj => ⟨(newH c l).cs.toArray, 53, (0, 0), by simp, by simpa using hj⟩⟩)) rfl (by simp [Value.oneCell'])) (by omega) (by omega) ?_
              intro V2 hV2 _
              refine ⟨.inr (List.Sublist.cons _ (List.Sublist.cons _ (List.Sublist.cons _ (List.Sublist.cons _ (List.Sublist.refl _))))), ?_⟩
              refine XR.rd rfl rfl rfl (bd37v x.d V2.val ⟨_, _, _, rfl⟩ ⟨rfl, rfl, rfl, rfl, trivial⟩) ?_
              refine XR.store_agg (vs := [.int .i64 x.d.a, .int .i64 x.d.b, .int .i64 x.d.t, .int .i64 x.d.n, V2.val]) 1 rfl rfl z37 rfl rfl (by simp [Value.oneCell']) rfl (by simp) (.inl rfl) ?_
              refine XR.nil ?_
              refine XQ.perm (perm_take [2, 1]) ?_
              refine XQ.drop (List.Sublist.cons_cons _ (List.Sublist.cons_cons _ (List.Sublist.cons _ (List.Sublist.cons _ (List.Sublist.refl _))))) ?_
              refine XQ.joined (V2, b10) (by rw [handC_add]; simpa using hV2) ⟨rfl, rfl, rfl, trivial⟩ rfl (List.Perm.refl _)
        · skip
          refine XR.alloc (cs := #[.int .i64 0, .int .i64 0, .int .i64 0, .int .i64 0, .slice none 0 0]) rfl rfl rfl zo37 rfl (List.Sublist.cons _ (List.Sublist.cons _ (List.Sublist.refl _))) (fun b10 => ?_)
          refine XR.alt ?_ ?_
          · skip
            refine XR.append (V := ⟨some (b14, #[]), 0, 0⟩) 1 rfl rfl rfl Tryd.underlying35 el53 rfl rfl (vec_zero b14 3) rfl (hnw _) (by simp only; omega) (by simp only; omega) ?_
            intro V1 hV1 hVl1
            simp only [Nat.zero_add] at hVl1
            refine ⟨.inr (List.Sublist.cons _ (List.Sublist.cons _ (List.Sublist.cons _ (List.Sublist.refl _)))), ?_⟩
            refine XR.rde rfl rfl rfl rfl (Reads.to_string (bs := List.replicate 32 0) Tryd.underlying98 Tryd.underlying5 Tryd.underlying9 rfl rfl (readable_row 2 rfl rfl)) (List.Sublist.cons _ (List.Sublist.cons _ (List.Sublist.cons _ (List.Sublist.refl _)))) ?_
            refine XR.rd rfl rfl rfl (bd53v c l zero32 ⟨rfl, rfl, rfl, rfl, rfl, rfl, trivial⟩) ?_
            refine XR.buildL [.agg (newH c l).cs.toArray] (newH c l).cs rfl rfl rfl Tryd.underlying35 el53 rfl (by simp) ⟨rfl, rfl, trivial⟩ rfl rfl (List.Sublist.cons _ (List.Sublist.cons _ (List.Sublist.cons _ (List.Sublist.refl _)))) (fun bu => ?_)
            refine XR.append (V := V1) (news := (newH c l).cs) 2 rfl rfl rfl Tryd.underlying35 el53 rfl rfl hV1 rfl (.slice Tryd.underlying35 (.inr (.inr ⟨bu, 0, rfl, fun j v hj => ⟨(newH c l).cs.toArray, 53, (0, 0), by simp, by simpa using hj⟩⟩)) rfl (by simp [Value.oneCell'])) (by omega) (by omega) ?_
            intro V2 hV2 _
            refine ⟨.inr (List.Sublist.cons _ (List.Sublist.cons _ (List.Sublist.cons _ (List.Sublist.cons _ (List.Sublist.refl _))))), ?_⟩
            refine XR.rd rfl rfl rfl (bd37v x.d V2.val ⟨_, _, _, rfl⟩ ⟨rfl, rfl, rfl, rfl, trivial⟩) ?_
            refine XR.store_agg (vs := [.int .i64 x.d.a, .int .i64 x.d.b, .int .i64 x.d.t, .int .i64 x.d.n, V2.val]) 1 rfl rfl z37 rfl rfl (by simp [Value.oneCell']) rfl (by simp) (.inl rfl) ?_
            refine XR.nil ?_
            refine XQ.perm (perm_take [2, 1]) ?_
            refine XQ.drop (List.Sublist.cons_cons _ (List.Sublist.cons_cons _ (List.Sublist.cons _ (List.Sublist.cons _ (List.Sublist.refl _))))) ?_
            refine XQ.joined (V2, b10) (by rw [handC_add]; simpa using hV2) ⟨rfl, rfl, rfl, trivial⟩ rfl (List.Perm.refl _)
          · skip
            refine XR.rde rfl rfl rfl rfl (Reads.to_string (bs := List.replicate 32 0) Tryd.underlying98 Tryd.underlying5 Tryd.underlying9 rfl rfl (readable_row 2 rfl rfl)) (List.Sublist.cons _ (List.Sublist.cons _ (List.Sublist.cons _ (List.Sublist.refl _)))) ?_
            refine XR.rd rfl rfl rfl (bd53v c l zero32 ⟨rfl, rfl, rfl, rfl, rfl, rfl, trivial⟩) ?_
            refine XR.alt ?_ ?_
            · skip
              refine XR.append (V := ⟨some (b14, #[]), 0, 0⟩) 1 rfl rfl rfl Tryd.underlying35 el53 rfl rfl (vec_zero b14 3) rfl (hnw _) (by simp only; omega) (by simp only; omega) ?_
              intro V1 hV1 hVl1
              simp only [Nat.zero_add] at hVl1
              refine ⟨.inr (List.Sublist.cons _ (List.Sublist.cons _ (List.Sublist.cons _ (List.Sublist.refl _)))), ?_⟩
              refine XR.buildL [.agg (newH c l).cs.toArray] (newH c l).cs rfl rfl rfl Tryd.underlying35 el53 rfl (by simp) ⟨rfl, rfl, trivial⟩ rfl rfl (List.Sublist.cons _ (List.Sublist.cons _ (List.Sublist.cons _ (List.Sublist.refl _)))) (fun bu => ?_)
              refine XR.append (V := V1) (news := (newH c l).cs) 2 rfl rfl rfl Tryd.underlying35 el53 rfl rfl hV1 rfl (.slice Tryd.underlying35 (.inr (.inr ⟨bu, 0, rfl, fun j v hj => ⟨(newH c l).cs.toArray, 53, (0, 0), by simp, by simpa using hj⟩⟩)) rfl (by simp [Value.oneCell'])) (by omega) (by omega) ?_
              intro V2 hV2 _
              refine ⟨.inr (List.Sublist.cons _ (List.Sublist.cons _ (List.Sublist.cons _ (List.Sublist.cons _ (List.Sublist.refl _))))), ?_⟩
              refine XR.rd rfl rfl rfl (bd37v x.d V2.val ⟨_, _, _, rfl⟩ ⟨rfl, rfl, rfl, rfl, trivial⟩) ?_
              refine XR.store_agg (vs := [.int .i64 x.d.a, .int .i64 x.d.b, .int .i64 x.d.t, .int .i64 x.d.n, V2.val]) 1 rfl rfl z37 rfl rfl (by simp [Value.oneCell']) rfl (by simp) (.inl rfl) ?_
              refine XR.nil ?_
              refine XQ.perm (perm_take [2, 1]) ?_
              refine XQ.drop (List.Sublist.cons_cons _ (List.Sublist.cons_cons _ (List.Sublist.cons _ (List.Sublist.cons _ (List.Sublist.refl _))))) ?_
              refine XQ.joined (V2, b10) (by rw [handC_add]; simpa using hV2) ⟨rfl, rfl, rfl, trivial⟩ rfl (List.Perm.refl _)
            · skip
              refine XR.buildL [.agg (newH c l).cs.toArray] (newH c l).cs rfl rfl rfl Tryd.underlying35 el53 rfl (by simp) ⟨rfl, rfl, trivial⟩ rfl rfl (List.Sublist.cons _ (List.Sublist.cons _ (List.Sublist.cons _ (List.Sublist.refl _)))) (fun bu => ?_)
              refine XR.append (V := ⟨some (b14, #[]), 0, 0⟩) 2 rfl rfl rfl Tryd.underlying35 el53 rfl rfl (vec_zero b14 3) rfl (hnw _) (by simp only; omega) (by simp only; omega) ?_
              intro V1 hV1 hVl1
              simp only [Nat.zero_add] at hVl1
              refine ⟨.inr (List.Sublist.cons _ (List.Sublist.cons _ (List.Sublist.cons _ (List.Sublist.cons _ (List.Sublist.refl _))))), ?_⟩
              refine XR.append (V := V1) (news := (newH c l).cs) 2 rfl rfl rfl Tryd.underlying35 el53 rfl rfl hV1 rfl (.slice Tryd.underlying35 (.inr (.inr ⟨bu, 0, rfl, fun j v hj => ⟨(newH c l).cs.toArray, 53, (0, 0), by simp, by simpa using hj⟩⟩)) rfl (by simp [Value.oneCell'])) (by omega) (by omega) ?_
              intro V2 hV2 _
              refine ⟨.inr (List.Sublist.cons _ (List.Sublist.cons _ (List.Sublist.cons _ (List.Sublist.cons _ (List.Sublist.refl _))))), ?_⟩
              refine XR.rd rfl rfl rfl (bd37v x.d V2.val ⟨_, _, _, rfl⟩ ⟨rfl, rfl, rfl, rfl, trivial⟩) ?_
              refine XR.store_agg (vs := [.int .i64 x.d.a, .int .i64 x.d.b, .int .i64 x.d.t, .int .i64 x.d.n, V2.val]) 1 rfl rfl z37 rfl rfl (by simp [Value.oneCell']) rfl (by simp) (.inl rfl) ?_
              refine XR.nil ?_
              refine XQ.perm (perm_take [2, 1]) ?_
              refine XQ.drop (List.Sublist.cons_cons _ (List.Sublist.cons_cons _ (List.Sublist.cons _ (List.Sublist.cons _ (List.Sublist.refl _))))) ?_
              refine XQ.joined (V2, b10) (by rw [handC_add]; simpa using hV2) ⟨rfl, rfl, rfl, trivial⟩ rfl (List.Perm.refl _)
      refine XR.alt ?_ ?_
      · skip
        refine XR.rde rfl rfl rfl rfl (Reads.to_string (bs := List.replicate 32 0) Tryd.underlying98 Tryd.underlying5 Tryd.underlying9 rfl rfl (readable_row 0 rfl rfl)) (List.Sublist.cons _ (List.Sublist.refl _)) ?_
        refine XR.rd rfl rfl rfl (bd53v c l zero32 ⟨rfl, rfl, rfl, rfl, rfl, rfl, trivial⟩) ?_
        refine XR.alt ?_ ?_
        · skip
          refine XR.buildL [] [] rfl rfl rfl Tryd.underlying35 el53 rfl (by simp) trivial rfl rfl (List.Sublist.cons _ (List.Sublist.refl _)) (fun b14 => ?_)
          refine XR.alt ?_ ?_
          · skip
            refine XR.append (V := ⟨some (b14, #[]), 0, 0⟩) 0 rfl rfl rfl Tryd.underlying35 el53 rfl rfl (vec_zero b14 3) rfl (hnw _) (by simp only; omega) (by simp only; omega) ?_
            intro V1 hV1 hVl1
            simp only [Nat.zero_add] at hVl1
            refine ⟨.inr (List.Sublist.cons _ (List.Sublist.cons _ (List.Sublist.refl _))), ?_⟩
            refine XR.alt ?_ ?_
            · skip
              refine XR.buildL [.agg (newH c l).cs.toArray] (newH c l).cs rfl rfl rfl Tryd.underlying35 el53 rfl (by simp) ⟨rfl, rfl, trivial⟩ rfl rfl (List.Sublist.cons _ (List.Sublist.cons _ (List.Sublist.refl _))) (fun bu => ?_)
              refine XR.alt ?_ ?_
              · skip
                refine XR.append (V := V1) (news := (newH c l).cs) 1 rfl rfl rfl Tryd.underlying35 el53 rfl rfl hV1 rfl (.slice Tryd.underlying35 (.inr (.inr ⟨bu, 0, rfl, fun j v hj => ⟨(newH c l).cs.toArray, 53, (0, 0), by simp, by simpa using hj⟩⟩)) rfl (by simp [Value.oneCell'])) (by omega) (by omega) ?_
                intro V2 hV2 _
                refine ⟨.inr (List.Sublist.cons _ (List.Sublist.cons _ (List.Sublist.cons _ (List.Sublist.refl _)))), ?_⟩
                refine XR.rd rfl rfl rfl (bd37v x.d V2.val ⟨_, _, _, rfl⟩ ⟨rfl, rfl, rfl, rfl, trivial⟩) ?_
                refine XR.alloc (cs := #[.int .i64 0, .int .i64 0, .int .i64 0, .int .i64 0, .slice none 0 0]) rfl rfl rfl zo37 rfl (List.Sublist.cons _ (List.Sublist.cons _ (List.Sublist.cons _ (List.Sublist.refl _)))) (fun b10 => ?_)
                refine XR.store_agg (vs := [.int .i64 x.d.a, .int .i64 x.d.b, .int .i64 x.d.t, .int .i64 x.d.n, V2.val]) 0 rfl rfl z37 rfl rfl (by simp [Value.oneCell']) rfl (by simp) (.inl rfl) ?_
                refine XR.nil ?_
                refine XQ.perm (perm_take [2, 0]) ?_
                refine XQ.drop (List.Sublist.cons_cons _ (List.Sublist.cons_cons _ (List.Sublist.cons _ (List.Sublist.cons _ (List.Sublist.refl _))))) ?_
                refine XQ.joined (V2, b10) (by rw [handC_add]; simpa using hV2) ⟨rfl, rfl, rfl, trivial⟩ rfl (List.Perm.refl _)
              · skip
                refine XR.alloc (cs := #[.int .i64 0, .int .i64 0, .int .i64 0, .int .i64 0, .slice none 0 0]) rfl rfl rfl zo37 rfl (List.Sublist.cons _ (List.Sublist.cons _ (List.Sublist.cons _ (List.Sublist.refl _)))) (fun b10 => ?_)
                refine XR.append (V := V1) (news := (newH c l).cs) 2 rfl rfl rfl Tryd.underlying35 el53 rfl rfl hV1 rfl (.slice Tryd.underlying35 (.inr (.inr ⟨bu, 0, rfl, fun j v hj => ⟨(newH c l).cs.toArray, 53, (0, 0), by simp, by simpa using hj⟩⟩)) rfl (by simp [Value.oneCell'])) (by omega) (by omega) ?_
                intro V2 hV2 _
                refine ⟨.inr (List.Sublist.cons _ (List.Sublist.cons _ (List.Sublist.cons _ (List.Sublist.cons _ (List.Sublist.refl _))))), ?_⟩
                refine XR.rd rfl rfl rfl (bd37v x.d V2.val ⟨_, _, _, rfl⟩ ⟨rfl, rfl, rfl, rfl, trivial⟩) ?_
                refine XR.store_agg (vs := [.int .i64 x.d.a, .int .i64 x.d.b, .int .i64 x.d.t, .int .i64 x.d.n, V2.val]) 0 rfl rfl z37 rfl rfl (by simp [Value.oneCell']) rfl (by simp) (.inl rfl) ?_
                refine XR.nil ?_
                refine XQ.perm (perm_take [2, 0]) ?_
                refine XQ.drop (List.Sublist.cons_cons _ (List.Sublist.cons_cons _ (List.Sublist.cons _ (List.Sublist.cons _ (List.Sublist.refl _))))) ?_
                refine XQ.joined (V2, b10) (by rw [handC_add]; simpa using hV2) ⟨rfl, rfl, rfl, trivial⟩ rfl (List.Perm.refl _)
            · skip
              refine XR.alloc (cs := #[.int .i64 0, .int .i64 0, .int .i64 0, .int .i64 0, .slice none 0 0]) rfl rfl rfl zo37 rfl (List.Sublist.cons _ (List.Sublist.cons _ (List.Sublist.refl _))) (fun b10 => ?_)
              refine XR.buildL [.agg (newH c l).cs.toArray] (newH c l).cs rfl rfl rfl Tryd.underlying35 el53 rfl (by simp) ⟨rfl, rfl, trivial⟩ rfl rfl (List.Sublist.cons _ (List.Sublist.cons _ (List.Sublist.cons _ (List.Sublist.refl _)))) (fun bu => ?_)
              refine XR.append (V := V1) (news := (newH c l).cs) 2 rfl rfl rfl Tryd.underlying35 el53 rfl rfl hV1 rfl (.slice Tryd.underlying35 (.inr (.inr ⟨bu, 0, rfl, fun j v hj => ⟨(newH c l).cs.toArray, 53, (0, 0), by simp, by simpa using hj⟩⟩)) rfl (by simp [Value.oneCell'])) (by omega) (by omega) ?_
              intro V2 hV2 _
              refine ⟨.inr (List.Sublist.cons _ (List.Sublist.cons _ (List.Sublist.cons _ (List.Sublist.cons _ (List.Sublist.refl _))))), ?_⟩
              refine XR.rd rfl rfl rfl (bd37v x.d V2.val ⟨_, _, _, rfl⟩ ⟨rfl, rfl, rfl, rfl, trivial⟩) ?_
              refine XR.store_agg (vs := [.int .i64 x.d.a, .int .i64 x.d.b, .int .i64 x.d.t, .int .i64 x.d.n, V2.val]) 1 rfl rfl z37 rfl rfl (by simp [Value.oneCell']) rfl (by simp) (.inl rfl) ?_
              refine XR.nil ?_
              refine XQ.perm (perm_take [2, 1]) ?_
              refine XQ.drop (List.Sublist.cons_cons _ (List.Sublist.cons_cons _ (List.Sublist.cons _ (List.Sublist.cons _ (List.Sublist.refl _))))) ?_
              refine XQ.joined (V2, b10) (by rw [handC_add]; simpa using hV2) ⟨rfl, rfl, rfl, trivial⟩ rfl (List.Perm.refl _)
          refine XR.alt ?_ ?_
          · skip
            refine XR.buildL [.agg (newH c l).cs.toArray] (newH c l).cs rfl rfl rfl Tryd.underlying35 el53 rfl (by simp) ⟨rfl, rfl, trivial⟩ rfl rfl (List.Sublist.cons _ (List.Sublist.cons _ (List.Sublist.refl _))) (fun bu => ?_)
            refine XR.alt ?_ ?_
            · skip
              refine XR.append (V := ⟨some (b14, #[]), 0, 0⟩) 1 rfl rfl rfl Tryd.underlying35 el53 rfl rfl (vec_zero b14 3) rfl (hnw _) (by simp only; omega) (by simp only; omega) ?_
              intro V1 hV1 hVl1
              simp only [Nat.zero_add] at hVl1
              refine ⟨.inr (List.Sublist.cons _ (List.Sublist.cons _ (List.Sublist.cons _ (List.Sublist.refl _)))), ?_⟩
              refine XR.alt ?_ ?_
              · skip
                refine XR.append (V := V1) (news := (newH c l).cs) 1 rfl rfl rfl Tryd.underlying35 el53 rfl rfl hV1 rfl (.slice Tryd.underlying35 (.inr (.inr ⟨bu, 0, rfl, fun j v hj => ⟨(newH c l).cs.toArray, 53, (0, 0), by simp, by simpa using hj⟩⟩)) rfl (by simp [Value.oneCell'])) (by omega) (by omega) ?_
                intro V2 hV2 _
                refine ⟨.inr (List.Sublist.cons _ (List.Sublist.cons _ (List.Sublist.cons _ (List.Sublist.refl _)))), ?_⟩
                refine XR.rd rfl rfl rfl (bd37v x.d V2.val ⟨_, _, _, rfl⟩ ⟨rfl, rfl, rfl, rfl, trivial⟩) ?_
                refine XR.alloc (cs := #[.int .i64 0, .int .i64 0, .int .i64 0, .int .i64 0, .slice none 0 0]) rfl rfl rfl zo37 rfl (List.Sublist.cons _ (List.Sublist.cons _ (List.Sublist.cons _ (List.Sublist.refl _)))) (fun b10 => ?_)
                refine XR.store_agg (vs := [.int .i64 x.d.a, .int .i64 x.d.b, .int .i64 x.d.t, .int .i64 x.d.n, V2.val]) 0 rfl rfl z37 rfl rfl (by simp [Value.oneCell']) rfl (by simp) (.inl rfl) ?_
                refine XR.nil ?_
                refine XQ.perm (perm_take [2, 0]) ?_
                refine XQ.drop (List.Sublist.cons_cons _ (List.Sublist.cons_cons _ (List.Sublist.cons _ (List.Sublist.cons _ (List.Sublist.refl _))))) ?_
                refine XQ.joined (V2, b10) (by rw [handC_add]; simpa using hV2) ⟨rfl, rfl, rfl, trivial⟩ rfl (List.Perm.refl _)
              · skip
                refine XR.alloc (cs := #[.int .i64 0, .int .i64 0, .int .i64 0, .int .i64 0, .slice none 0 0]) rfl rfl rfl zo37 rfl (List.Sublist.cons _ (List.Sublist.cons _ (List.Sublist.cons _ (List.Sublist.refl _)))) (fun b10 => ?_)
                refine XR.append (V := V1) (news := (newH c l).cs) 2 rfl rfl rfl Tryd.underlying35 el53 rfl rfl hV1 rfl (.slice Tryd.underlying35 (.inr (.inr ⟨bu, 0, rfl, fun j v hj => ⟨(newH c l).cs.toArray, 53, (0, 0), by simp, by simpa using hj⟩⟩)) rfl (by simp [Value.oneCell'])) (by omega) (by omega) ?_
                intro V2 hV2 _
                refine ⟨.inr (List.Sublist.cons _ (List.Sublist.cons _ (List.Sublist.cons _ (List.Sublist.cons _ (List.Sublist.refl _))))), ?_⟩
                refine XR.rd rfl rfl rfl (bd37v x.d V2.val ⟨_, _, _, rfl⟩ ⟨rfl, rfl, rfl, rfl, trivial⟩) ?_
                refine XR.store_agg (vs := [.int .i64 x.d.a, .int .i64 x.d.b, .int .i64 x.d.t, .int .i64 x.d.n, V2.val]) 0 rfl rfl z37 rfl rfl (by simp [Value.oneCell']) rfl (by simp) (.inl rfl) ?_
                refine XR.nil ?_
                refine XQ.perm (perm_take [2, 0]) ?_
                refine XQ.drop (List.Sublist.cons_cons _ (List.Sublist.cons_cons _ (List.Sublist.cons _ (List.Sublist.cons _ (List.Sublist.refl _))))) ?_
                refine XQ.joined (V2, b10) (by rw [handC_add]; simpa using hV2) ⟨rfl, rfl, rfl, trivial⟩ rfl (List.Perm.refl _)
            · skip
              refine XR.alloc (cs := #[.int .i64 0, .int .i64 0, .int .i64 0, .int .i64 0, .slice none 0 0]) rfl rfl rfl zo37 rfl (List.Sublist.cons _ (List.Sublist.cons _ (List.Sublist.cons _ (List.Sublist.refl _)))) (fun b10 => ?_)
              refine XR.append (V := ⟨some (b14, #[]), 0, 0⟩) 2 rfl rfl rfl Tryd.underlying35 el53 rfl rfl (vec_zero b14 3) rfl (hnw _) (by simp only; omega) (by simp only; omega) ?_
              intro V1 hV1 hVl1
              simp only [Nat.zero_add] at hVl1
              refine ⟨.inr (List.Sublist.cons _ (List.Sublist.cons _ (List.Sublist.cons _ (List.Sublist.cons _ (List.Sublist.refl _))))), ?_⟩
              refine XR.append (V := V1) (news := (newH c l).cs) 2 rfl rfl rfl Tryd.underlying35 el53 rfl rfl hV1 rfl (.slice Tryd.underlying35 (.inr (.inr ⟨bu, 0, rfl, fun j v hj => ⟨(newH c l).cs.toArray, 53, (0, 0), by simp, by simpa using hj⟩⟩)) rfl (by simp [Value.oneCell'])) (by omega) (by omega) ?_
              intro V2 hV2 _
              refine ⟨.inr (List.Sublist.cons _ (List.Sublist.cons _ (List.Sublist.cons _ (List.Sublist.cons _ (List.Sublist.refl _))))), ?_⟩
              refine XR.rd rfl rfl rfl (bd37v x.d V2.val ⟨_, _, _, rfl⟩ ⟨rfl, rfl, rfl, rfl, trivial⟩) ?_
              refine XR.store_agg (vs := [.int .i64 x.d.a, .int .i64 x.d.b, .int .i64 x.d.t, .int .i64 x.d.n, V2.val]) 0 rfl rfl z37 rfl rfl (by simp [Value.oneCell']) rfl (by simp) (.inl rfl) ?_
              refine XR.nil ?_
              refine XQ.perm (perm_take [2, 0]) ?_
              refine XQ.drop (List.Sublist.cons_cons _ (List.Sublist.cons_cons _ (List.Sublist.cons _ (List.Sublist.cons _ (List.Sublist.refl _))))) ?_
              refine XQ.joined (V2, b10) (by rw [handC_add]; simpa using hV2) ⟨rfl, rfl, rfl, trivial⟩ rfl (List.Perm.refl _)
          · skip
            refine XR.alloc (cs := #[.int .i64 0, .int .i64 0, .int .i64 0, .int .i64 0, .slice none 0 0]) rfl rfl rfl zo37 rfl (List.Sublist.cons _ (List.Sublist.cons _ (List.Sublist.refl _))) (fun b10 => ?_)
            refine XR.alt ?_ ?_
            · skip
              refine XR.append (V := ⟨some (b14, #[]), 0, 0⟩) 1 rfl rfl rfl Tryd.underlying35 el53 rfl rfl (vec_zero b14 3) rfl (hnw _) (by simp only; omega) (by simp only; omega) ?_
              intro V1 hV1 hVl1
              simp only [Nat.zero_add] at hVl1
              refine ⟨.inr (List.Sublist.cons _ (List.Sublist.cons _ (List.Sublist.cons _ (List.Sublist.refl _)))), ?_⟩
              refine XR.buildL [.agg (newH c l).cs.toArray] (newH c l).cs rfl rfl rfl Tryd.underlying35 el53 rfl (by simp) ⟨rfl, rfl, trivial⟩ rfl rfl (List.Sublist.cons _ (List.Sublist.cons _ (List.Sublist.cons _ (List.Sublist.refl _)))) (fun bu => ?_)
              refine XR.append (V := V1) (news := (newH c l).cs) 2 rfl rfl rfl Tryd.underlying35 el53 rfl rfl hV1 rfl (.slice Tryd.underlying35 (.inr (.inr ⟨bu, 0, rfl, fun j v hj => ⟨(newH c l).cs.toArray, 53, (0, 0), by simp, by simpa using hj⟩⟩)) rfl (by simp [Value.oneCell'])) (by omega) (by omega) ?_
              intro V2 hV2 _
              refine ⟨.inr (List.Sublist.cons _ (List.Sublist.cons _ (List.Sublist.cons _ (List.Sublist.cons _ (List.Sublist.refl _))))), ?_⟩
              refine XR.rd rfl rfl rfl (bd37v x.d V2.val ⟨_, _, _, rfl⟩ ⟨rfl, rfl, rfl, rfl, trivial⟩) ?_
              refine XR.store_agg (vs := [.int .i64 x.d.a, .int .i64 x.d.b, .int .i64 x.d.t, .int .i64 x.d.n, V2.val]) 1 rfl rfl z37 rfl rfl (by simp [Value.oneCell']) rfl (by simp) (.inl rfl) ?_
              refine XR.nil ?_
              refine XQ.perm (perm_take [2, 1]) ?_
              refine XQ.drop (List.Sublist.cons_cons _ (List.Sublist.cons_cons _ (List.Sublist.cons _ (List.Sublist.cons _ (List.Sublist.refl _))))) ?_
              refine XQ.joined (V2, b10) (by rw [handC_add]; simpa using hV2) ⟨rfl, rfl, rfl, trivial⟩ rfl (List.Perm.refl _)
            · skip
              refine XR.buildL [.agg (newH c l).cs.toArray] (newH c l).cs rfl rfl rfl Tryd.underlying35 el53 rfl (by simp) ⟨rfl, rfl, trivial⟩ rfl rfl (List.Sublist.cons _ (List.Sublist.cons _ (List.Sublist.cons _ (List.Sublist.refl _)))) (fun bu => ?_)
              refine XR.append (V := ⟨some (b14, #[]), 0, 0⟩) 2 rfl rfl rfl Tryd.underlying35 el53 rfl rfl (vec_zero b14 3) rfl (hnw _) (by simp only; omega) (by simp only; omega) ?_
              intro V1 hV1 hVl1
              simp only [Nat.zero_add] at hVl1
              refine ⟨.inr (List.Sublist.cons _ (List.Sublist.cons _ (List.Sublist.cons _ (List.Sublist.cons _ (List.Sublist.refl _))))), ?_⟩
              refine XR.append (V := V1) (news := (newH c l).cs) 2 rfl rfl rfl Tryd.underlying35 el53 rfl rfl hV1 rfl (.slice Tryd.underlying35 (.inr (.inr ⟨bu, 0, rfl, fun j v hj => ⟨(newH c l).cs.toArray, 53, (0, 0), by simp, by simpa using hj⟩⟩)) rfl (by simp [Value.oneCell'])) (by omega) (by omega) ?_
              intro V2 hV2 _
              refine ⟨.inr (List.Sublist.cons _ (List.Sublist.cons _ (List.Sublist.cons _ (List.Sublist.cons _ (List.Sublist.refl _))))), ?_⟩
              refine XR.rd rfl rfl rfl (bd37v x.d V2.val ⟨_, _, _, rfl⟩ ⟨rfl, rfl, rfl, rfl, trivial⟩) ?_
              refine XR.store_agg (vs := [.int .i64 x.d.a, .int .i64 x.d.b, .int .i64 x.d.t, .int .i64 x.d.n, V2.val]) 1 rfl rfl z37 rfl rfl (by simp [Value.oneCell']) rfl (by simp) (.inl rfl) ?_
              refine XR.nil ?_
              refine XQ.perm (perm_take [2, 1]) ?_
              refine XQ.drop (List.Sublist.cons_cons _ (List.Sublist.cons_cons _ (List.Sublist.cons _ (List.Sublist.cons _ (List.Sublist.refl _))))) ?_
              refine XQ.joined (V2, b10) (by rw [handC_add]; simpa using hV2) ⟨rfl, rfl, rfl, trivial⟩ rfl (List.Perm.refl _)
        refine XR.alt ?_ ?_
        · skip
          refine XR.buildL [.agg (newH c l).cs.toArray] (newH c l).cs rfl rfl rfl Tryd.underlying35 el53 rfl (by simp) ⟨rfl, rfl, trivial⟩ rfl rfl (List.Sublist.cons _ (List.Sublist.refl _)) (fun bu => ?_)
          refine XR.alt ?_ ?_
          · skip
            refine XR.buildL [] [] rfl rfl rfl Tryd.underlying35 el53 rfl (by simp) trivial rfl rfl (List.Sublist.cons _ (List.Sublist.cons _ (List.Sublist.refl _))) (fun b14 => ?_)
            refine XR.alt ?_ ?_
            · skip
              refine XR.append (V := ⟨some (b14, #[]), 0, 0⟩) 0 rfl rfl rfl Tryd.underlying35 el53 rfl rfl (vec_zero b14 3) rfl (hnw _) (by simp only; omega) (by simp only; omega) ?_
              intro V1 hV1 hVl1
              simp only [Nat.zero_add] at hVl1
              refine ⟨.inr (List.Sublist.cons _ (List.Sublist.cons _ (List.Sublist.cons _ (List.Sublist.refl _)))), ?_⟩
              refine XR.alt ?_ ?_
              · skip
                refine XR.append (V := V1) (news := (newH c l).cs) 0 rfl rfl rfl Tryd.underlying35 el53 rfl rfl hV1 rfl (.slice Tryd.underlying35 (.inr (.inr ⟨bu, 0, rfl, fun j v hj => ⟨(newH c l).cs.toArray, 53, (0, 0), by simp, by simpa using hj⟩⟩)) rfl (by simp [Value.oneCell'])) (by omega) (by omega) ?_
                intro V2 hV2 _
                refine ⟨.inr (List.Sublist.cons _ (List.Sublist.cons _ (List.Sublist.cons _ (List.Sublist.refl _)))), ?_⟩
                refine XR.rd rfl rfl rfl (bd37v x.d V2.val ⟨_, _, _, rfl⟩ ⟨rfl, rfl, rfl, rfl, trivial⟩) ?_
                refine XR.alloc (cs := #[.int .i64 0, .int .i64 0, .int .i64 0, .int .i64 0, .slice none 0 0]) rfl rfl rfl zo37 rfl (List.Sublist.cons _ (List.Sublist.cons _ (List.Sublist.cons _ (List.Sublist.refl _)))) (fun b10 => ?_)
                refine XR.store_agg (vs := [.int .i64 x.d.a, .int .i64 x.d.b, .int .i64 x.d.t, .int .i64 x.d.n, V2.val]) 0 rfl rfl z37 rfl rfl (by simp [Value.oneCell']) rfl (by simp) (.inl rfl) ?_
                refine XR.nil ?_
                refine XQ.perm (perm_take [1, 0]) ?_
                refine XQ.drop (List.Sublist.cons_cons _ (List.Sublist.cons_cons _ (List.Sublist.cons _ (List.Sublist.cons _ (List.Sublist.refl _))))) ?_
                refine XQ.joined (V2, b10) (by rw [handC_add]; simpa using hV2) ⟨rfl, rfl, rfl, trivial⟩ rfl (List.Perm.refl _)
              · skip
                refine XR.alloc (cs := #[.int .i64 0, .int .i64 0, .int .i64 0, .int .i64 0, .slice none 0 0]) rfl rfl rfl zo37 rfl (List.Sublist.cons _ (List.Sublist.cons _ (List.Sublist.cons _ (List.Sublist.refl _)))) (fun b10 => ?_)
                refine XR.append (V := V1) (news := (newH c l).cs) 1 rfl rfl rfl Tryd.underlying35 el53 rfl rfl hV1 rfl (.slice Tryd.underlying35 (.inr (.inr ⟨bu, 0, rfl, fun j v hj => ⟨(newH c l).cs.toArray, 53, (0, 0), by simp, by simpa using hj⟩⟩)) rfl (by simp [Value.oneCell'])) (by omega) (by omega) ?_
                intro V2 hV2 _
                refine ⟨.inr (List.Sublist.cons _ (List.Sublist.cons _ (List.Sublist.cons _ (List.Sublist.cons _ (List.Sublist.refl _))))), ?_⟩
                refine XR.rd rfl rfl rfl (bd37v x.d V2.val ⟨_, _, _, rfl⟩ ⟨rfl, rfl, rfl, rfl, trivial⟩) ?_
                refine XR.store_agg (vs := [.int .i64 x.d.a, .int .i64 x.d.b, .int .i64 x.d.t, .int .i64 x.d.n, V2.val]) 0 rfl rfl z37 rfl rfl (by simp [Value.oneCell']) rfl (by simp) (.inl rfl) ?_
                refine XR.nil ?_
                refine XQ.perm (perm_take [1, 0]) ?_
                refine XQ.drop (List.Sublist.cons_cons _ (List.Sublist.cons_cons _ (List.Sublist.cons _ (List.Sublist.cons _ (List.Sublist.refl _))))) ?_
                refine XQ.joined (V2, b10) (by rw [handC_add]; simpa using hV2) ⟨rfl, rfl, rfl, trivial⟩ rfl (List.Perm.refl _)
            · skip
              refine XR.alloc (cs := #[.int .i64 0, .int .i64 0, .int .i64 0, .int .i64 0, .slice none 0 0]) rfl rfl rfl zo37 rfl (List.Sublist.cons _ (List.Sublist.cons _ (List.Sublist.cons _ (List.Sublist.refl _)))) (fun b10 => ?_)
              refine XR.append (V := ⟨some (b14, #[]), 0, 0⟩) 1 rfl rfl rfl Tryd.underlying35 el53 rfl rfl (vec_zero b14 3) rfl (hnw _) (by simp only; omega) (by simp only; omega) ?_
              intro V1 hV1 hVl1
              simp only [Nat.zero_add] at hVl1
              refine ⟨.inr (List.Sublist.cons _ (List.Sublist.cons _ (List.Sublist.cons _ (List.Sublist.cons _ (List.Sublist.refl _))))), ?_⟩
              refine XR.append (V := V1) (news := (newH c l).cs) 1 rfl rfl rfl Tryd.underlying35 el53 rfl rfl hV1 rfl (.slice Tryd.underlying35 (.inr (.inr ⟨bu, 0, rfl, fun j v hj => ⟨(newH c l).cs.toArray, 53, (0, 0), by simp, by simpa using hj⟩⟩)) rfl (by simp [Value.oneCell'])) (by omega) (by omega) ?_
              intro V2 hV2 _
              refine ⟨.inr (List.Sublist.cons _ (List.Sublist.cons _ (List.Sublist.cons _ (List.Sublist.cons _ (List.Sublist.refl _))))), ?_⟩
              refine XR.rd rfl rfl rfl (bd37v x.d V2.val ⟨_, _, _, rfl⟩ ⟨rfl, rfl, rfl, rfl, trivial⟩) ?_
              refine XR.store_agg (vs := [.int .i64 x.d.a, .int .i64 x.d.b, .int .i64 x.d.t, .int .i64 x.d.n, V2.val]) 0 rfl rfl z37 rfl rfl (by simp [Value.oneCell']) rfl (by simp) (.inl rfl) ?_
              refine XR.nil ?_
              refine XQ.perm (perm_take [1, 0]) ?_
              refine XQ.drop (List.Sublist.cons_cons _ (List.Sublist.cons_cons _ (List.Sublist.cons _ (List.Sublist.cons _ (List.Sublist.refl _))))) ?_
              refine XQ.joined (V2, b10) (by rw [handC_add]; simpa using hV2) ⟨rfl, rfl, rfl, trivial⟩ rfl (List.Perm.refl _)
          · skip
            refine XR.alloc (cs := #[.int .i64 0, .int .i64 0, .int .i64 0, .int .i64 0, .slice none 0 0]) rfl rfl rfl zo37 rfl (List.Sublist.cons _ (List.Sublist.cons _ (List.Sublist.refl _))) (fun b10 => ?_)
            refine XR.buildL [] [] rfl rfl rfl Tryd.underlying35 el53 rfl (by simp) trivial rfl rfl (List.Sublist.cons _ (List.Sublist.cons _ (List.Sublist.cons _ (List.Sublist.refl _)))) (fun b14 => ?_)
            refine XR.append (V := ⟨some (b14, #[]), 0, 0⟩) 0 rfl rfl rfl Tryd.underlying35 el53 rfl rfl (vec_zero b14 3) rfl (hnw _) (by simp only; omega) (by simp only; omega) ?_
            intro V1 hV1 hVl1
            simp only [Nat.zero_add] at hVl1
            refine ⟨.inr (List.Sublist.cons _ (List.Sublist.cons _ (List.Sublist.cons _ (List.Sublist.cons _ (List.Sublist.refl _))))), ?_⟩
            refine XR.append (V := V1) (news := (newH c l).cs) 0 rfl rfl rfl Tryd.underlying35 el53 rfl rfl hV1 rfl (.slice Tryd.underlying35 (.inr (.inr ⟨bu, 0, rfl, fun j v hj => ⟨(newH c l).cs.toArray, 53, (0, 0), by simp, by simpa using hj⟩⟩)) rfl (by simp [Value.oneCell'])) (by omega) (by omega) ?_
            intro V2 hV2 _
            refine ⟨.inr (List.Sublist.cons _ (List.Sublist.cons _ (List.Sublist.cons _ (List.Sublist.cons _ (List.Sublist.refl _))))), ?_⟩
            refine XR.rd rfl rfl rfl (bd37v x.d V2.val ⟨_, _, _, rfl⟩ ⟨rfl, rfl, rfl, rfl, trivial⟩) ?_
            refine XR.store_agg (vs := [.int .i64 x.d.a, .int .i64 x.d.b, .int .i64 x.d.t, .int .i64 x.d.n, V2.val]) 1 rfl rfl z37 rfl rfl (by simp [Value.oneCell']) rfl (by simp) (.inl rfl) ?_
            refine XR.nil ?_
            refine XQ.perm (perm_take [0, 0]) ?_
            refine XQ.drop (List.Sublist.cons_cons _ (List.Sublist.cons_cons _ (List.Sublist.cons _ (List.Sublist.cons _ (List.Sublist.refl _))))) ?_
            refine XQ.joined (V2, b10) (by rw [handC_add]; simpa using hV2) ⟨rfl, rfl, rfl, trivial⟩ rfl (List.Perm.refl _)
        · skip
          refine XR.alloc (cs := #[.int .i64 0, .int .i64 0, .int .i64 0, .int .i64 0, .slice none 0 0]) rfl rfl rfl zo37 rfl (List.Sublist.cons _ (List.Sublist.refl _)) (fun b10 => ?_)
          refine XR.alt ?_ ?_
          · skip
            refine XR.buildL [] [] rfl rfl rfl Tryd.underlying35 el53 rfl (by simp) trivial rfl rfl (List.Sublist.cons _ (List.Sublist.cons _ (List.Sublist.refl _))) (fun b14 => ?_)
            refine XR.alt ?_ ?_
            · skip
              refine XR.append (V := ⟨some (b14, #[]), 0, 0⟩) 0 rfl rfl rfl Tryd.underlying35 el53 rfl rfl (vec_zero b14 3) rfl (hnw _) (by simp only; omega) (by simp only; omega) ?_
              intro V1 hV1 hVl1
              simp only [Nat.zero_add] at hVl1
              refine ⟨.inr (List.Sublist.cons _ (List.Sublist.cons _ (List.Sublist.cons _ (List.Sublist.refl _)))), ?_⟩
              refine XR.buildL [.agg (newH c l).cs.toArray] (newH c l).cs rfl rfl rfl Tryd.underlying35 el53 rfl (by simp) ⟨rfl, rfl, trivial⟩ rfl rfl (List.Sublist.cons _ (List.Sublist.cons _ (List.Sublist.cons _ (List.Sublist.refl _)))) (fun bu => ?_)
              refine XR.append (V := V1) (news := (newH c l).cs) 1 rfl rfl rfl Tryd.underlying35 el53 rfl rfl hV1 rfl (.slice Tryd.underlying35 (.inr (.inr ⟨bu, 0, rfl, fun j v hj => ⟨(newH c l).cs.toArray, 53, (0, 0), by simp, by simpa using hj⟩⟩)) rfl (by simp [Value.oneCell'])) (by omega) (by omega) ?_
              intro V2 hV2 _
              refine ⟨.inr (List.Sublist.cons _ (List.Sublist.cons _ (List.Sublist.cons _ (List.Sublist.cons _ (List.Sublist.refl _))))), ?_⟩
              refine XR.rd rfl rfl rfl (bd37v x.d V2.val ⟨_, _, _, rfl⟩ ⟨rfl, rfl, rfl, rfl, trivial⟩) ?_
              refine XR.store_agg (vs := [.int .i64 x.d.a, .int .i64 x.d.b, .int .i64 x.d.t, .int .i64 x.d.n, V2.val]) 2 rfl rfl z37 rfl rfl (by simp [Value.oneCell']) rfl (by simp) (.inl rfl) ?_
              refine XR.nil ?_
              refine XQ.perm (perm_take [1, 1]) ?_
              refine XQ.drop (List.Sublist.cons_cons _ (List.Sublist.cons_cons _ (List.Sublist.cons _ (List.Sublist.cons _ (List.Sublist.refl _))))) ?_
              refine XQ.joined (V2, b10) (by rw [handC_add]; simpa using hV2) ⟨rfl, rfl, rfl, trivial⟩ rfl (List.Perm.refl _)
            · skip
              refine XR.buildL [.agg (newH c l).cs.toArray] (newH c l).cs rfl rfl rfl Tryd.underlying35 el53 rfl (by simp) ⟨rfl, rfl, trivial⟩ rfl rfl (List.Sublist.cons _ (List.Sublist.cons _ (List.Sublist.cons _ (List.Sublist.refl _)))) (fun bu => ?_)
              refine XR.append (V := ⟨some (b14, #[]), 0, 0⟩) 1 rfl rfl rfl Tryd.underlying35 el53 rfl rfl (vec_zero b14 3) rfl (hnw _) (by simp only; omega) (by simp only; omega) ?_
              intro V1 hV1 hVl1
              simp only [Nat.zero_add] at hVl1
              refine ⟨.inr (List.Sublist.cons _ (List.Sublist.cons _ (List.Sublist.cons _ (List.Sublist.cons _ (List.Sublist.refl _))))), ?_⟩
              refine XR.append (V := V1) (news := (newH c l).cs) 1 rfl rfl rfl Tryd.underlying35 el53 rfl rfl hV1 rfl (.slice Tryd.underlying35 (.inr (.inr ⟨bu, 0, rfl, fun j v hj => ⟨(newH c l).cs.toArray, 53, (0, 0), by simp, by simpa using hj⟩⟩)) rfl (by simp [Value.oneCell'])) (by omega) (by omega) ?_
              intro V2 hV2 _
              refine ⟨.inr (List.Sublist.cons _ (List.Sublist.cons _ (List.Sublist.cons _ (List.Sublist.cons _ (List.Sublist.refl _))))), ?_⟩
              refine XR.rd rfl rfl rfl (bd37v x.d V2.val ⟨_, _, _, rfl⟩ ⟨rfl, rfl, rfl, rfl, trivial⟩) ?_
              refine XR.store_agg (vs := [.int .i64 x.d.a, .int .i64 x.d.b, .int .i64 x.d.t, .int .i64 x.d.n, V2.val]) 2 rfl rfl z37 rfl rfl (by simp [Value.oneCell']) rfl (by simp) (.inl rfl) ?_
              refine XR.nil ?_
              refine XQ.perm (perm_take [1, 1]) ?_
              refine XQ.drop (List.Sublist.cons_cons _ (List.Sublist.cons_cons _ (List.Sublist.cons _ (List.Sublist.cons _ (List.Sublist.refl _))))) ?_
              refine XQ.joined (V2, b10) (by rw [handC_add]; simpa using hV2) ⟨rfl, rfl, rfl, trivial⟩ rfl (List.Perm.refl _)
          · skip
            refine XR.buildL [.agg (newH c l).cs.toArray] (newH c l).cs rfl rfl rfl Tryd.underlying35 el53 rfl (by simp) ⟨rfl, rfl, trivial⟩ rfl rfl (List.Sublist.cons _ (List.Sublist.cons _ (List.Sublist.refl _))) (fun bu => ?_)
            refine XR.buildL [] [] rfl rfl rfl Tryd.underlying35 el53 rfl (by simp) trivial rfl rfl (List.Sublist.cons _ (List.Sublist.cons _ (List.Sublist.cons _ (List.Sublist.refl _)))) (fun b14 => ?_)
            refine XR.append (V := ⟨some (b14, #[]), 0, 0⟩) 0 rfl rfl rfl Tryd.underlying35 el53 rfl rfl (vec_zero b14 3) rfl (hnw _) (by simp only; omega) (by simp only; omega) ?_
            intro V1 hV1 hVl1
            simp only [Nat.zero_add] at hVl1
            refine ⟨.inr (List.Sublist.cons _ (List.Sublist.cons _ (List.Sublist.cons _ (List.Sublist.cons _ (List.Sublist.refl _))))), ?_⟩
            refine XR.append (V := V1) (news := (newH c l).cs) 0 rfl rfl rfl Tryd.underlying35 el53 rfl rfl hV1 rfl (.slice Tryd.underlying35 (.inr (.inr ⟨bu, 0, rfl, fun j v hj => ⟨(newH c l).cs.toArray, 53, (0, 0), by simp, by simpa using hj⟩⟩)) rfl (by simp [Value.oneCell'])) (by omega) (by omega) ?_
            intro V2 hV2 _
            refine ⟨.inr (List.Sublist.cons _ (List.Sublist.cons _ (List.Sublist.cons _ (List.Sublist.cons _ (List.Sublist.refl _))))), ?_⟩
            refine XR.rd rfl rfl rfl (bd37v x.d V2.val ⟨_, _, _, rfl⟩ ⟨rfl, rfl, rfl, rfl, trivial⟩) ?_
            refine XR.store_agg (vs := [.int .i64 x.d.a, .int .i64 x.d.b, .int .i64 x.d.t, .int .i64 x.d.n, V2.val]) 2 rfl rfl z37 rfl rfl (by simp [Value.oneCell']) rfl (by simp) (.inl rfl) ?_
            refine XR.nil ?_
            refine XQ.perm (perm_take [0, 1]) ?_
            refine XQ.drop (List.Sublist.cons_cons _ (List.Sublist.cons_cons _ (List.Sublist.cons _ (List.Sublist.cons _ (List.Sublist.refl _))))) ?_
            refine XQ.joined (V2, b10) (by rw [handC_add]; simpa using hV2) ⟨rfl, rfl, rfl, trivial⟩ rfl (List.Perm.refl _)
      · skip
        refine XR.alloc (cs := #[.int .i64 0, .int .i64 0, .int .i64 0, .int .i64 0, .slice none 0 0]) rfl rfl rfl zo37 rfl (List.Sublist.cons _ (List.Sublist.refl _)) (fun b10 => ?_)
        refine XR.alt ?_ ?_
        · skip
          refine XR.buildL [] [] rfl rfl rfl Tryd.underlying35 el53 rfl (by simp) trivial rfl rfl (List.Sublist.cons _ (List.Sublist.cons _ (List.Sublist.refl _))) (fun b14 => ?_)
          refine XR.alt ?_ ?_
          · skip
            refine XR.append (V := ⟨some (b14, #[]), 0, 0⟩) 0 rfl rfl rfl Tryd.underlying35 el53 rfl rfl (vec_zero b14 3) rfl (hnw _) (by simp only; omega) (by simp only; omega) ?_
            intro V1 hV1 hVl1
            simp only [Nat.zero_add] at hVl1
            refine ⟨.inr (List.Sublist.cons _ (List.Sublist.cons _ (List.Sublist.cons _ (List.Sublist.refl _)))), ?_⟩
            refine XR.rde rfl rfl rfl rfl (Reads.to_string (bs := List.replicate 32 0) Tryd.underlying98 Tryd.underlying5 Tryd.underlying9 rfl rfl (readable_row 2 rfl rfl)) (List.Sublist.cons _ (List.Sublist.cons _ (List.Sublist.cons _ (List.Sublist.refl _)))) ?_
            refine XR.rd rfl rfl rfl (bd53v c l zero32 ⟨rfl, rfl, rfl, rfl, rfl, rfl, trivial⟩) ?_
            refine XR.buildL [.agg (newH c l).cs.toArray] (newH c l).cs rfl rfl rfl Tryd.underlying35 el53 rfl (by simp) ⟨rfl, rfl, trivial⟩ rfl rfl (List.Sublist.cons _ (List.Sublist.cons _ (List.Sublist.cons _ (List.Sublist.refl _)))) (fun bu => ?_)
            refine XR.append (V := V1) (news := (newH c l).cs) 1 rfl rfl rfl Tryd.underlying35 el53 rfl rfl hV1 rfl (.slice Tryd.underlying35 (.inr (.inr ⟨bu, 0, rfl, fun j v hj => ⟨(newH c l).cs.toArray, 53, (0, 0), by simp, by simpa using hj⟩⟩)) rfl (by simp [Value.oneCell'])) (by omega) (by omega) ?_
            intro V2 hV2 _
            refine ⟨.inr (List.Sublist.cons _ (List.Sublist.cons _ (List.Sublist.cons _ (List.Sublist.cons _ (List.Sublist.refl _))))), ?_⟩
            refine XR.rd rfl rfl rfl (bd37v x.d V2.val ⟨_, _, _, rfl⟩ ⟨rfl, rfl, rfl, rfl, trivial⟩) ?_
            refine XR.store_agg (vs := [.int .i64 x.d.a, .int .i64 x.d.b, .int .i64 x.d.t, .int .i64 x.d.n, V2.val]) 2 rfl rfl z37 rfl rfl (by simp [Value.oneCell']) rfl (by simp) (.inl rfl) ?_
            refine XR.nil ?_
            refine XQ.perm (perm_take [1, 1]) ?_
            refine XQ.drop (List.Sublist.cons_cons _ (List.Sublist.cons_cons _ (List.Sublist.cons _ (List.Sublist.cons _ (List.Sublist.refl _))))) ?_
            refine XQ.joined (V2, b10) (by rw [handC_add]; simpa using hV2) ⟨rfl, rfl, rfl, trivial⟩ rfl (List.Perm.refl _)
          · skip
            refine XR.rde rfl rfl rfl rfl (Reads.to_string (bs := List.replicate 32 0) Tryd.underlying98 Tryd.underlying5 Tryd.underlying9 rfl rfl (readable_row 2 rfl rfl)) (List.Sublist.cons _ (List.Sublist.cons _ (List.Sublist.cons _ (List.Sublist.refl _)))) ?_
            refine XR.rd rfl rfl rfl (bd53v c l zero32 ⟨rfl, rfl, rfl, rfl, rfl, rfl, trivial⟩) ?_
            refine XR.alt ?_ ?_
            · skip
              refine XR.append (V := ⟨some (b14, #[]), 0, 0⟩) 0 rfl rfl rfl Tryd.underlying35 el53 rfl rfl (vec_zero b14 3) rfl (hnw _) (by simp only; omega) (by simp only; omega) ?_
              intro V1 hV1 hVl1
              simp only [Nat.zero_add] at hVl1
              refine ⟨.inr (List.Sublist.cons _ (List.Sublist.cons _ (List.Sublist.cons _ (List.Sublist.refl _)))), ?_⟩
              refine XR.buildL [.agg (newH c l).cs.toArray] (newH c l).cs rfl rfl rfl Tryd.underlying35 el53 rfl (by simp) ⟨rfl, rfl, trivial⟩ rfl rfl (List.Sublist.cons _ (List.Sublist.cons _ (List.Sublist.cons _ (List.Sublist.refl _)))) (fun bu => ?_)
              refine XR.append (V := V1) (news := (newH c l).cs) 1 rfl rfl rfl Tryd.underlying35 el53 rfl rfl hV1 rfl (.slice Tryd.underlying35 (.inr (.inr ⟨bu, 0, rfl, fun j v hj => ⟨(newH c l).cs.toArray, 53, (0, 0), by simp, by simpa using hj⟩⟩)) rfl (by simp [Value.oneCell'])) (by omega) (by omega) ?_
              intro V2 hV2 _
              refine ⟨.inr (List.Sublist.cons _ (List.Sublist.cons _ (List.Sublist.cons _ (List.Sublist.cons _ (List.Sublist.refl _))))), ?_⟩
              refine XR.rd rfl rfl rfl (bd37v x.d V2.val ⟨_, _, _, rfl⟩ ⟨rfl, rfl, rfl, rfl, trivial⟩) ?_
              refine XR.store_agg (vs := [.int .i64 x.d.a, .int .i64 x.d.b, .int .i64 x.d.t, .int .i64 x.d.n, V2.val]) 2 rfl rfl z37 rfl rfl (by simp [Value.oneCell']) rfl (by simp) (.inl rfl) ?_
              refine XR.nil ?_
              refine XQ.perm (perm_take [1, 1]) ?_
              refine XQ.drop (List.Sublist.cons_cons _ (List.Sublist.cons_cons _ (List.Sublist.cons _ (List.Sublist.cons _ (List.Sublist.refl _))))) ?_
              refine XQ.joined (V2, b10) (by rw [handC_add]; simpa using hV2) ⟨rfl, rfl, rfl, trivial⟩ rfl (List.Perm.refl _)
            · skip
              refine XR.buildL [.agg (newH c l).cs.toArray] (newH c l).cs rfl rfl rfl Tryd.underlying35 el53 rfl (by simp) ⟨rfl, rfl, trivial⟩ rfl rfl (List.Sublist.cons _ (List.Sublist.cons _ (List.Sublist.cons _ (List.Sublist.refl _)))) (fun bu => ?_)
              refine XR.append (V := ⟨some (b14, #[]), 0, 0⟩) 1 rfl rfl rfl Tryd.underlying35 el53 rfl rfl (vec_zero b14 3) rfl (hnw _) (by simp only; omega) (by simp only; omega) ?_
              intro V1 hV1 hVl1
              simp only [Nat.zero_add] at hVl1
              refine ⟨.inr (List.Sublist.cons _ (List.Sublist.cons _ (List.Sublist.cons _ (List.Sublist.cons _ (List.Sublist.refl _))))), ?_⟩
              refine XR.append (V := V1) (news := (newH c l).cs) 1 rfl rfl rfl Tryd.underlying35 el53 rfl rfl hV1 rfl (.slice Tryd.underlying35 (.inr (.inr ⟨bu, 0, rfl, fun j v hj => ⟨(newH c l).cs.toArray, 53, (0, 0), by simp, by simpa using hj⟩⟩)) rfl (by simp [Value.oneCell'])) (by omega) (by omega) ?_
              intro V2 hV2 _
              refine ⟨.inr (List.Sublist.cons _ (List.Sublist.cons _ (List.Sublist.cons _ (List.Sublist.cons _ (List.Sublist.refl _))))), ?_⟩
              refine XR.rd rfl rfl rfl (bd37v x.d V2.val ⟨_, _, _, rfl⟩ ⟨rfl, rfl, rfl, rfl, trivial⟩) ?_
              refine XR.store_agg (vs := [.int .i64 x.d.a, .int .i64 x.d.b, .int .i64 x.d.t, .int .i64 x.d.n, V2.val]) 2 rfl rfl z37 rfl rfl (by simp [Value.oneCell']) rfl (by simp) (.inl rfl) ?_
              refine XR.nil ?_
              refine XQ.perm (perm_take [1, 1]) ?_
              refine XQ.drop (List.Sublist.cons_cons _ (List.Sublist.cons_cons _ (List.Sublist.cons _ (List.Sublist.cons _ (List.Sublist.refl _))))) ?_
              refine XQ.joined (V2, b10) (by rw [handC_add]; simpa using hV2) ⟨rfl, rfl, rfl, trivial⟩ rfl (List.Perm.refl _)
        · skip
          refine XR.rde rfl rfl rfl rfl (Reads.to_string (bs := List.replicate 32 0) Tryd.underlying98 Tryd.underlying5 Tryd.underlying9 rfl rfl (readable_row 1 rfl rfl)) (List.Sublist.cons _ (List.Sublist.cons _ (List.Sublist.refl _))) ?_
          refine XR.rd rfl rfl rfl (bd53v c l zero32 ⟨rfl, rfl, rfl, rfl, rfl, rfl, trivial⟩) ?_
          refine XR.alt ?_ ?_
          · skip
            refine XR.buildL [] [] rfl rfl rfl Tryd.underlying35 el53 rfl (by simp) trivial rfl rfl (List.Sublist.cons _ (List.Sublist.cons _ (List.Sublist.refl _))) (fun b14 => ?_)
            refine XR.alt ?_ ?_
            · skip
              refine XR.append (V := ⟨some (b14, #[]), 0, 0⟩) 0 rfl rfl rfl Tryd.underlying35 el53 rfl rfl (vec_zero b14 3) rfl (hnw _) (by simp only; omega) (by simp only; omega) ?_
              intro V1 hV1 hVl1
              simp only [Nat.zero_add] at hVl1
              refine ⟨.inr (List.Sublist.cons _ (List.Sublist.cons _ (List.Sublist.cons _ (List.Sublist.refl _)))), ?_⟩
              refine XR.buildL [.agg (newH c l).cs.toArray] (newH c l).cs rfl rfl rfl Tryd.underlying35 el53 rfl (by simp) ⟨rfl, rfl, trivial⟩ rfl rfl (List.Sublist.cons _ (List.Sublist.cons _ (List.Sublist.cons _ (List.Sublist.refl _)))) (fun bu => ?_)
              refine XR.append (V := V1) (news := (newH c l).cs) 1 rfl rfl rfl Tryd.underlying35 el53 rfl rfl hV1 rfl (.slice Tryd.underlying35 (.inr (.inr ⟨bu, 0, rfl, fun j v hj => ⟨(newH c l).cs.toArray, 53, (0, 0), by simp, by simpa using hj⟩⟩)) rfl (by simp [Value.oneCell'])) (by omega) (by omega) ?_
              intro V2 hV2 _
              refine ⟨.inr (List.Sublist.cons _ (List.Sublist.cons _ (List.Sublist.cons _ (List.Sublist.cons _ (List.Sublist.refl _))))), ?_⟩
              refine XR.rd rfl rfl rfl (bd37v x.d V2.val ⟨_, _, _, rfl⟩ ⟨rfl, rfl, rfl, rfl, trivial⟩) ?_
              refine XR.store_agg (vs := [.int .i64 x.d.a, .int .i64 x.d.b, .int .i64 x.d.t, .int .i64 x.d.n, V2.val]) 2 rfl rfl z37 rfl rfl (by simp [Value.oneCell']) rfl (by simp) (.inl rfl) ?_
              refine XR.nil ?_
              refine XQ.perm (perm_take [1, 1]) ?_
              refine XQ.drop (List.Sublist.cons_cons _ (List.Sublist.cons_cons _ (List.Sublist.cons _ (List.Sublist.cons _ (List.Sublist.refl _))))) ?_
              refine XQ.joined (V2, b10) (by rw [handC_add]; simpa using hV2) ⟨rfl, rfl, rfl, trivial⟩ rfl (List.Perm.refl _)
            · skip
              refine XR.buildL [.agg (newH c l).cs.toArray] (newH c l).cs rfl rfl rfl Tryd.underlying35 el53 rfl (by simp) ⟨rfl, rfl, trivial⟩ rfl rfl (List.Sublist.cons _ (List.Sublist.cons _ (List.Sublist.cons _ (List.Sublist.refl _)))) (fun bu => ?_)
              refine XR.append (V := ⟨some (b14, #[]), 0, 0⟩) 1 rfl rfl rfl Tryd.underlying35 el53 rfl rfl (vec_zero b14 3) rfl (hnw _) (by simp only; omega) (by simp only; omega) ?_
              intro V1 hV1 hVl1
              simp only [Nat.zero_add] at hVl1
              refine ⟨.inr (List.Sublist.cons _ (List.Sublist.cons _ (List.Sublist.cons _ (List.Sublist.cons _ (List.Sublist.refl _))))), ?_⟩
              refine XR.append (V := V1) (news := (newH c l).cs) 1 rfl rfl rfl Tryd.underlying35 el53 rfl rfl hV1 rfl (.slice Tryd.underlying35 (.inr (.inr ⟨bu, 0, rfl, fun j v hj => ⟨(newH c l).cs.toArray, 53, (0, 0), by simp, by simpa using hj⟩⟩)) rfl (by simp [Value.oneCell'])) (by omega) (by omega) ?_
              intro V2 hV2 _
              refine ⟨.inr (List.Sublist.cons _ (List.Sublist.cons _ (List.Sublist.cons _ (List.Sublist.cons _ (List.Sublist.refl _))))), ?_⟩
              refine XR.rd rfl rfl rfl (bd37v x.d V2.val ⟨_, _, _, rfl⟩ ⟨rfl, rfl, rfl, rfl, trivial⟩) ?_
              refine XR.store_agg (vs := [.int .i64 x.d.a, .int .i64 x.d.b, .int .i64 x.d.t, .int .i64 x.d.n, V2.val]) 2 rfl rfl z37 rfl rfl (by simp [Value.oneCell']) rfl (by simp) (.inl rfl) ?_
              refine XR.nil ?_
              refine XQ.perm (perm_take [1, 1]) ?_
              refine XQ.drop (List.Sublist.cons_cons _ (List.Sublist.cons_cons _ (List.Sublist.cons _ (List.Sublist.cons _ (List.Sublist.refl _))))) ?_
              refine XQ.joined (V2, b10) (by rw [handC_add]; simpa using hV2) ⟨rfl, rfl, rfl, trivial⟩ rfl (List.Perm.refl _)
          · skip
            refine XR.buildL [.agg (newH c l).cs.toArray] (newH c l).cs rfl rfl rfl Tryd.underlying35 el53 rfl (by simp) ⟨rfl, rfl, trivial⟩ rfl rfl (List.Sublist.cons _ (List.Sublist.cons _ (List.Sublist.refl _))) (fun bu => ?_)
            refine XR.buildL [] [] rfl rfl rfl Tryd.underlying35 el53 rfl (by simp) trivial rfl rfl (List.Sublist.cons _ (List.Sublist.cons _ (List.Sublist.cons _ (List.Sublist.refl _)))) (fun b14 => ?_)
            refine XR.append (V := ⟨some (b14, #[]), 0, 0⟩) 0 rfl rfl rfl Tryd.underlying35 el53 rfl rfl (vec_zero b14 3) rfl (hnw _) (by simp only; omega) (by simp only; omega) ?_
            intro V1 hV1 hVl1
            simp only [Nat.zero_add] at hVl1
            refine ⟨.inr (List.Sublist.cons _ (List.Sublist.cons _ (List.Sublist.cons _ (List.Sublist.cons _ (List.Sublist.refl _))))), ?_⟩
            refine XR.append (V := V1) (news := (newH c l).cs) 0 rfl rfl rfl Tryd.underlying35 el53 rfl rfl hV1 rfl (.slice Tryd.underlying35 (.inr (.inr ⟨bu, 0, rfl, fun j v hj => ⟨(newH c l).cs.toArray, 53, (0, 0), by simp, by simpa using hj⟩⟩)) rfl (by simp [Value.oneCell'])) (by omega) (by omega) ?_
            intro V2 hV2 _
            refine ⟨.inr (List.Sublist.cons _ (List.Sublist.cons _ (List.Sublist.cons _ (List.Sublist.cons _ (List.Sublist.refl _))))), ?_⟩
            refine XR.rd rfl rfl rfl (bd37v x.d V2.val ⟨_, _, _, rfl⟩ ⟨rfl, rfl, rfl, rfl, trivial⟩) ?_
            refine XR.store_agg (vs := [.int .i64 x.d.a, .int .i64 x.d.b, .int .i64 x.d.t, .int .i64 x.d.n, V2.val]) 2 rfl rfl z37 rfl rfl (by simp [Value.oneCell']) rfl (by simp) (.inl rfl) ?_
            refine XR.nil ?_
            refine XQ.perm (perm_take [0, 1]) ?_
            refine XQ.drop (List.Sublist.cons_cons _ (List.Sublist.cons_cons _ (List.Sublist.cons _ (List.Sublist.cons _ (List.Sublist.refl _))))) ?_
            refine XQ.joined (V2, b10) (by rw [handC_add]; simpa using hV2) ⟨rfl, rfl, rfl, trivial⟩ rfl (List.Perm.refl _)
    · skip
      refine XR.alloc (cs := #[.int .i64 0, .int .i64 0, .int .i64 0, .int .i64 0, .slice none 0 0]) rfl rfl rfl zo37 rfl (List.Sublist.refl _) (fun b10 => ?_)
      refine XR.alt ?_ ?_
      · skip
        refine XR.buildL [] [] rfl rfl rfl Tryd.underlying35 el53 rfl (by simp) trivial rfl rfl (List.Sublist.cons _ (List.Sublist.refl _)) (fun b14 => ?_)
        refine XR.alt ?_ ?_
        · skip
          refine XR.append (V := ⟨some (b14, #[]), 0, 0⟩) 0 rfl rfl rfl Tryd.underlying35 el53 rfl rfl (vec_zero b14 3) rfl (hnw _) (by simp only; omega) (by simp only; omega) ?_
          intro V1 hV1 hVl1
          simp only [Nat.zero_add] at hVl1
          refine ⟨.inr (List.Sublist.cons _ (List.Sublist.cons _ (List.Sublist.refl _))), ?_⟩
          refine XR.makeSlice (m := 32) rfl rfl rfl Tryd.underlying98 el5 rfl rfl rfl (by decide) (by decide) (List.Sublist.cons _ (List.Sublist.cons _ (List.Sublist.refl _))) (fun b20 => ?_)
          refine XR.rde rfl rfl rfl rfl (Reads.to_string (bs := List.replicate 32 0) Tryd.underlying98 Tryd.underlying5 Tryd.underlying9 rfl rfl (readable_row 0 rfl rfl)) (List.Sublist.cons _ (List.Sublist.cons _ (List.Sublist.cons _ (List.Sublist.refl _)))) ?_
          refine XR.rd rfl rfl rfl (bd53v c l zero32 ⟨rfl, rfl, rfl, rfl, rfl, rfl, trivial⟩) ?_
          refine XR.buildL [.agg (newH c l).cs.toArray] (newH c l).cs rfl rfl rfl Tryd.underlying35 el53 rfl (by simp) ⟨rfl, rfl, trivial⟩ rfl rfl (List.Sublist.cons _ (List.Sublist.cons _ (List.Sublist.cons _ (List.Sublist.refl _)))) (fun bu => ?_)
          refine XR.append (V := V1) (news := (newH c l).cs) 2 rfl rfl rfl Tryd.underlying35 el53 rfl rfl hV1 rfl (.slice Tryd.underlying35 (.inr (.inr ⟨bu, 0, rfl, fun j v hj => ⟨(newH c l).cs.toArray, 53, (0, 0), by simp, by simpa using hj⟩⟩)) rfl (by simp [Value.oneCell'])) (by omega) (by omega) ?_
          intro V2 hV2 _
          refine ⟨.inr (List.Sublist.cons _ (List.Sublist.cons _ (List.Sublist.cons _ (List.Sublist.cons _ (List.Sublist.refl _))))), ?_⟩
          refine XR.rd rfl rfl rfl (bd37v x.d V2.val ⟨_, _, _, rfl⟩ ⟨rfl, rfl, rfl, rfl, trivial⟩) ?_
          refine XR.store_agg (vs := [.int .i64 x.d.a, .int .i64 x.d.b, .int .i64 x.d.t, .int .i64 x.d.n, V2.val]) 3 rfl rfl z37 rfl rfl (by simp [Value.oneCell']) rfl (by simp) (.inl rfl) ?_
          refine XR.nil ?_
          refine XQ.perm (perm_take [2, 2]) ?_
          refine XQ.drop (List.Sublist.cons_cons _ (List.Sublist.cons_cons _ (List.Sublist.cons _ (List.Sublist.cons _ (List.Sublist.refl _))))) ?_
          refine XQ.joined (V2, b10) (by rw [handC_add]; simpa using hV2) ⟨rfl, rfl, rfl, trivial⟩ rfl (List.Perm.refl _)
        · skip
          refine XR.makeSlice (m := 32) rfl rfl rfl Tryd.underlying98 el5 rfl rfl rfl (by decide) (by decide) (List.Sublist.cons _ (List.Sublist.cons _ (List.Sublist.refl _))) (fun b20 => ?_)
          refine XR.alt ?_ ?_
          · skip
            refine XR.append (V := ⟨some (b14, #[]), 0, 0⟩) 1 rfl rfl rfl Tryd.underlying35 el53 rfl rfl (vec_zero b14 3) rfl (hnw _) (by simp only; omega) (by simp only; omega) ?_
            intro V1 hV1 hVl1
            simp only [Nat.zero_add] at hVl1
            refine ⟨.inr (List.Sublist.cons _ (List.Sublist.cons _ (List.Sublist.cons _ (List.Sublist.refl _)))), ?_⟩
            refine XR.rde rfl rfl rfl rfl (Reads.to_string (bs := List.replicate 32 0) Tryd.underlying98 Tryd.underlying5 Tryd.underlying9 rfl rfl (readable_row 0 rfl rfl)) (List.Sublist.cons _ (List.Sublist.cons _ (List.Sublist.cons _ (List.Sublist.refl _)))) ?_
            refine XR.rd rfl rfl rfl (bd53v c l zero32 ⟨rfl, rfl, rfl, rfl, rfl, rfl, trivial⟩) ?_
            refine XR.buildL [.agg (newH c l).cs.toArray] (newH c l).cs rfl rfl rfl Tryd.underlying35 el53 rfl (by simp) ⟨rfl, rfl, trivial⟩ rfl rfl (List.Sublist.cons _ (List.Sublist.cons _ (List.Sublist.cons _ (List.Sublist.refl _)))) (fun bu => ?_)
            refine XR.append (V := V1) (news := (newH c l).cs) 2 rfl rfl rfl Tryd.underlying35 el53 rfl rfl hV1 rfl (.slice Tryd.underlying35 (.inr (.inr ⟨bu, 0, rfl, fun j v hj => ⟨(newH c l).cs.toArray, 53, (0, 0), by simp, by simpa using hj⟩⟩)) rfl (by simp [Value.oneCell'])) (by omega) (by omega) ?_
            intro V2 hV2 _
            refine ⟨.inr (List.Sublist.cons _ (List.Sublist.cons _ (List.Sublist.cons _ (List.Sublist.cons _ (List.Sublist.refl _))))), ?_⟩
            refine XR.rd rfl rfl rfl (bd37v x.d V2.val ⟨_, _, _, rfl⟩ ⟨rfl, rfl, rfl, rfl, trivial⟩) ?_
            refine XR.store_agg (vs := [.int .i64 x.d.a, .int .i64 x.d.b, .int .i64 x.d.t, .int .i64 x.d.n, V2.val]) 3 rfl rfl z37 rfl rfl (by simp [Value.oneCell']) rfl (by simp) (.inl rfl) ?_
            refine XR.nil ?_
            refine XQ.perm (perm_take [2, 2]) ?_
            refine XQ.drop (List.Sublist.cons_cons _ (List.Sublist.cons_cons _ (List.Sublist.cons _ (List.Sublist.cons _ (List.Sublist.refl _))))) ?_
            refine XQ.joined (V2, b10) (by rw [handC_add]; simpa using hV2) ⟨rfl, rfl, rfl, trivial⟩ rfl (List.Perm.refl _)
          · skip
            refine XR.rde rfl rfl rfl rfl (Reads.to_string (bs := List.replicate 32 0) Tryd.underlying98 Tryd.underlying5 Tryd.underlying9 rfl rfl (readable_row 0 rfl rfl)) (List.Sublist.cons _ (List.Sublist.cons _ (List.Sublist.cons _ (List.Sublist.refl _)))) ?_
            refine XR.rd rfl rfl rfl (bd53v c l zero32 ⟨rfl, rfl, rfl, rfl, rfl, rfl, trivial⟩) ?_
            refine XR.alt ?_ ?_
            · skip
              refine XR.append (V := ⟨some (b14, #[]), 0, 0⟩) 1 rfl rfl rfl Tryd.underlying35 el53 rfl rfl (vec_zero b14 3) rfl (hnw _) (by simp only; omega) (by simp only; omega) ?_
              intro V1 hV1 hVl1
              simp only [Nat.zero_add] at hVl1
              refine ⟨.inr (List.Sublist.cons _ (List.Sublist.cons _ (List.Sublist.cons _ (List.Sublist.refl _)))), ?_⟩
              refine XR.buildL [.agg (newH c l).cs.toArray] (newH c l).cs rfl rfl rfl Tryd.underlying35 el53 rfl (by simp) ⟨rfl, rfl, trivial⟩ rfl rfl (List.Sublist.cons _ (List.Sublist.cons _ (List.Sublist.cons _ (List.Sublist.refl _)))) (fun bu => ?_)
              refine XR.append (V := V1) (news := (newH c l).cs) 2 rfl rfl rfl Tryd.underlying35 el53 rfl rfl hV1 rfl (.slice Tryd.underlying35 (.inr (.inr ⟨bu, 0, rfl, fun j v hj => ⟨(newH c l).cs.toArray, 53, (0, 0), by simp, by simpa using hj⟩⟩)) rfl (by simp [Value.oneCell'])) (by omega) (by omega) ?_
              intro V2 hV2 _
              refine ⟨.inr (List.Sublist.cons _ (List.Sublist.cons _ (List.Sublist.cons _ (List.Sublist.cons _ (List.Sublist.refl _))))), ?_⟩
              refine XR.rd rfl rfl rfl (bd37v x.d V2.val ⟨_, _, _, rfl⟩ ⟨rfl, rfl, rfl, rfl, trivial⟩) ?_
              refine XR.store_agg (vs := [.int .i64 x.d.a, .int .i64 x.d.b, .int .i64 x.d.t, .int .i64 x.d.n, V2.val]) 3 rfl rfl z37 rfl rfl (by simp [Value.oneCell']) rfl (by simp) (.inl rfl) ?_
              refine XR.nil ?_
              refine XQ.perm (perm_take [2, 2]) ?_
              refine XQ.drop (List.Sublist.cons_cons _ (List.Sublist.cons_cons _ (List.Sublist.cons _ (List.Sublist.cons _ (List.Sublist.refl _))))) ?_
              refine XQ.joined (V2, b10) (by rw [handC_add]; simpa using hV2) ⟨rfl, rfl, rfl, trivial⟩ rfl (List.Perm.refl _)
            · skip
              refine XR.buildL [.agg (newH c l).cs.toArray] (newH c l).cs rfl rfl rfl Tryd.underlying35 el53 rfl (by simp) ⟨rfl, rfl, trivial⟩ rfl rfl (List.Sublist.cons _ (List.Sublist.cons _ (List.Sublist.cons _ (List.Sublist.refl _)))) (fun bu => ?_)
              refine XR.append (V := ⟨some (b14, #[]), 0, 0⟩) 2 rfl rfl rfl Tryd.underlying35 el53 rfl rfl (vec_zero b14 3) rfl (hnw _) (by simp only; omega) (by simp only; omega) ?_
              intro V1 hV1 hVl1
              simp only [Nat.zero_add] at hVl1
              refine ⟨.inr (List.Sublist.cons _ (List.Sublist.cons _ (List.Sublist.cons _ (List.Sublist.cons _ (List.Sublist.refl _))))), ?_⟩
              refine XR.append (V := V1) (news := (newH c l).cs) 2 rfl rfl rfl Tryd.underlying35 el53 rfl rfl hV1 rfl (.slice Tryd.underlying35 (.inr (.inr ⟨bu, 0, rfl, fun j v hj => ⟨(newH c l).cs.toArray, 53, (0, 0), by simp, by simpa using hj⟩⟩)) rfl (by simp [Value.oneCell'])) (by omega) (by omega) ?_
              intro V2 hV2 _
              refine ⟨.inr (List.Sublist.cons _ (List.Sublist.cons _ (List.Sublist.cons _ (List.Sublist.cons _ (List.Sublist.refl _))))), ?_⟩
              refine XR.rd rfl rfl rfl (bd37v x.d V2.val ⟨_, _, _, rfl⟩ ⟨rfl, rfl, rfl, rfl, trivial⟩) ?_
              refine XR.store_agg (vs := [.int .i64 x.d.a, .int .i64 x.d.b, .int .i64 x.d.t, .int .i64 x.d.n, V2.val]) 3 rfl rfl z37 rfl rfl (by simp [Value.oneCell']) rfl (by simp) (.inl rfl) ?_
              refine XR.nil ?_
              refine XQ.perm (perm_take [2, 2]) ?_
              refine XQ.drop (List.Sublist.cons_cons _ (List.Sublist.cons_cons _ (List.Sublist.cons _ (List.Sublist.cons _ (List.Sublist.refl _))))) ?_
              refine XQ.joined (V2, b10) (by rw [handC_add]; simpa using hV2) ⟨rfl, rfl, rfl, trivial⟩ rfl (List.Perm.refl _)
      · skip
        refine XR.makeSlice (m := 32) rfl rfl rfl Tryd.underlying98 el5 rfl rfl rfl (by decide) (by decide) (List.Sublist.cons _ (List.Sublist.refl _)) (fun b20 => ?_)
        refine XR.alt ?_ ?_
        · skip
          refine XR.buildL [] [] rfl rfl rfl Tryd.underlying35 el53 rfl (by simp) trivial rfl rfl (List.Sublist.cons _ (List.Sublist.cons _ (List.Sublist.refl _))) (fun b14 => ?_)
          refine XR.alt ?_ ?_
          · skip
            refine XR.append (V := ⟨some (b14, #[]), 0, 0⟩) 0 rfl rfl rfl Tryd.underlying35 el53 rfl rfl (vec_zero b14 3) rfl (hnw _) (by simp only; omega) (by simp only; omega) ?_
            intro V1 hV1 hVl1
            simp only [Nat.zero_add] at hVl1
            refine ⟨.inr (List.Sublist.cons _ (List.Sublist.cons _ (List.Sublist.cons _ (List.Sublist.refl _)))), ?_⟩
            refine XR.rde rfl rfl rfl rfl (Reads.to_string (bs := List.replicate 32 0) Tryd.underlying98 Tryd.underlying5 Tryd.underlying9 rfl rfl (readable_row 1 rfl rfl)) (List.Sublist.cons _ (List.Sublist.cons _ (List.Sublist.cons _ (List.Sublist.refl _)))) ?_
            refine XR.rd rfl rfl rfl (bd53v c l zero32 ⟨rfl, rfl, rfl, rfl, rfl, rfl, trivial⟩) ?_
            refine XR.buildL [.agg (newH c l).cs.toArray] (newH c l).cs rfl rfl rfl Tryd.underlying35 el53 rfl (by simp) ⟨rfl, rfl, trivial⟩ rfl rfl (List.Sublist.cons _ (List.Sublist.cons _ (List.Sublist.cons _ (List.Sublist.refl _)))) (fun bu => ?_)
            refine XR.append (V := V1) (news := (newH c l).cs) 1 rfl rfl rfl Tryd.underlying35 el53 rfl rfl hV1 rfl (.slice Tryd.underlying35 (.inr (.inr ⟨bu, 0, rfl, fun j v hj => ⟨(newH c l).cs.toArray, 53, (0, 0), by simp, by simpa using hj⟩⟩)) rfl (by simp [Value.oneCell'])) (by omega) (by omega) ?_
            intro V2 hV2 _
            refine ⟨.inr (List.Sublist.cons _ (List.Sublist.cons _ (List.Sublist.cons _ (List.Sublist.cons _ (List.Sublist.refl _))))), ?_⟩
            refine XR.rd rfl rfl rfl (bd37v x.d V2.val ⟨_, _, _, rfl⟩ ⟨rfl, rfl, rfl, rfl, trivial⟩) ?_
            refine XR.store_agg (vs := [.int .i64 x.d.a, .int .i64 x.d.b, .int .i64 x.d.t, .int .i64 x.d.n, V2.val]) 3 rfl rfl z37 rfl rfl (by simp [Value.oneCell']) rfl (by simp) (.inl rfl) ?_
            refine XR.nil ?_
            refine XQ.perm (perm_take [1, 2]) ?_
            refine XQ.drop (List.Sublist.cons_cons _ (List.Sublist.cons_cons _ (List.Sublist.cons _ (List.Sublist.cons _ (List.Sublist.refl _))))) ?_
            refine XQ.joined (V2, b10) (by rw [handC_add]; simpa using hV2) ⟨rfl, rfl, rfl, trivial⟩ rfl (List.Perm.refl _)
          · skip
            refine XR.rde rfl rfl rfl rfl (Reads.to_string (bs := List.replicate 32 0) Tryd.underlying98 Tryd.underlying5 Tryd.underlying9 rfl rfl (readable_row 1 rfl rfl)) (List.Sublist.cons _ (List.Sublist.cons _ (List.Sublist.cons _ (List.Sublist.refl _)))) ?_
            refine XR.rd rfl rfl rfl (bd53v c l zero32 ⟨rfl, rfl, rfl, rfl, rfl, rfl, trivial⟩) ?_
            refine XR.alt ?_ ?_
            · skip
              refine XR.append (V := ⟨some (b14, #[]), 0, 0⟩) 0 rfl rfl rfl Tryd.underlying35 el53 rfl rfl (vec_zero b14 3) rfl (hnw _) (by simp only; omega) (by simp only; omega) ?_
              intro V1 hV1 hVl1
              simp only [Nat.zero_add] at hVl1
              refine ⟨.inr (List.Sublist.cons _ (List.Sublist.cons _ (List.Sublist.cons _ (List.Sublist.refl _)))), ?_⟩
              refine XR.buildL [.agg (newH c l).cs.toArray] (newH c l).cs rfl rfl rfl Tryd.underlying35 el53 rfl (by simp) ⟨rfl, rfl, trivial⟩ rfl rfl (List.Sublist.cons _ (List.Sublist.cons _ (List.Sublist.cons _ (List.Sublist.refl _)))) (fun bu => ?_)
              refine XR.append (V := V1) (news := (newH c l).cs) 1 rfl rfl rfl Tryd.underlying35 el53 rfl rfl hV1 rfl (.slice Tryd.underlying35 (.inr (.inr ⟨bu, 0, rfl, fun j v hj => ⟨(newH c l).cs.toArray, 53, (0, 0), by simp, by simpa using hj⟩⟩)) rfl (by simp [Value.oneCell'])) (by omega) (by omega) ?_
              intro V2 hV2 _
              refine ⟨.inr (List.Sublist.cons _ (List.Sublist.cons _ (List.Sublist.cons _ (List.Sublist.cons _ (List.Sublist.refl _))))), ?_⟩
              refine XR.rd rfl rfl rfl (bd37v x.d V2.val ⟨_, _, _, rfl⟩ ⟨rfl, rfl, rfl, rfl, trivial⟩) ?_
              refine XR.store_agg (vs := [.int .i64 x.d.a, .int .i64 x.d.b, .int .i64 x.d.t, .int .i64 x.d.n, V2.val]) 3 rfl rfl z37 rfl rfl (by simp [Value.oneCell']) rfl (by simp) (.inl rfl) ?_
              refine XR.nil ?_
              refine XQ.perm (perm_take [1, 2]) ?_
              refine XQ.drop (List.Sublist.cons_cons _ (List.Sublist.cons_cons _ (List.Sublist.cons _ (List.Sublist.cons _ (List.Sublist.refl _))))) ?_
              refine XQ.joined (V2, b10) (by rw [handC_add]; simpa using hV2) ⟨rfl, rfl, rfl, trivial⟩ rfl (List.Perm.refl _)
            · skip
              refine XR.buildL [.agg (newH c l).cs.toArray] (newH c l).cs rfl rfl rfl Tryd.underlying35 el53 rfl (by simp) ⟨rfl, rfl, trivial⟩ rfl rfl (List.Sublist.cons _ (List.Sublist.cons _ (List.Sublist.cons _ (List.Sublist.refl _)))) (fun bu => ?_)
              refine XR.append (V := ⟨some (b14, #[]), 0, 0⟩) 1 rfl rfl rfl Tryd.underlying35 el53 rfl rfl (vec_zero b14 3) rfl (hnw _) (by simp only; omega) (by simp only; omega) ?_
              intro V1 hV1 hVl1
              simp only [Nat.zero_add] at hVl1
              refine ⟨.inr (List.Sublist.cons _ (List.Sublist.cons _ (List.Sublist.cons _ (List.Sublist.cons _ (List.Sublist.refl _))))), ?_⟩
              refine XR.append (V := V1) (news := (newH c l).cs) 1 rfl rfl rfl Tryd.underlying35 el53 rfl rfl hV1 rfl (.slice Tryd.underlying35 (.inr (.inr ⟨bu, 0, rfl, fun j v hj => ⟨(newH c l).cs.toArray, 53, (0, 0), by simp, by simpa using hj⟩⟩)) rfl (by simp [Value.oneCell'])) (by omega) (by omega) ?_
              intro V2 hV2 _
              refine ⟨.inr (List.Sublist.cons _ (List.Sublist.cons _ (List.Sublist.cons _ (List.Sublist.cons _ (List.Sublist.refl _))))), ?_⟩
              refine XR.rd rfl rfl rfl (bd37v x.d V2.val ⟨_, _, _, rfl⟩ ⟨rfl, rfl, rfl, rfl, trivial⟩) ?_
              refine XR.store_agg (vs := [.int .i64 x.d.a, .int .i64 x.d.b, .int .i64 x.d.t, .int .i64 x.d.n, V2.val]) 3 rfl rfl z37 rfl rfl (by simp [Value.oneCell']) rfl (by simp) (.inl rfl) ?_
              refine XR.nil ?_
              refine XQ.perm (perm_take [1, 2]) ?_
              refine XQ.drop (List.Sublist.cons_cons _ (List.Sublist.cons_cons _ (List.Sublist.cons _ (List.Sublist.cons _ (List.Sublist.refl _))))) ?_
              refine XQ.joined (V2, b10) (by rw [handC_add]; simpa using hV2) ⟨rfl, rfl, rfl, trivial⟩ rfl (List.Perm.refl _)
        · skip
          refine XR.rde rfl rfl rfl rfl (Reads.to_string (bs := List.replicate 32 0) Tryd.underlying98 Tryd.underlying5 Tryd.underlying9 rfl rfl (readable_row 0 rfl rfl)) (List.Sublist.cons _ (List.Sublist.cons _ (List.Sublist.refl _))) ?_
          refine XR.rd rfl rfl rfl (bd53v c l zero32 ⟨rfl, rfl, rfl, rfl, rfl, rfl, trivial⟩) ?_
          refine XR.alt ?_ ?_
          · skip
            refine XR.buildL [] [] rfl rfl rfl Tryd.underlying35 el53 rfl (by simp) trivial rfl rfl (List.Sublist.cons _ (List.Sublist.cons _ (List.Sublist.refl _))) (fun b14 => ?_)
            refine XR.alt ?_ ?_
            · skip
              refine XR.append (V := ⟨some (b14, #[]), 0, 0⟩) 0 rfl rfl rfl Tryd.underlying35 el53 rfl rfl (vec_zero b14 3) rfl (hnw _) (by simp only; omega) (by simp only; omega) ?_
              intro V1 hV1 hVl1
              simp only [Nat.zero_add] at hVl1
              refine ⟨.inr (List.Sublist.cons _ (List.Sublist.cons _ (List.Sublist.cons _ (List.Sublist.refl _)))), ?_⟩
              refine XR.buildL [.agg (newH c l).cs.toArray] (newH c l).cs rfl rfl rfl Tryd.underlying35 el53 rfl (by simp) ⟨rfl, rfl, trivial⟩ rfl rfl (List.Sublist.cons _ (List.Sublist.cons _ (List.Sublist.cons _ (List.Sublist.refl _)))) (fun bu => ?_)
              refine XR.append (V := V1) (news := (newH c l).cs) 1 rfl rfl rfl Tryd.underlying35 el53 rfl rfl hV1 rfl (.slice Tryd.underlying35 (.inr (.inr ⟨bu, 0, rfl, fun j v hj => ⟨(newH c l).cs.toArray, 53, (0, 0), by simp, by simpa using hj⟩⟩)) rfl (by simp [Value.oneCell'])) (by omega) (by omega) ?_
              intro V2 hV2 _
              refine ⟨.inr (List.Sublist.cons _ (List.Sublist.cons _ (List.Sublist.cons _ (List.Sublist.cons _ (List.Sublist.refl _))))), ?_⟩
              refine XR.rd rfl rfl rfl (bd37v x.d V2.val ⟨_, _, _, rfl⟩ ⟨rfl, rfl, rfl, rfl, trivial⟩) ?_
              refine XR.store_agg (vs := [.int .i64 x.d.a, .int .i64 x.d.b, .int .i64 x.d.t, .int .i64 x.d.n, V2.val]) 3 rfl rfl z37 rfl rfl (by simp [Value.oneCell']) rfl (by simp) (.inl rfl) ?_
              refine XR.nil ?_
              refine XQ.perm (perm_take [1, 2]) ?_
              refine XQ.drop (List.Sublist.cons_cons _ (List.Sublist.cons_cons _ (List.Sublist.cons _ (List.Sublist.cons _ (List.Sublist.refl _))))) ?_
              refine XQ.joined (V2, b10) (by rw [handC_add]; simpa using hV2) ⟨rfl, rfl, rfl, trivial⟩ rfl (List.Perm.refl _)
            · skip
              refine XR.buildL [.agg (newH c l).cs.toArray] (newH c l).cs rfl rfl rfl Tryd.underlying35 el53 rfl (by simp) ⟨rfl, rfl, trivial⟩ rfl rfl (List.Sublist.cons _ (List.Sublist.cons _ (List.Sublist.cons _ (List.Sublist.refl _)))) (fun bu => ?_)
              refine XR.append (V := ⟨some (b14, #[]), 0, 0⟩) 1 rfl rfl rfl Tryd.underlying35 el53 rfl rfl (vec_zero b14 3) rfl (hnw _) (by simp only; omega) (by simp only; omega) ?_
              intro V1 hV1 hVl1
              simp only [Nat.zero_add] at hVl1
              refine ⟨.inr (List.Sublist.cons _ (List.Sublist.cons _ (List.Sublist.cons _ (List.Sublist.cons _ (List.Sublist.refl _))))), ?_⟩
              refine XR.append (V := V1) (news := (newH c l).cs) 1 rfl rfl rfl Tryd.underlying35 el53 rfl rfl hV1 rfl (.slice Tryd.underlying35 (.inr (.inr ⟨bu, 0, rfl, fun j v hj => ⟨(newH c l).cs.toArray, 53, (0, 0), by simp, by simpa using hj⟩⟩)) rfl (by simp [Value.oneCell'])) (by omega) (by omega) ?_
              intro V2 hV2 _
              refine ⟨.inr (List.Sublist.cons _ (List.Sublist.cons _ (List.Sublist.cons _ (List.Sublist.cons _ (List.Sublist.refl _))))), ?_⟩
              refine XR.rd rfl rfl rfl (bd37v x.d V2.val ⟨_, _, _, rfl⟩ ⟨rfl, rfl, rfl, rfl, trivial⟩) ?_
              refine XR.store_agg (vs := [.int .i64 x.d.a, .int .i64 x.d.b, .int .i64 x.d.t, .int .i64 x.d.n, V2.val]) 3 rfl rfl z37 rfl rfl (by simp [Value.oneCell']) rfl (by simp) (.inl rfl) ?_
              refine XR.nil ?_
              refine XQ.perm (perm_take [1, 2]) ?_
              refine XQ.drop (List.Sublist.cons_cons _ (List.Sublist.cons_cons _ (List.Sublist.cons _ (List.Sublist.cons _ (List.Sublist.refl _))))) ?_
              refine XQ.joined (V2, b10) (by rw [handC_add]; simpa using hV2) ⟨rfl, rfl, rfl, trivial⟩ rfl (List.Perm.refl _)
          · skip
            refine XR.buildL [.agg (newH c l).cs.toArray] (newH c l).cs rfl rfl rfl Tryd.underlying35 el53 rfl (by simp) ⟨rfl, rfl, trivial⟩ rfl rfl (List.Sublist.cons _ (List.Sublist.cons _ (List.Sublist.refl _))) (fun bu => ?_)
            refine XR.buildL [] [] rfl rfl rfl Tryd.underlying35 el53 rfl (by simp) trivial rfl rfl (List.Sublist.cons _ (List.Sublist.cons _ (List.Sublist.cons _ (List.Sublist.refl _)))) (fun b14 => ?_)
            refine XR.append (V := ⟨some (b14, #[]), 0, 0⟩) 0 rfl rfl rfl Tryd.underlying35 el53 rfl rfl (vec_zero b14 3) rfl (hnw _) (by simp only; omega) (by simp only; omega) ?_
            intro V1 hV1 hVl1
            simp only [Nat.zero_add] at hVl1
            refine ⟨.inr (List.Sublist.cons _ (List.Sublist.cons _ (List.Sublist.cons _ (List.Sublist.cons _ (List.Sublist.refl _))))), ?_⟩
            refine XR.append (V := V1) (news := (newH c l).cs) 0 rfl rfl rfl Tryd.underlying35 el53 rfl rfl hV1 rfl (.slice Tryd.underlying35 (.inr (.inr ⟨bu, 0, rfl, fun j v hj => ⟨(newH c l).cs.toArray, 53, (0, 0), by simp, by simpa using hj⟩⟩)) rfl (by simp [Value.oneCell'])) (by omega) (by omega) ?_
            intro V2 hV2 _
            refine ⟨.inr (List.Sublist.cons _ (List.Sublist.cons _ (List.Sublist.cons _ (List.Sublist.cons _ (List.Sublist.refl _))))), ?_⟩
            refine XR.rd rfl rfl rfl (bd37v x.d V2.val ⟨_, _, _, rfl⟩ ⟨rfl, rfl, rfl, rfl, trivial⟩) ?_
            refine XR.store_agg (vs := [.int .i64 x.d.a, .int .i64 x.d.b, .int .i64 x.d.t, .int .i64 x.d.n, V2.val]) 3 rfl rfl z37 rfl rfl (by simp [Value.oneCell']) rfl (by simp) (.inl rfl) ?_
            refine XR.nil ?_
            refine XQ.perm (perm_take [0, 2]) ?_
            refine XQ.drop (List.Sublist.cons_cons _ (List.Sublist.cons_cons _ (List.Sublist.cons _ (List.Sublist.cons _ (List.Sublist.refl _))))) ?_
            refine XQ.joined (V2, b10) (by rw [handC_add]; simpa using hV2) ⟨rfl, rfl, rfl, trivial⟩ rfl (List.Perm.refl _)
  · skip
    obtain ⟨⟨blk, n0, cp⟩, b10⟩ := q
    have hVl : n0 = (x.add (newH c l)).hs.length := by have h9 := hq.len; rw [handC_len] at h9; simp only at h9; omega
    subst hVl
    have hV : (⟨blk, (x.add (newH c l)).hs.length, cp⟩ : Vec).Is 3 (handC (x.add (newH c l)).hs) := hq
    simp only
    have hyl := add_len (x := x) (newH c l)
    have hvl : (⟨blk, (x.add (newH c l)).hs.length, cp⟩ : Vec).len = (x.add (newH c l)).hs.length := rfl
    refine XQ.then_normal ?_
    refine XC.seq ?_
    refine XC.seq ?_
    refine XC.region ?_
    refine XO.rd rfl rfl rfl (Reads.move rfl) ?_
    refine XO.rd rfl rfl rfl (Reads.len_string Tryd.underlying9 rfl) ?_
    refine XO.rd rfl rfl rfl (Reads.cmp rfl rfl rfl) ?_
    refine XO.rd rfl rfl rfl (Reads.move rfl) ?_
    refine XO.split (d := 29) rfl (fun h1 => ?_) (fun h1 => ?_)
    · skip
      simp only [cmpInt, bne_iff_ne, ne_eq] at h1
      have hk1 : ¬ key.size = 32 := by omega
      refine XO.s (wg rfl rfl rfl) rfl ?_
      refine XO.s (wg rfl rfl rfl) rfl ?_
      refine XO.s (wg rfl rfl rfl) rfl ?_
      refine XO.rd rfl rfl rfl (Reads.pick_true rfl rfl) ?_
      refine XO.nil ?_
      refine XQ.then_normal ?_
      refine XC.cond rfl (fun _ => ?_) (fun hx => by cases hx)
      refine XC.seq ?_
      refine XC.region ?_
      refine XO.rd rfl rfl rfl (bd37 (vs := []) (none0.cs none 0).toArray trivial rfl) ?_
      refine XO.store_agg (vs := none0.cs none 0) 2 rfl z37 rfl rfl (by simp [Att.cs, none0, Value.oneCell']) rfl (by simp [Att.cs]) ?_
      refine XO.rd rfl rfl rfl (Reads.assign rfl) ?_
      refine XO.nil ?_
      refine XQ.then_normal ?_
      refine XC.ret ?_
      refine XQ.then_ret ?_
      refine XQ.done2ca [] 4 rfl k37 z37 rfl rfl (WholeAt.of 2 rfl) rfl rfl (Im.le_refl _) ?_
      exact ⟨rfl, _, _, rfl, (fun y hy => by rw [grow_no1 hk1] at hy; cases hy), fun _ => ⟨rfl, rfl⟩⟩
    · skip
      simp only [cmpInt, bne_eq_false_iff_eq] at h1
      have hk1 : key.size = 32 := by omega
      refine XO.rd (wg rfl rfl rfl) rfl rfl (Reads.load_whole k37 z37 rfl (by first | exact WholeAt.of 0 rfl | exact WholeAt.of 1 rfl | exact WholeAt.of 2 rfl | exact WholeAt.of 3 rfl | exact WholeAt.of 4 rfl | exact WholeAt.of 5 rfl | exact WholeAt.of 6 rfl | exact WholeAt.of 7 rfl | exact WholeAt.of 8 rfl | exact WholeAt.of 9 rfl) (by rfl)) ?_
      refine XO.callo (vs := [_]) (L1 := [(⟨blk, (x.add (newH c l)).hs.length, cp⟩ : Vec).ent 53]) (wg rfl rfl rfl) rfl rfl en30 ⟨rfl, trivial⟩ (FSo.lendA (α := Hand) (by decide) hV (flat_hand _ _) (fun J hle hA2 => rformed_any (x.add (newH c l)) (⟨blk, (x.add (newH c l)).hs.length, cp⟩ : Vec).addr cp J hA2 (by omega))) (List.Perm.refl _) ?_
      rintro v' J' L' _ ⟨rfl, hJ', rfl⟩
      replace hJ' := hJ'.symm
      subst hJ'
      refine XO.rd (wg rfl rfl rfl) rfl rfl (Reads.not rfl) ?_
      refine XO.rd rfl rfl rfl (Reads.pick_false rfl rfl) ?_
      refine XO.nil ?_
      refine XQ.then_normal ?_
      refine XC.cond rfl (fun h2 => ?_) (fun h2 => ?_)
      · skip
        simp only [Bool.not_eq_true'] at h2
        refine XC.seq ?_
        refine XC.region ?_
        refine XO.rd rfl rfl rfl (bd37 (vs := []) (none0.cs none 0).toArray trivial rfl) ?_
        refine XO.store_agg (vs := none0.cs none 0) 2 rfl z37 rfl rfl (by simp [Att.cs, none0, Value.oneCell']) rfl (by simp [Att.cs]) ?_
        refine XO.rd rfl rfl rfl (Reads.assign rfl) ?_
        refine XO.nil ?_
        refine XQ.then_normal ?_
        refine XC.ret ?_
        refine XQ.then_ret ?_
        refine XQ.done2ca [] 4 rfl k37 z37 rfl rfl (WholeAt.of 2 rfl) rfl rfl (Im.le_refl _) ?_
        exact ⟨rfl, _, _, rfl, (fun y hy => by rw [grow_no2 (by assumption)] at hy; cases hy), fun _ => ⟨rfl, rfl⟩⟩
      · skip
        simp only [Bool.not_eq_false'] at h2
        have hf : (x.add (newH c l)).formed = true := h2
        have hle8 := formed_len hf
        have hn9 : (x.add (newH c l)).hs.length ≤ 9 := by omega
        have hsz := formed_sz hf
        have hin := formed_in hf
        have hdi := formed_d hf
        have hj3 : x.hs.length < (x.add (newH c l)).hs.length := by omega
        have ha1 := vec_addr3 hV (by omega)
        refine XC.skip ?_
        refine XQ.then_normal ?_
        refine XC.seq ?_
        refine XC.region ?_
        refine XO.rd rfl rfl rfl (fa37_1 rfl) ?_
        refine XO.rd rfl rfl rfl (Reads.load_own k35 rfl (by first | exact OwnAt.of 0 rfl rfl | exact OwnAt.of 1 rfl rfl | exact OwnAt.of 2 rfl rfl | exact OwnAt.of 3 rfl rfl | exact OwnAt.of 4 rfl rfl | exact OwnAt.of 5 rfl rfl | exact OwnAt.of 6 rfl rfl | exact OwnAt.of 7 rfl rfl | exact OwnAt.of 8 rfl rfl | exact OwnAt.of 9 rfl rfl)) ?_
        refine XO.rd (v := .int .i64 ((x.add (newH c l)).hs.length : Int)) rfl rfl rfl (Reads.len_slice Tryd.underlying35 rfl) ?_
        refine XO.rd rfl rfl rfl (Reads.sub rfl rfl (by omega)) ?_
        rw [show ((x.add (newH c l)).hs.length : Int) - 1 = (x.hs.length : Int) by omega]
        refine XO.rd rfl rfl rfl (Reads.assign rfl) ?_
        refine XO.nil ?_
        refine XQ.then_normal ?_
        refine XC.seq ?_
        refine XC.draw m_mixed (some 10) (.pure 0 (.pure 1 (.pure 2 (.pure 3 (.pure 4 (.pure 5 (.eff 6 (.eff 7 (.pure 8 (.pure 9 (.eff 10 (.done)))))))))))) _ (by kernel_rfl) (List.Sublist.refl _) ?_
        refine XR.rd rfl rfl rfl (fa37_1 rfl) ?_
        refine XR.rd rfl rfl rfl (Reads.load_own k35 rfl (by first | exact OwnAt.of 0 rfl rfl | exact OwnAt.of 1 rfl rfl | exact OwnAt.of 2 rfl rfl | exact OwnAt.of 3 rfl rfl | exact OwnAt.of 4 rfl rfl | exact OwnAt.of 5 rfl rfl | exact OwnAt.of 6 rfl rfl | exact OwnAt.of 7 rfl rfl | exact OwnAt.of 8 rfl rfl | exact OwnAt.of 9 rfl rfl)) ?_
        refine XR.rd rfl rfl rfl (Reads.move rfl) ?_
        refine XR.rd rfl rfl rfl (Reads.move rfl) ?_
        refine XR.rd rfl rfl rfl (Reads.load_whole k37 z37 rfl (by first | exact WholeAt.of 0 rfl | exact WholeAt.of 1 rfl | exact WholeAt.of 2 rfl | exact WholeAt.of 3 rfl | exact WholeAt.of 4 rfl | exact WholeAt.of 5 rfl | exact WholeAt.of 6 rfl | exact WholeAt.of 7 rfl | exact WholeAt.of 8 rfl | exact WholeAt.of 9 rfl) (by rfl)) ?_
        refine XR.rd rfl rfl rfl (Reads.move rfl) ?_
        refine XR.callo (vs := [_, _]) (L1 := [(⟨blk, (x.add (newH c l)).hs.length, cp⟩ : Vec).ent 53]) rfl rfl rfl rfl en44 ⟨rfl, rfl, trivial⟩ (FSo.lendA (α := Hand) (by decide) hV (flat_hand _ _) (fun J hle hA2 => rcontent_any (x.add (newH c l)) (⟨blk, (x.add (newH c l)).hs.length, cp⟩ : Vec).addr cp x.hs.length J hA2 (by omega) (by omega) hsz)) (List.Perm.refl _) ?_
        rintro v' J' L' _ ⟨rfl, hJ', rfl⟩
        replace hJ' := hJ'.symm
        subst hJ'
        refine ⟨.inr (List.Sublist.refl _), ?_⟩
        refine XR.callp rfl rfl rfl en43 (rseal_any key (content (x.add (newH c l)) x.hs.length) _ (formed_ct hf hj3) (by omega)) ⟨rfl, rfl, trivial⟩ (List.Sublist.refl _) ?_
        refine XR.rd rfl rfl rfl (Reads.index_slot (q := x.hs.length * 3) Tryd.underlying35 z53 rfl rfl (by omega) (by obtain ⟨_, _, h9⟩ := ha1; rw [h9]; rfl) rfl) ?_
        refine XR.rd rfl rfl rfl (fs53_2 rfl ha1) ?_
        refine XR.store_vecs (V := (⟨blk, (x.add (newH c l)).hs.length, cp⟩ : Vec)) (e := 53) (k := x.hs.length * 3 + 2) (v0 := .string zero32) 0 rfl rfl z9 rfl rfl rfl hV rfl (add_last rfl) rfl ?_
        intro V3 hV3 hval
        rw [handC_set (x.add (newH c l)).hs _ hj3, grown_set rfl hj3] at hV3
        have hV4 : V3.Is 3 (handC (grown key x c l).hs) := hV3
        rw [← hval]
        refine XR.nil ?_
        refine XQ.then_normal ?_
        refine XC.seq ?_
        refine XC.region ?_
        refine XO.rd rfl rfl rfl (Reads.load_whole k37 z37 rfl (by first | exact WholeAt.of 0 rfl | exact WholeAt.of 1 rfl | exact WholeAt.of 2 rfl | exact WholeAt.of 3 rfl | exact WholeAt.of 4 rfl | exact WholeAt.of 5 rfl | exact WholeAt.of 6 rfl | exact WholeAt.of 7 rfl | exact WholeAt.of 8 rfl | exact WholeAt.of 9 rfl) (by rfl)) ?_
        refine XO.store_agg (vs := [.int .i64 x.d.a, .int .i64 x.d.b, .int .i64 x.d.t, .int .i64 x.d.n, V3.val]) 2 rfl z37 rfl rfl (by simp [Value.oneCell']) rfl (by simp) ?_
        refine XO.rd rfl rfl rfl (Reads.assign rfl) ?_
        refine XO.nil ?_
        refine XQ.then_normal ?_
        refine XC.ret ?_
        refine XQ.give_vec (fun hb => ?_)
        refine XQ.done2ca [] 3 rfl k37 z37 rfl rfl (WholeAt.of 1 rfl) rfl rfl (Vec.le_give hb) ?_
        obtain ⟨a9, c9, h91, h92, h93⟩ := (Vec.sl (e := 53) (α := Hand) (by decide) hV4 (flat_hand _ _) hb).2.ex
        have hgr := grow_some (c := c) (l := l) hk1 hf
        exact ⟨rfl, _, _, rfl, (fun y hy => by rw [hgr] at hy; cases hy; exact ⟨rfl, a9, c9, congrArg (fun z => Value.agg #[.int .i64 x.d.a, .int .i64 x.d.b, .int .i64 x.d.t, .int .i64 x.d.n, z]) h91, h92, h93⟩), fun hy => by rw [hgr] at hy; cases hy⟩

end Go.Proofs.YtmlliafhpbfdbaaDoor
