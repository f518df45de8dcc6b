/- Walks: the packets that go out, collected. -/
import Derived.Test.YtkjhhifhgcihpaaDoorD3
namespace Go.Proofs.YtkjhhifhgcihpaaDoor
open Go.Xe Go.Sh Go Go.Lk

theorem appseq_any (bx b : Nat) (x : LEnd) (h : EH) (I : Im) (hE : EndIs x h) : FSo Tryd.prog 55 [.slice none 0 0, .func (.func 56) #[] #[.pointer (some ⟨bx, 0, none⟩)]] I (some (bx, .cells #[.pointer (some ⟨b, 0, none⟩)] 25 (0, 0)) :: endL b x h) (fun u I' L' => ∃ V : Vec, u = V.val ∧ I' = I ∧ L' = V.ent 24 :: (some (bx, .cells #[.pointer (some ⟨b, 0, none⟩)] 25 (0, 0)) :: endL b x h) ∧ V.Is 4 (pktC (bareF x))) := by
  refine FSo.introM (n := 13) Tryd.func55 rfl rfl rfl (fun K Lf => ?_)
  refine XC.seq ?_
  refine XC.region ?_
  refine XO.box1 rfl rfl rfl rfl (fun b2 => ?_)
  refine XO.rd rfl rfl rfl (Reads.assign rfl) ?_
  refine XO.nil ?_
  refine XQ.then_normal ?_
  refine XC.seq ?_
  refine XC.seq ?_
  refine XC.region ?_
  refine XO.rd rfl rfl rfl (Reads.move rfl) ?_
  refine XO.nil ?_
  refine XQ.then_normal ?_
  refine XC.block ?_
  refine XC.vec0 24 ?_
  refine XC.rangeFunc (f := 56) (fi := #[]) (ca := #[.pointer (some ⟨bx, 0, none⟩)]) (L1 := (some (bx, .cells #[.pointer (some ⟨b, 0, none⟩)] 25 (0, 0)) :: endL b x h) ++ [some (b2, .cells #[Vec.nil.val] 37 (0, 0)), Vec.nil.ent 24]) (Lf := Lf) rfl en56 (perm_take [2, 2, 2, 2, 1, 0]) (fun l D rc hR => ?_)
  let J : Nat → Own → Prop := fun k L => ∃ V : Vec, L = [some (l, lp rc .ready none), some (D, .deferred (some [])), some (b2, .cells #[V.val] 37 (0, 0)), V.ent 24] ∧ V.Is 4 (pktC ((bareF x).take k))
  refine ⟨_, FSo.perm (perm_take [2, 2, 2, 2]) (pk1_any l bx b x h _ [some (l, lp rc .ready none), some (D, .deferred (some [])), some (b2, .cells #[Vec.nil.val] 37 (0, 0)), Vec.nil.ent 24] J hE ⟨Vec.nil, rfl, Vec.nil_is 4⟩ (fun k L hk hJ => ?_)), ?_⟩
  · skip
    obtain ⟨V, rfl, hV⟩ := hJ
    have hb4 := bareF_len x
    have hVl : V.len = k := by have := hV.len; rw [pktC_len, List.length_take] at this; omega
    refine YS.intro hR rfl rfl (fun K Lf => ?_)
    refine XC.region ?_
    refine XO.alloc (cs := #[.int .i64 0, .int .i64 0, .string ⟨#[]⟩, .string ⟨#[]⟩]) rfl rfl zo24 rfl (fun b5 => ?_)
    refine XO.store_agg (vs := (bareF x)[k].cells) 0 rfl z24 rfl rfl (by intro v hv; simp at hv; rcases hv with rfl | rfl | rfl | rfl <;> rfl) rfl (Nat.le_refl 4) ?_
    refine XO.own_eq (congrArg (fun c => some (b5, Obj.cells c 24 (0, 0)) :: _) (show _ = (bareF x)[k].cells.toArray from rfl)) ?_
    refine XO.nil ?_
    refine XQ.perm (perm_take [1]) ?_
    refine XQ.begin ?_
    refine XC.block ?_
    refine XC.region ?_
    refine XO.rd rfl rfl rfl (Reads.load_own k37 rfl (by first | exact OwnAt.of 0 rfl rfl | exact OwnAt.of 1 rfl rfl | exact OwnAt.of 2 rfl rfl | exact OwnAt.of 3 rfl rfl | exact OwnAt.of 4 rfl rfl | exact OwnAt.of 5 rfl rfl | exact OwnAt.of 6 rfl rfl | exact OwnAt.of 7 rfl rfl | exact OwnAt.of 8 rfl rfl)) ?_
    refine XO.rd rfl rfl rfl (Reads.load_whole (c := (bareF x)[k].cells.toArray) k24 z24 rfl (WholeAt.of 1 rfl) rfl) ?_
    refine XO.buildL [(bareF x)[k].val] (bareF x)[k].cells rfl rfl Tryd.underlying37 el24 rfl (by simp) ⟨rfl, rfl, trivial⟩ rfl rfl (fun bu => ?_)
    refine XO.append (V := V) (news := (bareF x)[k].cells) 5 rfl rfl Tryd.underlying37 el24 rfl rfl hV rfl (.slice Tryd.underlying37 (readable_row 0 rfl rfl) rfl (by intro v hv; simp at hv; rcases hv with rfl | rfl | rfl | rfl <;> rfl)) (by omega) (by omega) ?_
    intro V' hV' _
    refine XO.store 4 rfl z37 rfl rfl rfl rfl (by simp) ?_
    refine XO.nil ?_
    refine XQ.block_normal ?_
    refine XQ.dropn 1 ?_
    refine XQ.drop (L' := some (l, lp rc .busy none) :: ([some (D, .deferred (some [])), some (b2, .cells #[V'.val] 37 (0, 0)), V'.ent 24] ++ Lf)) (List.Sublist.cons_cons _ (List.Sublist.cons _ (List.Sublist.refl _))) ?_
    refine XQ.round_normal (L := [some (D, .deferred (some [])), some (b2, .cells #[V'.val] 37 (0, 0)), V'.ent 24]) (Im.le_refl _) ?_
    exact ⟨rfl, rfl, V', rfl, by rw [List.take_succ_eq_append_getElem hk, pktC_append]; simpa [pktC] using hV'⟩
  · skip
    rintro u I4 L4 _ ⟨hI4, L5, rfl, V, rfl, hV⟩
    replace hI4 := hI4.symm
    subst hI4
    refine ⟨.ready, none, (some (bx, .cells #[.pointer (some ⟨b, 0, none⟩)] 25 (0, 0)) :: endL b x h) ++ [some (D, .deferred (some [])), some (b2, .cells #[V.val] 37 (0, 0)), V.ent 24], perm_take [4], by simp, ?_⟩
    refine XQ.block_normal ?_
    refine XQ.then_normal ?_
    refine XC.seq ?_
    refine XC.region ?_
    refine XO.rd rfl rfl rfl (Reads.load_own k37 rfl (by first | exact OwnAt.of 0 rfl rfl | exact OwnAt.of 1 rfl rfl | exact OwnAt.of 2 rfl rfl | exact OwnAt.of 3 rfl rfl | exact OwnAt.of 4 rfl rfl | exact OwnAt.of 5 rfl rfl | exact OwnAt.of 6 rfl rfl | exact OwnAt.of 7 rfl rfl | exact OwnAt.of 8 rfl rfl)) ?_
    refine XO.rd rfl rfl rfl (Reads.assign rfl) ?_
    refine XO.nil ?_
    refine XQ.then_normal ?_
    refine XC.ret ?_
    refine XQ.unmark 4 rfl ?_
    refine XQ.ofM ?_
    refine XQ.perm (perm_take [5, 0, 0, 0, 0]) ?_
    refine XQ.drop (L' := (V.ent 24 :: (some (bx, .cells #[.pointer (some ⟨b, 0, none⟩)] 25 (0, 0)) :: endL b x h)) ++ Lf) (List.Sublist.append (List.Sublist.refl (V.ent 24 :: (some (bx, .cells #[.pointer (some ⟨b, 0, none⟩)] 25 (0, 0)) :: endL b x h))) (List.Sublist.cons _ (List.Sublist.refl _))) ?_
    refine XQ.done1 (L := V.ent 24 :: (some (bx, .cells #[.pointer (some ⟨b, 0, none⟩)] 25 (0, 0)) :: endL b x h)) rfl rfl (Im.le_refl _) ?_
    exact ⟨V, rfl, rfl, rfl, by rw [List.take_length] at hV; exact hV⟩

theorem collect_any (bx b : Nat) (x : LEnd) (h : EH) (I : Im) (hE : EndIs x h) : FSo Tryd.prog 46 [.func (.func 56) #[] #[.pointer (some ⟨bx, 0, none⟩)]] I (some (bx, .cells #[.pointer (some ⟨b, 0, none⟩)] 25 (0, 0)) :: endL b x h) (fun u I' L' => ∃ V : Vec, u = V.val ∧ I' = I ∧ L' = V.ent 24 :: (some (bx, .cells #[.pointer (some ⟨b, 0, none⟩)] 25 (0, 0)) :: endL b x h) ∧ V.Is 4 (pktC (bareF x))) := by
  refine FSo.intro (n := 5) Tryd.func46 rfl rfl rfl (fun K Lf => ?_)
  refine XC.seq ?_
  refine XC.region ?_
  refine XO.rd rfl rfl rfl (Reads.assign rfl) ?_
  refine XO.nil ?_
  refine XQ.then_normal ?_
  refine XC.seq ?_
  refine XC.region ?_
  refine XO.rd rfl rfl rfl (Reads.move rfl) ?_
  refine XO.callo (vs := [_, _]) (L1 := (some (bx, .cells #[.pointer (some ⟨b, 0, none⟩)] 25 (0, 0)) :: endL b x h)) rfl rfl rfl en55 ⟨rfl, rfl, trivial⟩ (appseq_any bx b x h _ hE) (List.Perm.refl _) ?_
  rintro v I' L' _ ⟨V, rfl, hI', rfl, hV⟩
  replace hI' := hI'.symm
  subst hI'
  refine XO.rd rfl rfl rfl (Reads.assign rfl) ?_
  refine XO.nil ?_
  refine XQ.then_normal ?_
  refine XC.ret ?_
  refine XQ.done1 (L := V.ent 24 :: (some (bx, .cells #[.pointer (some ⟨b, 0, none⟩)] 25 (0, 0)) :: endL b x h)) rfl rfl (Im.le_refl _) ?_
  exact ⟨V, rfl, rfl, rfl, hV⟩

theorem packets_any (b : Nat) (I : Im) : FSo Tryd.prog 47 [.pointer (some ⟨b, 0, none⟩)] I [] (fun u I' L' => ∃ bx, u = .func (.func 56) #[] #[.pointer (some ⟨bx, 0, none⟩)] ∧ I' = I ∧ L' = [some (bx, .cells #[.pointer (some ⟨b, 0, none⟩)] 25 (0, 0))]) := by
  refine FSo.intro (n := 4) Tryd.func47 rfl rfl rfl (fun K Lf => ?_)
  refine XC.seq ?_
  refine XC.region ?_
  refine XO.box1 rfl rfl rfl rfl (fun b1 => ?_)
  refine XO.rd rfl rfl rfl (Reads.assign rfl) ?_
  refine XO.nil ?_
  refine XQ.then_normal ?_
  refine XC.seq ?_
  refine XC.region ?_
  refine XO.rd rfl rfl rfl (Reads.makeFunc (fi := []) (fv := []) (ca := [.tmp 1]) (cv := [_]) trivial ⟨rfl, trivial⟩) ?_
  refine XO.rd rfl rfl rfl (Reads.assign rfl) ?_
  refine XO.nil ?_
  refine XQ.then_normal ?_
  refine XC.ret ?_
  refine XQ.done1 (L := [some (b1, .cells #[.pointer (some ⟨b, 0, none⟩)] 25 (0, 0))]) rfl rfl (Im.le_refl _) ?_
  exact ⟨b1, rfl, rfl, rfl⟩

end Go.Proofs.YtkjhhifhgcihpaaDoor
