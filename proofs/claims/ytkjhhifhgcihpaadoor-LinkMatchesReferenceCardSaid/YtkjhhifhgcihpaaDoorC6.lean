/- Walks: leaves and nodes. -/
import Derived.Test.YtkjhhifhgcihpaaDoorC5
import Derived.Test.YtkjhhifhgcihpaaDoorCJ
namespace Go.Proofs.YtkjhhifhgcihpaaDoor
open Go.Xe Go.Sh Go

theorem marked_any (m : ByteArray) (I : Im) : FSo Tryd.prog 67 [.string m] I [] (fun u I' L' => ∃ b, u = .func (.func 70) #[] #[.pointer (some ⟨b, 0, none⟩)] ∧ I' = I ∧ L' = [some (b, .cells #[.string m] 9 (0, 0))]) := by
  refine FSo.intro (n := 4) Tryd.func67 rfl rfl rfl (fun K Lf => ?_)
  refine XC.seq ?_
  refine XC.region ?_
  refine XO.box1 rfl rfl rfl rfl (fun b1 => ?_)
  refine XO.rd rfl rfl rfl (Reads.assign rfl) ?_
  refine XO.nil ?_
  refine XQ.then_normal ?_
  refine XC.seq ?_
  refine XC.region ?_
  refine XO.rd rfl rfl rfl (Reads.makeFunc (fi := []) (fv := []) (ca := [.tmp 1]) (cv := [_]) trivial ⟨rfl, trivial⟩) ?_
  refine XO.rd rfl rfl rfl (Reads.assign rfl) ?_
  refine XO.nil ?_
  refine XQ.then_normal ?_
  refine XC.ret ?_
  refine XQ.done1 (L := [some (b1, .cells #[.string m] 9 (0, 0))]) rfl rfl (Im.le_refl _) ?_
  exact ⟨b1, rfl, rfl, rfl⟩

theorem marked1_any (m : ByteArray) (a : Option Addr) (cap b1 : Nat) (xs : List ByteArray) (I : Im) (hA : Arr I a xs) (hcap : xs.length ≤ cap) (hN : xs.length ≤ 100000) (hm : m.size ≤ 100) (hl : (xs.flatMap (·.data.toList)).length ≤ 100000000) (hG : ∃ e fr, I 0 = some (.cells (wC KR).toArray e fr)) : FSo Tryd.prog 70 [.slice a xs.length cap, .pointer (some ⟨b1, 0, none⟩)] I [some (b1, .cells #[.string m] 9 (0, 0))] (fun u I' L' => u = .string (sha (m ++ catS xs)) ∧ I' = I ∧ L' = [some (b1, .cells #[.string m] 9 (0, 0))]) := by
  have hcs := catS_size xs
  have hml : (m ++ catS xs).size = m.size + (catS xs).size := ByteArray.size_append
  refine FSo.intro (n := 9) Tryd.func70 rfl rfl rfl (fun K Lf => ?_)
  refine XC.seq ?_
  refine XC.region ?_
  refine XO.rd rfl rfl rfl (Reads.assign rfl) ?_
  refine XO.nil ?_
  refine XQ.then_normal ?_
  refine XC.seq ?_
  refine XC.draw m_mixed none (.pure 0 (.pure 1 (.eff 2 (.pure 3 (.eff 4 (.pure 5 (.done))))))) _ (by kernel_rfl) (List.Sublist.refl _) ?_
  refine XR.rd rfl rfl rfl (Reads.load_own k9 rfl (by first | exact OwnAt.of 0 rfl rfl | exact OwnAt.of 1 rfl rfl | exact OwnAt.of 2 rfl rfl | exact OwnAt.of 3 rfl rfl | exact OwnAt.of 4 rfl rfl | exact OwnAt.of 5 rfl rfl)) ?_
  refine XR.rd rfl rfl rfl (Reads.move rfl) ?_
  refine XR.callp rfl rfl rfl en72 (join_any a cap xs _ hA (by omega) (by omega) (by omega)) ⟨rfl, rfl, trivial⟩ (List.Sublist.refl _) ?_
  refine XR.rd rfl rfl rfl (Reads.sadd rfl rfl (by omega)) ?_
  refine XR.callp rfl rfl rfl en71 (FC.pure (sum_all _ _ (by omega) hG)) ⟨rfl, trivial⟩ (List.Sublist.refl _) ?_
  refine XR.rd rfl rfl rfl (Reads.assign rfl) ?_
  refine XR.nil ?_
  refine XQ.then_normal ?_
  refine XC.ret ?_
  refine XQ.done1 (L := [some (b1, .cells #[.string m] 9 (0, 0))]) rfl rfl (Im.le_refl _) ?_
  exact ⟨rfl, rfl, rfl⟩

theorem leaf_all (s : ByteArray) (I : Im) (hs : s.size ≤ 10000000) (hG : ∃ e fr, I 0 = some (.cells (wC KR).toArray e fr)) : FC Tryd.prog 59 [.string s] I (fun u I' => u = .string (leaf s)) := by
  refine FSo.intro (n := 7) Tryd.func59 rfl rfl rfl (fun K Lf => ?_)
  refine XC.seq ?_
  refine XC.region ?_
  refine XO.rd rfl rfl rfl (Reads.assign rfl) ?_
  refine XO.nil ?_
  refine XQ.then_normal ?_
  refine XC.seq ?_
  refine XC.region ?_
  refine XO.callo (vs := [_]) (L1 := []) rfl rfl rfl en67 ⟨rfl, trivial⟩ (marked_any ⟨#[0]⟩ _) (List.Perm.refl _) ?_
  rintro v' J' L' _ ⟨bm, rfl, hJ', rfl⟩
  replace hJ' := hJ'.symm
  subst hJ'
  refine XO.rd rfl rfl rfl (Reads.move rfl) ?_
  refine XO.lit (α := ByteArray) [s] [.string s] [.string s] rfl rfl Tryd.underlying44 el9 rfl (by simp) ⟨rfl, rfl, trivial⟩ rfl rfl (by decide) rfl (.cons (cs := [.string s]) rfl (.nil)) (fun bl J1 hle1 hsl => ?_)
  have hG1 : ∃ e fr, J1 0 = some (.cells (wC KR).toArray e fr) := let ⟨e, fr, h⟩ := hG; ⟨e, fr, hle1 _ _ h⟩
  refine XO.callo (vs := [_]) (L1 := [some (bm, .cells #[.string ⟨#[0]⟩] 9 (0, 0))]) rfl rfl rfl en70 ⟨rfl, trivial⟩ (marked1_any ⟨#[0]⟩ _ _ bm [s] J1 hsl.arr.1 (by simp) (by simp) (by show 1 ≤ 100; decide) (by simp; omega) hG1) (List.Perm.refl _) ?_
  rintro v' J' L' _ ⟨rfl, hJ', rfl⟩
  replace hJ' := hJ'.symm
  subst hJ'
  refine XO.rd rfl rfl rfl (Reads.assign rfl) ?_
  refine XO.nil ?_
  refine XQ.then_normal ?_
  refine XC.ret ?_
  refine XQ.dropn 1 ?_
  refine XQ.done1 (L := []) rfl rfl hle1 ?_
  exact ⟨rfl, by rw [catS_one]; rfl⟩

theorem node_all (a b : ByteArray) (I : Im) (ha : a.size ≤ 10000000) (hb : b.size ≤ 10000000) (hG : ∃ e fr, I 0 = some (.cells (wC KR).toArray e fr)) : FC Tryd.prog 58 [.string a, .string b] I (fun u I' => u = .string (node a b)) := by
  refine FSo.intro (n := 10) Tryd.func58 rfl rfl rfl (fun K Lf => ?_)
  refine XC.seq ?_
  refine XC.region ?_
  refine XO.rd rfl rfl rfl (Reads.assign rfl) ?_
  refine XO.nil ?_
  refine XQ.then_normal ?_
  refine XC.seq ?_
  refine XC.region ?_
  refine XO.callo (vs := [_]) (L1 := []) rfl rfl rfl en67 ⟨rfl, trivial⟩ (marked_any ⟨#[1]⟩ _) (List.Perm.refl _) ?_
  rintro v' J' L' _ ⟨bm, rfl, hJ', rfl⟩
  replace hJ' := hJ'.symm
  subst hJ'
  refine XO.rd rfl rfl rfl (Reads.move rfl) ?_
  refine XO.rd rfl rfl rfl (Reads.move rfl) ?_
  refine XO.lit (α := ByteArray) [a, b] [.string a, .string b] [.string a, .string b] rfl rfl Tryd.underlying44 el9 rfl (by simp) ⟨rfl, rfl, rfl, rfl, trivial⟩ rfl rfl (by decide) rfl (.cons (cs := [.string a]) rfl ( .cons (cs := [.string b]) rfl (.nil))) (fun bl J1 hle1 hsl => ?_)
  have hG1 : ∃ e fr, J1 0 = some (.cells (wC KR).toArray e fr) := let ⟨e, fr, h⟩ := hG; ⟨e, fr, hle1 _ _ h⟩
  refine XO.callo (vs := [_]) (L1 := [some (bm, .cells #[.string ⟨#[1]⟩] 9 (0, 0))]) rfl rfl rfl en70 ⟨rfl, trivial⟩ (marked1_any ⟨#[1]⟩ _ _ bm [a, b] J1 hsl.arr.1 (by simp) (by simp) (by show 1 ≤ 100; decide) (by simp; omega) hG1) (List.Perm.refl _) ?_
  rintro v' J' L' _ ⟨rfl, hJ', rfl⟩
  replace hJ' := hJ'.symm
  subst hJ'
  refine XO.rd rfl rfl rfl (Reads.assign rfl) ?_
  refine XO.nil ?_
  refine XQ.then_normal ?_
  refine XC.ret ?_
  refine XQ.dropn 1 ?_
  refine XQ.done1 (L := []) rfl rfl hle1 ?_
  exact ⟨rfl, by rw [catS_two, ← bytes_assoc]; rfl⟩

end Go.Proofs.YtkjhhifhgcihpaaDoor
