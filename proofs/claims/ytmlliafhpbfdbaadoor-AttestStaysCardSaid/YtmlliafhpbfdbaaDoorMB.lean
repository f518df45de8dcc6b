/- Walks: leaves and nodes. Walks: integers and strings, encoded. -/
import Derived.Test.YtmlliafhpbfdbaaDoorMA
import Derived.Test.YtmlliafhpbfdbaaDoorCJ
namespace Go.Proofs.YtmlliafhpbfdbaaDoor
open Go.Xe Go.Sh Go

theorem marked_any (m : ByteArray) (I : Im) : FSo Tryd.prog 88 [.string m] I [] (fun u I' L' => ∃ b, u = .func (.func 97) #[] #[.pointer (some ⟨b, 0, none⟩)] ∧ I' = I ∧ L' = [some (b, .cells #[.string m] 9 (0, 0))]) := by
  refine FSo.intro (n := 4) Tryd.func88 rfl rfl rfl (fun K Lf => ?_)
  refine XC.seq ?_
  refine XC.region ?_
  refine XO.box1 rfl rfl rfl rfl (fun b1 => ?_)
  refine XO.rd rfl rfl rfl (Reads.assign rfl) ?_
  refine XO.nil ?_
  refine XQ.then_normal ?_
  refine XC.seq ?_
  refine XC.region ?_
  refine XO.rd rfl rfl rfl (Reads.makeFunc (fi := []) (fv := []) (ca := [.tmp 1]) (cv := [_]) trivial ⟨rfl, trivial⟩) ?_
  refine XO.rd rfl rfl rfl (Reads.assign rfl) ?_
  refine XO.nil ?_
  refine XQ.then_normal ?_
  refine XC.ret ?_
  refine XQ.done1 (L := [some (b1, .cells #[.string m] 9 (0, 0))]) rfl rfl (Im.le_refl _) ?_
  exact ⟨b1, rfl, rfl, rfl⟩

theorem marked1_any (m : ByteArray) (a : Option Addr) (cap b1 : Nat) (xs : List ByteArray) (I : Im) (hA : Arr I a xs) (hcap : xs.length ≤ cap) (hN : xs.length ≤ 100000) (hm : m.size ≤ 100) (hl : (xs.flatMap (·.data.toList)).length ≤ 100000000) (hG : ∃ e fr, I 0 = some (.cells (wC KR).toArray e fr)) : FSo Tryd.prog 97 [.slice a xs.length cap, .pointer (some ⟨b1, 0, none⟩)] I [some (b1, .cells #[.string m] 9 (0, 0))] (fun u I' L' => u = .string (sha (m ++ catS xs)) ∧ I' = I ∧ L' = [some (b1, .cells #[.string m] 9 (0, 0))]) := by
  have hcs := catS_size xs
  have hml : (m ++ catS xs).size = m.size + (catS xs).size := ByteArray.size_append
  refine FSo.intro (n := 9) Tryd.func97 rfl rfl rfl (fun K Lf => ?_)
  refine XC.seq ?_
  refine XC.region ?_
  refine XO.rd rfl rfl rfl (Reads.assign rfl) ?_
  refine XO.nil ?_
  refine XQ.then_normal ?_
  refine XC.seq ?_
  refine XC.draw m_mixed none (.pure 0 (.pure 1 (.eff 2 (.pure 3 (.eff 4 (.pure 5 (.done))))))) _ (by kernel_rfl) (List.Sublist.refl _) ?_
  refine XR.rd rfl rfl rfl (Reads.load_own k9 rfl (by first | exact OwnAt.of 0 rfl rfl | exact OwnAt.of 1 rfl rfl | exact OwnAt.of 2 rfl rfl | exact OwnAt.of 3 rfl rfl | exact OwnAt.of 4 rfl rfl | exact OwnAt.of 5 rfl rfl)) ?_
  refine XR.rd rfl rfl rfl (Reads.move rfl) ?_
  refine XR.callp rfl rfl rfl en99 (join_any a cap xs _ hA (by omega) (by omega) (by omega)) ⟨rfl, rfl, trivial⟩ (List.Sublist.refl _) ?_
  refine XR.rd rfl rfl rfl (Reads.sadd rfl rfl (by omega)) ?_
  refine XR.callp rfl rfl rfl en98 (FC.pure (sum_all _ _ (by omega) hG)) ⟨rfl, trivial⟩ (List.Sublist.refl _) ?_
  refine XR.rd rfl rfl rfl (Reads.assign rfl) ?_
  refine XR.nil ?_
  refine XQ.then_normal ?_
  refine XC.ret ?_
  refine XQ.done1 (L := [some (b1, .cells #[.string m] 9 (0, 0))]) rfl rfl (Im.le_refl _) ?_
  exact ⟨rfl, rfl, rfl⟩

theorem leaf_all (s : ByteArray) (I : Im) (hs : s.size ≤ 10000000) (hG : ∃ e fr, I 0 = some (.cells (wC KR).toArray e fr)) : FC Tryd.prog 81 [.string s] I (fun u _I' => u = .string (leaf s)) := by
  refine FSo.intro (n := 7) Tryd.func81 rfl rfl rfl (fun K Lf => ?_)
  refine XC.seq ?_
  refine XC.region ?_
  refine XO.rd rfl rfl rfl (Reads.assign rfl) ?_
  refine XO.nil ?_
  refine XQ.then_normal ?_
  refine XC.seq ?_
  refine XC.region ?_
  refine XO.callo (vs := [_]) (L1 := []) rfl rfl rfl en88 ⟨rfl, trivial⟩ (marked_any ⟨#[0]⟩ _) (List.Perm.refl _) ?_
  rintro v' J' L' _ ⟨bm, rfl, hJ', rfl⟩
  replace hJ' := hJ'.symm
  subst hJ'
  refine XO.rd rfl rfl rfl (Reads.move rfl) ?_
  refine XO.lit (α := ByteArray) [s] [.string s] [.string s] rfl rfl Tryd.underlying29 el9 rfl (by simp) ⟨rfl, rfl, trivial⟩ rfl rfl (by decide) rfl (.cons (cs := [.string s]) rfl (.nil)) (fun bl J1 hle1 hsl => ?_)
  have hG1 : ∃ e fr, J1 0 = some (.cells (wC KR).toArray e fr) := let ⟨e, fr, h⟩ := hG; ⟨e, fr, hle1 _ _ h⟩
  refine XO.callo (vs := [_]) (L1 := [some (bm, .cells #[.string ⟨#[0]⟩] 9 (0, 0))]) rfl rfl rfl en97 ⟨rfl, trivial⟩ (marked1_any ⟨#[0]⟩ _ _ bm [s] J1 hsl.arr.1 (by simp) (by simp) (by show 1 ≤ 100; decide) (by simp; omega) hG1) (List.Perm.refl _) ?_
  rintro v' J' L' _ ⟨rfl, hJ', rfl⟩
  replace hJ' := hJ'.symm
  subst hJ'
  refine XO.rd rfl rfl rfl (Reads.assign rfl) ?_
  refine XO.nil ?_
  refine XQ.then_normal ?_
  refine XC.ret ?_
  refine XQ.dropn 1 ?_
  refine XQ.done1 (L := []) rfl rfl hle1 ?_
  exact ⟨rfl, by rw [catS_one]; rfl⟩

theorem node_all (a b : ByteArray) (I : Im) (ha : a.size ≤ 10000000) (hb : b.size ≤ 10000000) (hG : ∃ e fr, I 0 = some (.cells (wC KR).toArray e fr)) : FC Tryd.prog 80 [.string a, .string b] I (fun u _I' => u = .string (node a b)) := by
  refine FSo.intro (n := 10) Tryd.func80 rfl rfl rfl (fun K Lf => ?_)
  refine XC.seq ?_
  refine XC.region ?_
  refine XO.rd rfl rfl rfl (Reads.assign rfl) ?_
  refine XO.nil ?_
  refine XQ.then_normal ?_
  refine XC.seq ?_
  refine XC.region ?_
  refine XO.callo (vs := [_]) (L1 := []) rfl rfl rfl en88 ⟨rfl, trivial⟩ (marked_any ⟨#[1]⟩ _) (List.Perm.refl _) ?_
  rintro v' J' L' _ ⟨bm, rfl, hJ', rfl⟩
  replace hJ' := hJ'.symm
  subst hJ'
  refine XO.rd rfl rfl rfl (Reads.move rfl) ?_
  refine XO.rd rfl rfl rfl (Reads.move rfl) ?_
  refine XO.lit (α := ByteArray) [a, b] [.string a, .string b] [.string a, .string b] rfl rfl Tryd.underlying29 el9 rfl (by simp) ⟨rfl, rfl, rfl, rfl, trivial⟩ rfl rfl (by decide) rfl (.cons (cs := [.string a]) rfl ( .cons (cs := [.string b]) rfl (.nil))) (fun bl J1 hle1 hsl => ?_)
  have hG1 : ∃ e fr, J1 0 = some (.cells (wC KR).toArray e fr) := let ⟨e, fr, h⟩ := hG; ⟨e, fr, hle1 _ _ h⟩
  refine XO.callo (vs := [_]) (L1 := [some (bm, .cells #[.string ⟨#[1]⟩] 9 (0, 0))]) rfl rfl rfl en97 ⟨rfl, trivial⟩ (marked1_any ⟨#[1]⟩ _ _ bm [a, b] J1 hsl.arr.1 (by simp) (by simp) (by show 1 ≤ 100; decide) (by simp; omega) hG1) (List.Perm.refl _) ?_
  rintro v' J' L' _ ⟨rfl, hJ', rfl⟩
  replace hJ' := hJ'.symm
  subst hJ'
  refine XO.rd rfl rfl rfl (Reads.assign rfl) ?_
  refine XO.nil ?_
  refine XQ.then_normal ?_
  refine XC.ret ?_
  refine XQ.dropn 1 ?_
  refine XQ.done1 (L := []) rfl rfl hle1 ?_
  exact ⟨rfl, by rw [catS_two, ← bytes_assoc]; rfl⟩

end Go.Proofs.YtmlliafhpbfdbaaDoor
namespace Go.Proofs.YtmlliafhpbfdbaaDoor
open Go.Xe Go.Sh Go

theorem groups_any (z : Nat) (I : Im) : FSo Tryd.prog 95 [.int .u64 ((z : Nat) : Int)] I [] (fun u I' L' => ∃ b, u = .func (.func 104) #[] #[.pointer (some ⟨b, 0, none⟩)] ∧ I' = I ∧ L' = [some (b, .cells #[.int .u64 ((z : Nat) : Int)] 126 (0, 0))]) := by
  refine FSo.intro (n := 4) Tryd.func95 rfl rfl rfl (fun K Lf => ?_)
  refine XC.seq ?_
  refine XC.region ?_
  refine XO.box1 rfl rfl rfl rfl (fun b1 => ?_)
  refine XO.rd rfl rfl rfl (Reads.assign rfl) ?_
  refine XO.nil ?_
  refine XQ.then_normal ?_
  refine XC.seq ?_
  refine XC.region ?_
  refine XO.rd rfl rfl rfl (Reads.makeFunc (fi := []) (fv := []) (ca := [.tmp 1]) (cv := [_]) trivial ⟨rfl, trivial⟩) ?_
  refine XO.rd rfl rfl rfl (Reads.assign rfl) ?_
  refine XO.nil ?_
  refine XQ.then_normal ?_
  refine XC.ret ?_
  refine XQ.done1 (L := [some (b1, .cells #[.int .u64 ((z : Nat) : Int)] 126 (0, 0))]) rfl rfl (Im.le_refl _) ?_
  exact ⟨b1, rfl, rfl, rfl⟩

theorem groups1_any (l b : Nat) (z : Nat) (I : Im) (L0 : Own) (J : Nat → Own → Prop) (hz : z < 18446744073709551616) (h0 : J 0 L0) (hy : ∀ i L, J i L → (∀ j, j < i → 128 ≤ z / 128 ^ j) → YS Tryd.prog l [.int .u8 ((z / 128 ^ i % 128 : Nat) : Int), .bool (cmpInt .lss ((z / 128 ^ i : Nat) : Int) 128)] I L (fun b I' L' => b = true ∧ I' = I ∧ J (i + 1) L')) : FSo Tryd.prog 104 [.func (.yield l) #[] #[], .pointer (some ⟨b, 0, none⟩)] I (some (b, .cells #[.int .u64 ((z : Nat) : Int)] 126 (0, 0)) :: L0) (fun _u I' L' => I' = I ∧ ∃ i L1, (∀ j, j < i → 128 ≤ z / 128 ^ j) ∧ z / 128 ^ i < 128 ∧ L' = some (b, .cells #[.int .u64 ((z / 128 ^ i : Nat) : Int)] 126 (0, 0)) :: L1 ∧ J (i + 1) L1) := by
  refine FSo.intro (n := 18) Tryd.func104 rfl rfl rfl (fun K Lf => ?_)
  refine XC.block ?_
  refine XC.own_eq (L' := some (b, .cells #[.int .u64 ((z / 128 ^ 0 : Nat) : Int)] 126 (0, 0)) :: (L0 ++ Lf)) (by simp) ?_
  refine XC.loop (ι := Nat × Own) (fun q => [(0, .func (.yield l) #[] #[]), (1, .pointer (some ⟨b, 0, none⟩))]) (fun q => I) (fun q => some (b, .cells #[.int .u64 ((z / 128 ^ q.1 : Nat) : Int)] 126 (0, 0)) :: (q.2 ++ Lf)) (fun q => (∀ j, j < q.1 → 128 ≤ z / 128 ^ j) ∧ J q.1 q.2) (fun q => z / 128 ^ q.1) (0, L0) ⟨fun _ h => absurd h (Nat.not_lt_zero _), h0⟩ ⟨rfl, rfl, trivial⟩ rfl (List.Perm.refl _) (fun q hq => ?_)
  obtain ⟨i, L1⟩ := q
  obtain ⟨hlow, hJ⟩ := hq
  simp only at hlow hJ ⊢
  have hzi : z / 128 ^ i < 18446744073709551616 := Nat.lt_of_le_of_lt (Nat.div_le_self _ _) hz
  refine XC.block ?_
  refine XC.seq ?_
  refine XC.region ?_
  refine XO.rd rfl rfl rfl (Reads.load_own k126 rfl (by first | exact OwnAt.of 0 rfl rfl | exact OwnAt.of 1 rfl rfl | exact OwnAt.of 2 rfl rfl | exact OwnAt.of 3 rfl rfl | exact OwnAt.of 4 rfl rfl | exact OwnAt.of 5 rfl rfl)) ?_
  refine XO.rd rfl rfl rfl (Reads.cmp rfl rfl rfl) ?_
  refine XO.rd rfl rfl rfl (Reads.assign rfl) ?_
  refine XO.nil ?_
  refine XQ.then_normal ?_
  refine XC.seq ?_
  refine XC.seq ?_
  refine XC.region ?_
  refine XO.rd rfl rfl rfl (Reads.move rfl) ?_
  refine XO.rd rfl rfl rfl (Reads.load_own k126 rfl (by first | exact OwnAt.of 0 rfl rfl | exact OwnAt.of 1 rfl rfl | exact OwnAt.of 2 rfl rfl | exact OwnAt.of 3 rfl rfl | exact OwnAt.of 4 rfl rfl | exact OwnAt.of 5 rfl rfl)) ?_
  refine XO.rd rfl rfl rfl (Reads.uand (n := 127) rfl rfl rfl hzi (by decide)) ?_
  rw [and127]
  refine XO.rd rfl rfl rfl (Reads.convu Tryd.underlying126 rfl Tryd.underlying5 rfl rfl) ?_
  rw [Nat.mod_eq_of_lt (show z / 128 ^ i % 128 < 256 by omega)]
  refine XO.rd rfl rfl rfl (Reads.move rfl) ?_
  refine XO.yield (vs := [_, _]) (L1 := L1) (Lf := some (b, .cells #[.int .u64 ((z / 128 ^ i : Nat) : Int)] 126 (0, 0)) :: Lf) rfl rfl rfl ⟨rfl, rfl, trivial⟩ (hy i L1 hJ hlow) List.perm_middle.symm ?_
  rintro y I2 L2 _ ⟨rfl, hI2, hJ2⟩
  replace hI2 := hI2.symm
  subst hI2
  refine XO.perm List.perm_middle ?_
  refine XO.rd rfl rfl rfl (Reads.not rfl) ?_
  refine XO.rd rfl rfl rfl (Reads.move rfl) ?_
  refine XO.rd (wg rfl rfl rfl) rfl rfl (Reads.move rfl) ?_
  refine XO.rd rfl rfl rfl (Reads.pick_false rfl rfl) ?_
  refine XO.nil ?_
  refine XQ.then_normal ?_
  refine XC.cond rfl (fun h1 => ?_) (fun h1 => ?_)
  · skip
    simp only [cmpInt, decide_eq_true_eq] at h1
    have hlt : z / 128 ^ i < 128 := by omega
    refine XC.ret ?_
    refine XQ.then_ret ?_
    refine XQ.block_ret ?_
    refine XQ.then_ret ?_
    refine XQ.block_ret ?_
    refine XQ.done0 (L := some (b, .cells #[.int .u64 ((z / 128 ^ i : Nat) : Int)] 126 (0, 0)) :: L2) rfl (Im.le_refl _) ?_
    exact ⟨rfl, i, L2, hlow, hlt, rfl, hJ2⟩
  · skip
    simp only [cmpInt, decide_eq_false_iff_not] at h1
    have hge : 128 ≤ z / 128 ^ i := by omega
    refine XC.skip ?_
    refine XQ.then_normal ?_
    refine XC.region ?_
    refine XO.rd rfl rfl rfl (Reads.load_own k126 rfl (by first | exact OwnAt.of 0 rfl rfl | exact OwnAt.of 1 rfl rfl | exact OwnAt.of 2 rfl rfl | exact OwnAt.of 3 rfl rfl | exact OwnAt.of 4 rfl rfl | exact OwnAt.of 5 rfl rfl)) ?_
    refine XO.rd rfl rfl rfl (Reads.shrn (s := 7) rfl rfl (by decide)) ?_
    rw [show z / 128 ^ i / 2 ^ 7 = z / 128 ^ (i + 1) from (div_pow_succ z i).symm]
    refine XO.store 0 rfl z126 rfl rfl rfl rfl (by simp) ?_
    refine XO.nil ?_
    refine XQ.block_normal ?_
    refine XQ.back (i + 1, L2) ⟨fun j hj => by rcases Nat.lt_succ_iff_lt_or_eq.1 hj with h | rfl; exact hlow j h; exact hge, hJ2⟩ (by simp only [div_pow_succ]; omega) ⟨rfl, rfl, trivial⟩ rfl (List.Perm.refl _)

theorem putInt_any (n : Int) (I : Im) (hn : -9223372036854775808 ≤ n ∧ n ≤ 9223372036854775807) : FC Tryd.prog 86 [.int .i64 n] I (fun u I' => u = .tuple #[.string (putX n), .int .i64 (if okI n then 0 else 10)] ∧ I' = I) := by
  refine FSo.introM (n := 33) Tryd.func86 rfl rfl rfl (fun K Lf => ?_)
  refine XC.seq ?_
  refine XC.region ?_
  refine XO.rd rfl rfl rfl (Reads.assign rfl) ?_
  refine XO.rd rfl rfl rfl (Reads.assign rfl) ?_
  refine XO.nil ?_
  refine XQ.then_normal ?_
  refine XC.seq ?_
  refine XC.seq ?_
  refine XC.region ?_
  refine XO.rd rfl rfl rfl (Reads.move rfl) ?_
  refine XO.rd rfl rfl rfl (Reads.cmp rfl rfl rfl) ?_
  refine XO.rd rfl rfl rfl (Reads.move rfl) ?_
  refine XO.split (d := 9) rfl (fun h1 => ?_) (fun h1 => ?_)
  · skip
    simp only [cmpInt, decide_eq_true_eq] at h1
    have hok : okI n = false := by rw [Bool.eq_false_iff]; intro hh; rw [okI_iff] at hh; omega
    refine XO.s (wg rfl rfl rfl) rfl ?_
    refine XO.s (wg rfl rfl rfl) rfl ?_
    refine XO.rd rfl rfl rfl (Reads.pick_true rfl rfl) ?_
    refine XO.nil ?_
    refine XQ.then_normal ?_
    refine XC.cond rfl (fun _ => ?_) (fun hx => by cases hx)
    refine XC.seq ?_
    refine XC.region ?_
    refine XO.rd rfl rfl rfl (Reads.assign rfl) ?_
    refine XO.rd rfl rfl rfl (Reads.assign rfl) ?_
    refine XO.nil ?_
    refine XQ.then_normal ?_
    refine XC.ret ?_
    refine XQ.then_ret ?_
    refine XQ.ofM ?_
    refine XQ.done2 rfl rfl rfl (Im.le_refl _) ?_
    exact ⟨rfl, by simp only [putX, hok]; rfl, rfl⟩
  · skip
    simp only [cmpInt, decide_eq_false_iff_not] at h1
    refine XO.rd (wg rfl rfl rfl) rfl rfl (Reads.move rfl) ?_
    refine XO.rd (wg rfl rfl rfl) rfl rfl (Reads.cmp rfl rfl rfl) ?_
    refine XO.rd rfl rfl rfl (Reads.pick_false rfl rfl) ?_
    refine XO.nil ?_
    refine XQ.then_normal ?_
    refine XC.cond rfl (fun h2 => ?_) (fun h2 => ?_)
    · skip
      simp only [cmpInt, decide_eq_true_eq] at h2
      have hok : okI n = false := by rw [Bool.eq_false_iff]; intro hh; rw [okI_iff] at hh; omega
      refine XC.seq ?_
      refine XC.region ?_
      refine XO.rd rfl rfl rfl (Reads.assign rfl) ?_
      refine XO.rd rfl rfl rfl (Reads.assign rfl) ?_
      refine XO.nil ?_
      refine XQ.then_normal ?_
      refine XC.ret ?_
      refine XQ.then_ret ?_
      refine XQ.ofM ?_
      refine XQ.done2 rfl rfl rfl (Im.le_refl _) ?_
      exact ⟨rfl, by simp only [putX, hok]; rfl, rfl⟩
    · skip
      simp only [cmpInt, decide_eq_false_iff_not] at h2
      have hok : okI n = true := by rw [okI_iff]; omega
      have hzl := zz_lt hok
      refine XC.skip ?_
      refine XQ.then_normal ?_
      refine XC.seq ?_
      refine XC.region ?_
      refine XO.alloc (cs := #[.slice none 0 0]) rfl rfl zo98 rfl (fun b4 => ?_)
      refine XO.nil ?_
      refine XQ.then_normal ?_
      refine XC.seq ?_
      refine XC.seq ?_
      refine XC.region ?_
      refine XO.rd rfl rfl rfl (Reads.move rfl) ?_
      refine XO.rd rfl rfl rfl (Reads.conv Tryd.underlying3 rfl Tryd.underlying126 rfl) ?_
      rw [show IntKind.u64.wrap n = ((n % 18446744073709551616).toNat : Int) by rw [IntKind.wrap_u64]; omega]
      refine XO.rd rfl rfl rfl (Reads.ushl (s := 1) rfl rfl rfl (by decide)) ?_
      refine XO.rd rfl rfl rfl (Reads.move rfl) ?_
      refine XO.rd rfl rfl rfl (Reads.shr63 rfl rfl hn) ?_
      refine XO.rd rfl rfl rfl (Reads.conv Tryd.underlying3 rfl Tryd.underlying126 rfl) ?_
      rw [show IntKind.u64.wrap (if n < 0 then -1 else 0) = ((if n < 0 then 18446744073709551615 else 0 : Nat) : Int) by split <;> rfl]
      refine XO.rd rfl rfl rfl (Reads.uxor rfl rfl rfl (Nat.mod_lt _ (by decide)) (by split <;> decide)) ?_
      rw [zz_xor hok]
      refine XO.callo (vs := [_]) (L1 := []) rfl rfl rfl en95 ⟨rfl, trivial⟩ (groups_any _ _) (List.Perm.refl _) ?_
      rintro v' J' L' _ ⟨bg', rfl, hJ', rfl⟩
      replace hJ' := hJ'.symm
      subst hJ'
      refine XO.nil ?_
      refine XQ.then_normal ?_
      refine XC.block ?_
      refine XC.vec0 5 ?_
      refine XC.rangeFunc (f := 104) (fi := #[]) (ca := #[.pointer (some ⟨bg', 0, none⟩)]) (L1 := [some (bg', .cells #[.int .u64 ((zz n : Nat) : Int)] 126 (0, 0)), some (b4, .cells #[Vec.nil.val] 98 (0, 0)), Vec.nil.ent 5]) (Lf := Lf) rfl en104 (perm_take [1, 1, 0]) (fun l D rc hR => ?_)
      let J : Nat → Own → Prop := fun i L => ∃ V : Vec, L = [some (l, lp rc .ready none), some (D, .deferred (some [])), some (b4, .cells #[V.val] 98 (0, 0)), V.ent 5] ∧ V.Is 1 (byteC ((List.range (i)).map (gby (zz n))))
      refine ⟨_, FSo.perm (perm_take [2]) (groups1_any l bg' (zz n) _ [some (l, lp rc .ready none), some (D, .deferred (some [])), some (b4, .cells #[Vec.nil.val] 98 (0, 0)), Vec.nil.ent 5] J (by omega) ⟨Vec.nil, rfl, Vec.nil_is 1⟩ (fun i L hJ hlow => ?_)), ?_⟩
      · skip
        obtain ⟨V, rfl, hV⟩ := hJ
        have hi10 := few_groups (show zz n < 18446744073709551616 by omega) hlow
        have hVl : V.len = i := by have := hV.len; rw [byteC_len] at this; simp at this; omega
        refine YS.intro hR rfl rfl (fun K Lf => ?_)
        refine XC.seq ?_
        refine XC.region ?_
        refine XO.rd rfl rfl rfl (Reads.assign rfl) ?_
        refine XO.nil ?_
        refine XQ.then_normal ?_
        refine XC.region ?_
        refine XO.rd rfl rfl rfl (Reads.assign rfl) ?_
        refine XO.nil ?_
        refine XQ.begin ?_
        refine XC.block ?_
        refine XC.seq ?_
        refine XC.seq ?_
        refine XC.region ?_
        refine XO.rd rfl rfl rfl (Reads.move rfl) ?_
        refine XO.rd rfl rfl rfl (Reads.not rfl) ?_
        refine XO.nil ?_
        refine XQ.then_normal ?_
        refine XC.cond rfl (fun h3 => ?_) (fun h3 => ?_)
        · skip
          simp only [cmpInt, Bool.not_eq_true', decide_eq_false_iff_not] at h3
          have hge : 128 ≤ zz n / 128 ^ i := by omega
          refine XC.region ?_
          refine XO.rd rfl rfl rfl (Reads.move rfl) ?_
          refine XO.rd rfl rfl rfl (Reads.uor (n := 128) rfl rfl rfl (by omega) (by decide)) ?_
          rw [or128 (by omega), show (zz n / 128 ^ i % 128 + 128 : Nat) = ((gby (zz n) i).toNat) by simp only [gby]; rw [if_neg (by omega), UInt8.toNat_ofNat_of_lt' (by show _ < 256; omega)]]
          refine XO.rd rfl rfl rfl (Reads.assign rfl) ?_
          refine XO.nil ?_
          refine XQ.then_normal ?_
          refine XC.region ?_
          refine XO.rd rfl rfl rfl (Reads.load_own k98 rfl (by first | exact OwnAt.of 0 rfl rfl | exact OwnAt.of 1 rfl rfl | exact OwnAt.of 2 rfl rfl | exact OwnAt.of 3 rfl rfl | exact OwnAt.of 4 rfl rfl | exact OwnAt.of 5 rfl rfl | exact OwnAt.of 6 rfl rfl | exact OwnAt.of 7 rfl rfl)) ?_
          refine XO.rd rfl rfl rfl (Reads.move rfl) ?_
          refine XO.buildL [.int .u8 (((gby (zz n) i).toNat : Nat) : Int)] [.int .u8 (((gby (zz n) i).toNat : Nat) : Int)] rfl rfl Tryd.underlying98 el5 rfl (by simp) ⟨rfl, rfl, trivial⟩ rfl rfl (fun bu => ?_)
          refine XO.append (V := V) (news := byteC [(gby (zz n) i)]) 4 rfl rfl Tryd.underlying98 el5 rfl rfl hV rfl (.slice Tryd.underlying98 (readable_row 0 rfl rfl) rfl (byteC_one _)) (by omega) (by omega) ?_
          intro V' hV' _
          refine XO.store 3 rfl z98 rfl rfl rfl rfl (by simp) ?_
          refine XO.nil ?_
          refine XQ.block_normal ?_
          refine XQ.dropn 1 ?_
          refine XQ.round_normal (L := [some (D, .deferred (some [])), some (b4, .cells #[V'.val] 98 (0, 0)), V'.ent 5]) (Im.le_refl _) ?_
          exact ⟨rfl, rfl, V', rfl, by rw [List.range_succ, List.map_append, byteC_append]; exact hV'⟩
        · skip
          simp only [cmpInt, Bool.not_eq_false', decide_eq_true_eq] at h3
          have hlt : zz n / 128 ^ i < 128 := by omega
          rw [show (zz n / 128 ^ i % 128 : Nat) = ((gby (zz n) i).toNat) by simp only [gby]; rw [if_pos hlt, UInt8.toNat_ofNat_of_lt' (by show _ < 256; omega)]]
          refine XC.skip ?_
          refine XQ.then_normal ?_
          refine XC.region ?_
          refine XO.rd rfl rfl rfl (Reads.load_own k98 rfl (by first | exact OwnAt.of 0 rfl rfl | exact OwnAt.of 1 rfl rfl | exact OwnAt.of 2 rfl rfl | exact OwnAt.of 3 rfl rfl | exact OwnAt.of 4 rfl rfl | exact OwnAt.of 5 rfl rfl | exact OwnAt.of 6 rfl rfl | exact OwnAt.of 7 rfl rfl)) ?_
          refine XO.rd rfl rfl rfl (Reads.move rfl) ?_
          refine XO.buildL [.int .u8 (((gby (zz n) i).toNat : Nat) : Int)] [.int .u8 (((gby (zz n) i).toNat : Nat) : Int)] rfl rfl Tryd.underlying98 el5 rfl (by simp) ⟨rfl, rfl, trivial⟩ rfl rfl (fun bu => ?_)
          refine XO.append (V := V) (news := byteC [(gby (zz n) i)]) 4 rfl rfl Tryd.underlying98 el5 rfl rfl hV rfl (.slice Tryd.underlying98 (readable_row 0 rfl rfl) rfl (byteC_one _)) (by omega) (by omega) ?_
          intro V' hV' _
          refine XO.store 3 rfl z98 rfl rfl rfl rfl (by simp) ?_
          refine XO.nil ?_
          refine XQ.block_normal ?_
          refine XQ.dropn 1 ?_
          refine XQ.round_normal (L := [some (D, .deferred (some [])), some (b4, .cells #[V'.val] 98 (0, 0)), V'.ent 5]) (Im.le_refl _) ?_
          exact ⟨rfl, rfl, V', rfl, by rw [List.range_succ, List.map_append, byteC_append]; exact hV'⟩
      · skip
        rintro u I4 L4 _ ⟨hI4, i, L5, hlow, hlt, rfl, V, rfl, hV⟩
        replace hI4 := hI4.symm
        subst hI4
        refine ⟨.ready, none, [some (bg', .cells #[.int .u64 ((zz n / 128 ^ i : Nat) : Int)] 126 (0, 0)), some (D, .deferred (some [])), some (b4, .cells #[V.val] 98 (0, 0)), V.ent 5], perm_take [1], by simp, ?_⟩
        have hi10 := few_groups (show zz n < 18446744073709551616 by omega) hlow
        have hvb := vb_eq i 10 (zz n) hi10 hlow hlt
        refine XQ.block_normal ?_
        refine XQ.then_normal ?_
        refine XC.seq ?_
        refine XC.region ?_
        refine XO.rd rfl rfl rfl (Reads.load_own k98 rfl (by first | exact OwnAt.of 0 rfl rfl | exact OwnAt.of 1 rfl rfl | exact OwnAt.of 2 rfl rfl | exact OwnAt.of 3 rfl rfl | exact OwnAt.of 4 rfl rfl | exact OwnAt.of 5 rfl rfl | exact OwnAt.of 6 rfl rfl | exact OwnAt.of 7 rfl rfl)) ?_
        refine XO.rd rfl rfl rfl (Reads.to_string (bs := (List.range (i + 1)).map (gby (zz n))) Tryd.underlying98 Tryd.underlying5 Tryd.underlying9 rfl (by have := hV.len; rw [byteC_len] at this; omega) (hV.readable (e := 5) (List.mem_of_getElem? (i := 3) rfl))) ?_
        refine XO.rd rfl rfl rfl (Reads.assign rfl) ?_
        refine XO.rd rfl rfl rfl (Reads.assign rfl) ?_
        refine XO.nil ?_
        refine XQ.then_normal ?_
        refine XC.ret ?_
        refine XQ.unmark 1 rfl ?_
        refine XQ.ofM ?_
        refine XQ.dropn 3 ?_
        refine XQ.done2 (L := []) rfl rfl rfl (Im.le_refl _) ?_
        exact ⟨rfl, by simp only [putX, hok, putI, hvb]; rfl, rfl⟩

end Go.Proofs.YtmlliafhpbfdbaaDoor
