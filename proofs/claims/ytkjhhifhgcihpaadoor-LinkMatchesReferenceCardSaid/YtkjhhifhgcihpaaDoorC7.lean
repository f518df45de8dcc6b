/- Walks: integers and strings, encoded. -/
import Derived.Test.YtkjhhifhgcihpaaDoorC6
namespace Go.Proofs.YtkjhhifhgcihpaaDoor
open Go.Xe Go.Sh Go

theorem groups_any (z : Nat) (I : Im) : FSo Tryd.prog 69 [.int .u64 ((z : Nat) : Int)] I [] (fun u I' L' => ∃ b, u = .func (.func 73) #[] #[.pointer (some ⟨b, 0, none⟩)] ∧ I' = I ∧ L' = [some (b, .cells #[.int .u64 ((z : Nat) : Int)] 97 (0, 0))]) := by
  refine FSo.intro (n := 4) Tryd.func69 rfl rfl rfl (fun K Lf => ?_)
  refine XC.seq ?_
  refine XC.region ?_
  refine XO.box1 rfl rfl rfl rfl (fun b1 => ?_)
  refine XO.rd rfl rfl rfl (Reads.assign rfl) ?_
  refine XO.nil ?_
  refine XQ.then_normal ?_
  refine XC.seq ?_
  refine XC.region ?_
  refine XO.rd rfl rfl rfl (Reads.makeFunc (fi := []) (fv := []) (ca := [.tmp 1]) (cv := [_]) trivial ⟨rfl, trivial⟩) ?_
  refine XO.rd rfl rfl rfl (Reads.assign rfl) ?_
  refine XO.nil ?_
  refine XQ.then_normal ?_
  refine XC.ret ?_
  refine XQ.done1 (L := [some (b1, .cells #[.int .u64 ((z : Nat) : Int)] 97 (0, 0))]) rfl rfl (Im.le_refl _) ?_
  exact ⟨b1, rfl, rfl, rfl⟩

theorem groups1_any (l b : Nat) (z : Nat) (I : Im) (L0 : Own) (J : Nat → Own → Prop) (hz : z < 18446744073709551616) (h0 : J 0 L0) (hy : ∀ i L, J i L → (∀ j, j < i → 128 ≤ z / 128 ^ j) → YS Tryd.prog l [.int .u8 ((z / 128 ^ i % 128 : Nat) : Int), .bool (cmpInt .lss ((z / 128 ^ i : Nat) : Int) 128)] I L (fun b I' L' => b = true ∧ I' = I ∧ J (i + 1) L')) : FSo Tryd.prog 73 [.func (.yield l) #[] #[], .pointer (some ⟨b, 0, none⟩)] I (some (b, .cells #[.int .u64 ((z : Nat) : Int)] 97 (0, 0)) :: L0) (fun u I' L' => I' = I ∧ ∃ i L1, (∀ j, j < i → 128 ≤ z / 128 ^ j) ∧ z / 128 ^ i < 128 ∧ L' = some (b, .cells #[.int .u64 ((z / 128 ^ i : Nat) : Int)] 97 (0, 0)) :: L1 ∧ J (i + 1) L1) := by
  refine FSo.intro (n := 18) Tryd.func73 rfl rfl rfl (fun K Lf => ?_)
  refine XC.block ?_
  refine XC.own_eq (L' := some (b, .cells #[.int .u64 ((z / 128 ^ 0 : Nat) : Int)] 97 (0, 0)) :: (L0 ++ Lf)) (by simp) ?_
  refine XC.loop (ι := Nat × Own) (fun q => [(0, .func (.yield l) #[] #[]), (1, .pointer (some ⟨b, 0, none⟩))]) (fun q => I) (fun q => some (b, .cells #[.int .u64 ((z / 128 ^ q.1 : Nat) : Int)] 97 (0, 0)) :: (q.2 ++ Lf)) (fun q => (∀ j, j < q.1 → 128 ≤ z / 128 ^ j) ∧ J q.1 q.2) (fun q => z / 128 ^ q.1) (0, L0) ⟨fun _ h => absurd h (Nat.not_lt_zero _), h0⟩ ⟨rfl, rfl, trivial⟩ rfl (List.Perm.refl _) (fun q hq => ?_)
  obtain ⟨i, L1⟩ := q
  obtain ⟨hlow, hJ⟩ := hq
  simp only at hlow hJ ⊢
  have hzi : z / 128 ^ i < 18446744073709551616 := Nat.lt_of_le_of_lt (Nat.div_le_self _ _) hz
  refine XC.block ?_
  refine XC.seq ?_
  refine XC.region ?_
  refine XO.rd rfl rfl rfl (Reads.load_own k97 rfl (by first | exact OwnAt.of 0 rfl rfl | exact OwnAt.of 1 rfl rfl | exact OwnAt.of 2 rfl rfl | exact OwnAt.of 3 rfl rfl | exact OwnAt.of 4 rfl rfl | exact OwnAt.of 5 rfl rfl)) ?_
  refine XO.rd rfl rfl rfl (Reads.cmp rfl rfl rfl) ?_
  refine XO.rd rfl rfl rfl (Reads.assign rfl) ?_
  refine XO.nil ?_
  refine XQ.then_normal ?_
  refine XC.seq ?_
  refine XC.seq ?_
  refine XC.region ?_
  refine XO.rd rfl rfl rfl (Reads.move rfl) ?_
  refine XO.rd rfl rfl rfl (Reads.load_own k97 rfl (by first | exact OwnAt.of 0 rfl rfl | exact OwnAt.of 1 rfl rfl | exact OwnAt.of 2 rfl rfl | exact OwnAt.of 3 rfl rfl | exact OwnAt.of 4 rfl rfl | exact OwnAt.of 5 rfl rfl)) ?_
  refine XO.rd rfl rfl rfl (Reads.uand (n := 127) rfl rfl rfl hzi (by decide)) ?_
  rw [and127]
  refine XO.rd rfl rfl rfl (Reads.convu Tryd.underlying97 rfl Tryd.underlying5 rfl rfl) ?_
  rw [Nat.mod_eq_of_lt (show z / 128 ^ i % 128 < 256 by omega)]
  refine XO.rd rfl rfl rfl (Reads.move rfl) ?_
  refine XO.yield (vs := [_, _]) (L1 := L1) (Lf := some (b, .cells #[.int .u64 ((z / 128 ^ i : Nat) : Int)] 97 (0, 0)) :: Lf) rfl rfl rfl ⟨rfl, rfl, trivial⟩ (hy i L1 hJ hlow) List.perm_middle.symm ?_
  rintro y I2 L2 _ ⟨rfl, hI2, hJ2⟩
  replace hI2 := hI2.symm
  subst hI2
  refine XO.perm List.perm_middle ?_
  refine XO.rd rfl rfl rfl (Reads.not rfl) ?_
  refine XO.rd rfl rfl rfl (Reads.move rfl) ?_
  refine XO.rd (wg rfl rfl rfl) rfl rfl (Reads.move rfl) ?_
  refine XO.rd rfl rfl rfl (Reads.pick_false rfl rfl) ?_
  refine XO.nil ?_
  refine XQ.then_normal ?_
  refine XC.cond rfl (fun h1 => ?_) (fun h1 => ?_)
  · skip
    simp only [cmpInt, decide_eq_true_eq] at h1
    have hlt : z / 128 ^ i < 128 := by omega
    refine XC.ret ?_
    refine XQ.then_ret ?_
    refine XQ.block_ret ?_
    refine XQ.then_ret ?_
    refine XQ.block_ret ?_
    refine XQ.done0 (L := some (b, .cells #[.int .u64 ((z / 128 ^ i : Nat) : Int)] 97 (0, 0)) :: L2) rfl (Im.le_refl _) ?_
    exact ⟨rfl, i, L2, hlow, hlt, rfl, hJ2⟩
  · skip
    simp only [cmpInt, decide_eq_false_iff_not] at h1
    have hge : 128 ≤ z / 128 ^ i := by omega
    refine XC.skip ?_
    refine XQ.then_normal ?_
    refine XC.region ?_
    refine XO.rd rfl rfl rfl (Reads.load_own k97 rfl (by first | exact OwnAt.of 0 rfl rfl | exact OwnAt.of 1 rfl rfl | exact OwnAt.of 2 rfl rfl | exact OwnAt.of 3 rfl rfl | exact OwnAt.of 4 rfl rfl | exact OwnAt.of 5 rfl rfl)) ?_
    refine XO.rd rfl rfl rfl (Reads.shrn (s := 7) rfl rfl (by decide)) ?_
    rw [show z / 128 ^ i / 2 ^ 7 = z / 128 ^ (i + 1) from (div_pow_succ z i).symm]
    refine XO.store 0 rfl z97 rfl rfl rfl rfl (by simp) ?_
    refine XO.nil ?_
    refine XQ.block_normal ?_
    refine XQ.back (i + 1, L2) ⟨fun j hj => by rcases Nat.lt_succ_iff_lt_or_eq.1 hj with h | rfl; exact hlow j h; exact hge, hJ2⟩ (by simp only [div_pow_succ]; omega) ⟨rfl, rfl, trivial⟩ rfl (List.Perm.refl _)

theorem putInt_any (n : Int) (I : Im) (hn : -9223372036854775808 ≤ n ∧ n ≤ 9223372036854775807) : FC Tryd.prog 66 [.int .i64 n] I (fun u I' => u = .tuple #[.string (putX n), .int .i64 (if okI n then 0 else 10)] ∧ I' = I) := by
  refine FSo.introM (n := 33) Tryd.func66 rfl rfl rfl (fun K Lf => ?_)
  refine XC.seq ?_
  refine XC.region ?_
  refine XO.rd rfl rfl rfl (Reads.assign rfl) ?_
  refine XO.rd rfl rfl rfl (Reads.assign rfl) ?_
  refine XO.nil ?_
  refine XQ.then_normal ?_
  refine XC.seq ?_
  refine XC.seq ?_
  refine XC.region ?_
  refine XO.rd rfl rfl rfl (Reads.move rfl) ?_
  refine XO.rd rfl rfl rfl (Reads.cmp rfl rfl rfl) ?_
  refine XO.rd rfl rfl rfl (Reads.move rfl) ?_
  refine XO.split (d := 9) rfl (fun h1 => ?_) (fun h1 => ?_)
  · skip
    simp only [cmpInt, decide_eq_true_eq] at h1
    have hok : okI n = false := by rw [Bool.eq_false_iff]; intro hh; rw [okI_iff] at hh; omega
    refine XO.s (wg rfl rfl rfl) rfl ?_
    refine XO.s (wg rfl rfl rfl) rfl ?_
    refine XO.rd rfl rfl rfl (Reads.pick_true rfl rfl) ?_
    refine XO.nil ?_
    refine XQ.then_normal ?_
    refine XC.cond rfl (fun _ => ?_) (fun hx => by cases hx)
    refine XC.seq ?_
    refine XC.region ?_
    refine XO.rd rfl rfl rfl (Reads.assign rfl) ?_
    refine XO.rd rfl rfl rfl (Reads.assign rfl) ?_
    refine XO.nil ?_
    refine XQ.then_normal ?_
    refine XC.ret ?_
    refine XQ.then_ret ?_
    refine XQ.ofM ?_
    refine XQ.done2 rfl rfl rfl (Im.le_refl _) ?_
    exact ⟨rfl, by simp only [putX, hok]; rfl, rfl⟩
  · skip
    simp only [cmpInt, decide_eq_false_iff_not] at h1
    refine XO.rd (wg rfl rfl rfl) rfl rfl (Reads.move rfl) ?_
    refine XO.rd (wg rfl rfl rfl) rfl rfl (Reads.cmp rfl rfl rfl) ?_
    refine XO.rd rfl rfl rfl (Reads.pick_false rfl rfl) ?_
    refine XO.nil ?_
    refine XQ.then_normal ?_
    refine XC.cond rfl (fun h2 => ?_) (fun h2 => ?_)
    · skip
      simp only [cmpInt, decide_eq_true_eq] at h2
      have hok : okI n = false := by rw [Bool.eq_false_iff]; intro hh; rw [okI_iff] at hh; omega
      refine XC.seq ?_
      refine XC.region ?_
      refine XO.rd rfl rfl rfl (Reads.assign rfl) ?_
      refine XO.rd rfl rfl rfl (Reads.assign rfl) ?_
      refine XO.nil ?_
      refine XQ.then_normal ?_
      refine XC.ret ?_
      refine XQ.then_ret ?_
      refine XQ.ofM ?_
      refine XQ.done2 rfl rfl rfl (Im.le_refl _) ?_
      exact ⟨rfl, by simp only [putX, hok]; rfl, rfl⟩
    · skip
      simp only [cmpInt, decide_eq_false_iff_not] at h2
      have hok : okI n = true := by rw [okI_iff]; omega
      have hzl := zz_lt hok
      refine XC.skip ?_
      refine XQ.then_normal ?_
      refine XC.seq ?_
      refine XC.region ?_
      refine XO.alloc (cs := #[.slice none 0 0]) rfl rfl zo70 rfl (fun b4 => ?_)
      refine XO.nil ?_
      refine XQ.then_normal ?_
      refine XC.seq ?_
      refine XC.seq ?_
      refine XC.region ?_
      refine XO.rd rfl rfl rfl (Reads.move rfl) ?_
      refine XO.rd rfl rfl rfl (Reads.conv Tryd.underlying3 rfl Tryd.underlying97 rfl) ?_
      rw [show IntKind.u64.wrap n = ((n % 18446744073709551616).toNat : Int) by rw [IntKind.wrap_u64]; omega]
      refine XO.rd rfl rfl rfl (Reads.ushl (s := 1) rfl rfl rfl (by decide)) ?_
      refine XO.rd rfl rfl rfl (Reads.move rfl) ?_
      refine XO.rd rfl rfl rfl (Reads.shr63 rfl rfl hn) ?_
      refine XO.rd rfl rfl rfl (Reads.conv Tryd.underlying3 rfl Tryd.underlying97 rfl) ?_
      rw [show IntKind.u64.wrap (if n < 0 then -1 else 0) = ((if n < 0 then 18446744073709551615 else 0 : Nat) : Int) by split <;> rfl]
      refine XO.rd rfl rfl rfl (Reads.uxor rfl rfl rfl (Nat.mod_lt _ (by decide)) (by split <;> decide)) ?_
      rw [zz_xor hok]
      refine XO.callo (vs := [_]) (L1 := []) rfl rfl rfl en69 ⟨rfl, trivial⟩ (groups_any _ _) (List.Perm.refl _) ?_
      rintro v' J' L' _ ⟨bg', rfl, hJ', rfl⟩
      replace hJ' := hJ'.symm
      subst hJ'
      refine XO.nil ?_
      refine XQ.then_normal ?_
      refine XC.block ?_
      refine XC.vec0 5 ?_
      refine XC.rangeFunc (f := 73) (fi := #[]) (ca := #[.pointer (some ⟨bg', 0, none⟩)]) (L1 := [some (bg', .cells #[.int .u64 ((zz n : Nat) : Int)] 97 (0, 0)), some (b4, .cells #[Vec.nil.val] 70 (0, 0)), Vec.nil.ent 5]) (Lf := Lf) rfl en73 (perm_take [1, 1, 0]) (fun l D rc hR => ?_)
      let J : Nat → Own → Prop := fun i L => ∃ V : Vec, L = [some (l, lp rc .ready none), some (D, .deferred (some [])), some (b4, .cells #[V.val] 70 (0, 0)), V.ent 5] ∧ V.Is 1 (byteC ((List.range (i)).map (gby (zz n))))
      refine ⟨_, FSo.perm (perm_take [2]) (groups1_any l bg' (zz n) _ [some (l, lp rc .ready none), some (D, .deferred (some [])), some (b4, .cells #[Vec.nil.val] 70 (0, 0)), Vec.nil.ent 5] J (by omega) ⟨Vec.nil, rfl, Vec.nil_is 1⟩ (fun i L hJ hlow => ?_)), ?_⟩
      · skip
        obtain ⟨V, rfl, hV⟩ := hJ
        have hi10 := few_groups (show zz n < 18446744073709551616 by omega) hlow
        have hVl : V.len = i := by have := hV.len; rw [byteC_len] at this; simp at this; omega
        refine YS.intro hR rfl rfl (fun K Lf => ?_)
        refine XC.seq ?_
        refine XC.region ?_
        refine XO.rd rfl rfl rfl (Reads.assign rfl) ?_
        refine XO.nil ?_
        refine XQ.then_normal ?_
        refine XC.region ?_
        refine XO.rd rfl rfl rfl (Reads.assign rfl) ?_
        refine XO.nil ?_
        refine XQ.begin ?_
        refine XC.block ?_
        refine XC.seq ?_
        refine XC.seq ?_
        refine XC.region ?_
        refine XO.rd rfl rfl rfl (Reads.move rfl) ?_
        refine XO.rd rfl rfl rfl (Reads.not rfl) ?_
        refine XO.nil ?_
        refine XQ.then_normal ?_
        refine XC.cond rfl (fun h3 => ?_) (fun h3 => ?_)
        · skip
          simp only [cmpInt, Bool.not_eq_true', decide_eq_false_iff_not] at h3
          have hge : 128 ≤ zz n / 128 ^ i := by omega
          refine XC.region ?_
          refine XO.rd rfl rfl rfl (Reads.move rfl) ?_
          refine XO.rd rfl rfl rfl (Reads.uor (n := 128) rfl rfl rfl (by omega) (by decide)) ?_
          rw [or128 (by omega), show (zz n / 128 ^ i % 128 + 128 : Nat) = ((gby (zz n) i).toNat) by simp only [gby]; rw [if_neg (by omega), UInt8.toNat_ofNat_of_lt' (by show _ < 256; omega)]]
          refine XO.rd rfl rfl rfl (Reads.assign rfl) ?_
          refine XO.nil ?_
          refine XQ.then_normal ?_
          refine XC.region ?_
          refine XO.rd rfl rfl rfl (Reads.load_own k70 rfl (by first | exact OwnAt.of 0 rfl rfl | exact OwnAt.of 1 rfl rfl | exact OwnAt.of 2 rfl rfl | exact OwnAt.of 3 rfl rfl | exact OwnAt.of 4 rfl rfl | exact OwnAt.of 5 rfl rfl | exact OwnAt.of 6 rfl rfl | exact OwnAt.of 7 rfl rfl)) ?_
          refine XO.rd rfl rfl rfl (Reads.move rfl) ?_
          refine XO.buildL [.int .u8 (((gby (zz n) i).toNat : Nat) : Int)] [.int .u8 (((gby (zz n) i).toNat : Nat) : Int)] rfl rfl Tryd.underlying70 el5 rfl (by simp) ⟨rfl, rfl, trivial⟩ rfl rfl (fun bu => ?_)
          refine XO.append (V := V) (news := byteC [(gby (zz n) i)]) 4 rfl rfl Tryd.underlying70 el5 rfl rfl hV rfl (.slice Tryd.underlying70 (readable_row 0 rfl rfl) rfl (byteC_one _)) (by omega) (by omega) ?_
          intro V' hV' _
          refine XO.store 3 rfl z70 rfl rfl rfl rfl (by simp) ?_
          refine XO.nil ?_
          refine XQ.block_normal ?_
          refine XQ.dropn 1 ?_
          refine XQ.round_normal (L := [some (D, .deferred (some [])), some (b4, .cells #[V'.val] 70 (0, 0)), V'.ent 5]) (Im.le_refl _) ?_
          exact ⟨rfl, rfl, V', rfl, by rw [List.range_succ, List.map_append, byteC_append]; exact hV'⟩
        · skip
          simp only [cmpInt, Bool.not_eq_false', decide_eq_true_eq] at h3
          have hlt : zz n / 128 ^ i < 128 := by omega
          rw [show (zz n / 128 ^ i % 128 : Nat) = ((gby (zz n) i).toNat) by simp only [gby]; rw [if_pos hlt, UInt8.toNat_ofNat_of_lt' (by show _ < 256; omega)]]
          refine XC.skip ?_
          refine XQ.then_normal ?_
          refine XC.region ?_
          refine XO.rd rfl rfl rfl (Reads.load_own k70 rfl (by first | exact OwnAt.of 0 rfl rfl | exact OwnAt.of 1 rfl rfl | exact OwnAt.of 2 rfl rfl | exact OwnAt.of 3 rfl rfl | exact OwnAt.of 4 rfl rfl | exact OwnAt.of 5 rfl rfl | exact OwnAt.of 6 rfl rfl | exact OwnAt.of 7 rfl rfl)) ?_
          refine XO.rd rfl rfl rfl (Reads.move rfl) ?_
          refine XO.buildL [.int .u8 (((gby (zz n) i).toNat : Nat) : Int)] [.int .u8 (((gby (zz n) i).toNat : Nat) : Int)] rfl rfl Tryd.underlying70 el5 rfl (by simp) ⟨rfl, rfl, trivial⟩ rfl rfl (fun bu => ?_)
          refine XO.append (V := V) (news := byteC [(gby (zz n) i)]) 4 rfl rfl Tryd.underlying70 el5 rfl rfl hV rfl (.slice Tryd.underlying70 (readable_row 0 rfl rfl) rfl (byteC_one _)) (by omega) (by omega) ?_
          intro V' hV' _
          refine XO.store 3 rfl z70 rfl rfl rfl rfl (by simp) ?_
          refine XO.nil ?_
          refine XQ.block_normal ?_
          refine XQ.dropn 1 ?_
          refine XQ.round_normal (L := [some (D, .deferred (some [])), some (b4, .cells #[V'.val] 70 (0, 0)), V'.ent 5]) (Im.le_refl _) ?_
          exact ⟨rfl, rfl, V', rfl, by rw [List.range_succ, List.map_append, byteC_append]; exact hV'⟩
      · skip
        rintro u I4 L4 _ ⟨hI4, i, L5, hlow, hlt, rfl, V, rfl, hV⟩
        replace hI4 := hI4.symm
        subst hI4
        refine ⟨.ready, none, [some (bg', .cells #[.int .u64 ((zz n / 128 ^ i : Nat) : Int)] 97 (0, 0)), some (D, .deferred (some [])), some (b4, .cells #[V.val] 70 (0, 0)), V.ent 5], perm_take [1], by simp, ?_⟩
        have hi10 := few_groups (show zz n < 18446744073709551616 by omega) hlow
        have hvb := vb_eq i 10 (zz n) hi10 hlow hlt
        refine XQ.block_normal ?_
        refine XQ.then_normal ?_
        refine XC.seq ?_
        refine XC.region ?_
        refine XO.rd rfl rfl rfl (Reads.load_own k70 rfl (by first | exact OwnAt.of 0 rfl rfl | exact OwnAt.of 1 rfl rfl | exact OwnAt.of 2 rfl rfl | exact OwnAt.of 3 rfl rfl | exact OwnAt.of 4 rfl rfl | exact OwnAt.of 5 rfl rfl | exact OwnAt.of 6 rfl rfl | exact OwnAt.of 7 rfl rfl)) ?_
        refine XO.rd rfl rfl rfl (Reads.to_string (bs := (List.range (i + 1)).map (gby (zz n))) Tryd.underlying70 Tryd.underlying5 Tryd.underlying9 rfl (by have := hV.len; rw [byteC_len] at this; omega) (hV.readable (e := 5) (List.mem_of_getElem? (i := 3) rfl))) ?_
        refine XO.rd rfl rfl rfl (Reads.assign rfl) ?_
        refine XO.rd rfl rfl rfl (Reads.assign rfl) ?_
        refine XO.nil ?_
        refine XQ.then_normal ?_
        refine XC.ret ?_
        refine XQ.unmark 1 rfl ?_
        refine XQ.ofM ?_
        refine XQ.dropn 3 ?_
        refine XQ.done2 (L := []) rfl rfl rfl (Im.le_refl _) ?_
        exact ⟨rfl, by simp only [putX, hok, putI, hvb]; rfl, rfl⟩

theorem putString_any (s : ByteArray) (I : Im) (hs : s.size ≤ 1000000000) : FC Tryd.prog 57 [.string s] I (fun u I' => u = .tuple #[.string (putS s), .int .i64 (if s.size ≤ 65536 then 0 else 10)] ∧ I' = I) := by
  refine FSo.intro (n := 18) Tryd.func57 rfl rfl rfl (fun K Lf => ?_)
  refine XC.seq ?_
  refine XC.region ?_
  refine XO.rd rfl rfl rfl (Reads.assign rfl) ?_
  refine XO.rd rfl rfl rfl (Reads.assign rfl) ?_
  refine XO.nil ?_
  refine XQ.then_normal ?_
  refine XC.seq ?_
  refine XC.seq ?_
  refine XC.region ?_
  refine XO.rd rfl rfl rfl (Reads.move rfl) ?_
  refine XO.rd rfl rfl rfl (Reads.len_string Tryd.underlying9 rfl) ?_
  refine XO.rd rfl rfl rfl (Reads.cmp rfl rfl rfl) ?_
  refine XO.nil ?_
  refine XQ.then_normal ?_
  refine XC.cond rfl (fun h1 => ?_) (fun h1 => ?_)
  · skip
    simp only [cmpInt, decide_eq_true_eq] at h1
    have hgt : ¬ s.size ≤ 65536 := by omega
    refine XC.seq ?_
    refine XC.region ?_
    refine XO.rd rfl rfl rfl (Reads.assign rfl) ?_
    refine XO.rd rfl rfl rfl (Reads.assign rfl) ?_
    refine XO.nil ?_
    refine XQ.then_normal ?_
    refine XC.ret ?_
    refine XQ.then_ret ?_
    refine XQ.done2 rfl rfl rfl (Im.le_refl _) ?_
    exact ⟨rfl, by simp only [putS, if_neg hgt], rfl⟩
  · skip
    simp only [cmpInt, decide_eq_false_iff_not] at h1
    have hle : s.size ≤ 65536 := by omega
    refine XC.skip ?_
    refine XQ.then_normal ?_
    refine XC.seq ?_
    refine XC.region ?_
    refine XO.rd rfl rfl rfl (Reads.move rfl) ?_
    refine XO.rd rfl rfl rfl (Reads.len_string Tryd.underlying9 rfl) ?_
    refine XO.callp rfl rfl en66 (putInt_any _ _ (by omega)) ⟨rfl, trivial⟩ ?_
    refine XO.rd rfl rfl rfl (Reads.move rfl) ?_
    refine XO.rd rfl rfl rfl (Reads.extract rfl rfl) ?_
    refine XO.rd rfl rfl rfl (Reads.extract rfl rfl) ?_
    refine XO.rd rfl rfl rfl (Reads.assign rfl) ?_
    refine XO.rd rfl rfl rfl (Reads.assign rfl) ?_
    refine XO.nil ?_
    refine XQ.then_normal ?_
    refine XC.seq ?_
    refine XC.region ?_
    refine XO.rd rfl rfl rfl (Reads.move rfl) ?_
    refine XO.rd rfl rfl rfl (Reads.move rfl) ?_
    have hpx := putX_size (s.size : Int)
    refine XO.rd rfl rfl rfl (Reads.sadd rfl rfl (by omega)) ?_
    refine XO.rd rfl rfl rfl (Reads.assign rfl) ?_
    refine XO.rd rfl rfl rfl (Reads.assign rfl) ?_
    refine XO.nil ?_
    refine XQ.then_normal ?_
    refine XC.ret ?_
    refine XQ.done2 rfl rfl rfl (Im.le_refl _) ?_
    exact ⟨rfl, by simp only [putS, if_pos hle], rfl⟩

end Go.Proofs.YtkjhhifhgcihpaaDoor
