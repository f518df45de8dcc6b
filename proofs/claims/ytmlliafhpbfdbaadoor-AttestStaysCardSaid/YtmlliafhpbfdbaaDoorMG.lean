/- Walks: the reference's contents and seals. Walks: the reference's keys; what is formed. Walks: the reference's Cut. -/
import Derived.Test.YtmlliafhpbfdbaaDoorME
import Derived.Test.YtmlliafhpbfdbaaDoorMC
import Derived.Test.YtmlliafhpbfdbaaDoorMK
namespace Go.Proofs.YtmlliafhpbfdbaaDoor
open Go.Xe Go.Sh Go Go.At

theorem rseal_any (key ct : ByteArray) (I : Im) (hct : ct.size ≤ 10000) (hk : key.size ≤ 1000) : FC Tryd.prog 43 [.string key, .string ct] I (fun u I' => u = .string (sealOf key ct) ∧ I' = I) := by
  refine FSo.intro (n := 9) Tryd.func43 rfl rfl rfl (fun K Lf => ?_)
  refine XC.seq ?_
  refine XC.region ?_
  refine XO.rd rfl rfl rfl (Reads.assign rfl) ?_
  refine XO.nil ?_
  refine XQ.then_normal ?_
  refine XC.seq ?_
  refine XC.region ?_
  refine XO.rd rfl rfl rfl (Reads.move rfl) ?_
  refine XO.rd rfl rfl rfl (Reads.move rfl) ?_
  refine XO.callp rfl rfl en62 (rleaf_all ct _ (by omega)) ⟨rfl, trivial⟩ ?_
  refine XO.callp rfl rfl en71 (rnode_all key (leaf ct) _ (by omega) (by rw [leaf, sha_size]; decide)) ⟨rfl, rfl, trivial⟩ ?_
  refine XO.rd rfl rfl rfl (Reads.assign rfl) ?_
  refine XO.nil ?_
  refine XQ.then_normal ?_
  refine XC.ret ?_
  refine XQ.done1 rfl rfl (Im.le_refl _) ?_
  exact ⟨rfl, rfl, rfl⟩

theorem rcontent_any (x : Att) (a : Option Addr) (cap i : Nat) (I : Im) (hA : Arr I a x.hs) (hi : i < x.hs.length) (hn : x.hs.length ≤ 1000) (hsz : ∀ i, i < x.hs.length → (x.h i).s.size ≤ 40) : FC Tryd.prog 44 [.agg (x.cs a cap).toArray, .int .i64 (i : Int)] I (fun u I' => u = .string (content x i) ∧ I' = I) := by
  refine FSo.intro (n := 65) Tryd.func44 rfl rfl rfl (fun K Lf => ?_)
  refine XC.seq ?_
  refine XC.region ?_
  refine XO.box_agg rfl rfl rfl (fun b2 => ?_)
  refine XO.rd rfl rfl rfl (Reads.assign rfl) ?_
  refine XO.nil ?_
  refine XQ.then_normal ?_
  refine XC.seq ?_
  refine XC.draw m_mixed none (.pure 0 (.pure 1 (.pure 2 (.pure 3 (.pure 4 (.pure 5 (.pure 6 (.pure 7 (.pure 8 (.pure 9 (.pure 10 (.pure 11 (.pure 12 (.pure 13 (.pure 14 (.pure 15 (.pure 16 (.pure 17 (.pure 18 (.pure 19 (.pure 20 (.pure 21 (.pure 22 (.pure 23 (.pure 24 (.eff 25 (.pure 26 (.done)))))))))))))))))))))))))))) _ (by kernel_rfl) (List.Sublist.refl _) ?_
  refine XR.rd rfl rfl rfl (fa37_0 rfl) ?_
  refine XR.rd rfl rfl rfl (fa34_0 rfl) ?_
  refine XR.rd rfl rfl rfl (Reads.load_own k3 rfl (by first | exact OwnAt.of 0 rfl rfl | exact OwnAt.of 1 rfl rfl | exact OwnAt.of 2 rfl rfl | exact OwnAt.of 3 rfl rfl | exact OwnAt.of 4 rfl rfl | exact OwnAt.of 5 rfl rfl)) ?_
  refine XR.rd rfl rfl rfl (fa37_0 rfl) ?_
  refine XR.rd rfl rfl rfl (fa34_1 rfl) ?_
  refine XR.rd rfl rfl rfl (Reads.load_own k3 rfl (by first | exact OwnAt.of 0 rfl rfl | exact OwnAt.of 1 rfl rfl | exact OwnAt.of 2 rfl rfl | exact OwnAt.of 3 rfl rfl | exact OwnAt.of 4 rfl rfl | exact OwnAt.of 5 rfl rfl)) ?_
  refine XR.rd rfl rfl rfl (fa37_0 rfl) ?_
  refine XR.rd rfl rfl rfl (fa34_2 rfl) ?_
  refine XR.rd rfl rfl rfl (Reads.load_own k3 rfl (by first | exact OwnAt.of 0 rfl rfl | exact OwnAt.of 1 rfl rfl | exact OwnAt.of 2 rfl rfl | exact OwnAt.of 3 rfl rfl | exact OwnAt.of 4 rfl rfl | exact OwnAt.of 5 rfl rfl)) ?_
  refine XR.rd rfl rfl rfl (fa37_0 rfl) ?_
  refine XR.rd rfl rfl rfl (fa34_3 rfl) ?_
  refine XR.rd rfl rfl rfl (Reads.load_own k3 rfl (by first | exact OwnAt.of 0 rfl rfl | exact OwnAt.of 1 rfl rfl | exact OwnAt.of 2 rfl rfl | exact OwnAt.of 3 rfl rfl | exact OwnAt.of 4 rfl rfl | exact OwnAt.of 5 rfl rfl)) ?_
  refine XR.rd rfl rfl rfl (Reads.move rfl) ?_
  refine XR.rd rfl rfl rfl (fa37_1 rfl) ?_
  refine XR.rd rfl rfl rfl (Reads.load_own k35 rfl (by first | exact OwnAt.of 0 rfl rfl | exact OwnAt.of 1 rfl rfl | exact OwnAt.of 2 rfl rfl | exact OwnAt.of 3 rfl rfl | exact OwnAt.of 4 rfl rfl | exact OwnAt.of 5 rfl rfl)) ?_
  refine XR.rd rfl rfl rfl (Reads.move rfl) ?_
  refine XR.rd rfl rfl rfl (Reads.index_slot (q := (i) * 3) Tryd.underlying35 z53 rfl rfl (by omega) (hA.isSome (by decide) (by omega)) rfl) ?_
  refine XR.rd rfl rfl rfl (fs53_0 rfl (hA.addr (by decide) (by omega))) ?_
  refine XR.rd rfl rfl rfl (Reads.load_at (v := .int .i64 (x.h (i)).c) k3 rfl (by rw [x.h_get hi]; exact hA.hand hi 0 _ rfl)) ?_
  refine XR.rd rfl rfl rfl (fa37_1 rfl) ?_
  refine XR.rd rfl rfl rfl (Reads.load_own k35 rfl (by first | exact OwnAt.of 0 rfl rfl | exact OwnAt.of 1 rfl rfl | exact OwnAt.of 2 rfl rfl | exact OwnAt.of 3 rfl rfl | exact OwnAt.of 4 rfl rfl | exact OwnAt.of 5 rfl rfl)) ?_
  refine XR.rd rfl rfl rfl (Reads.move rfl) ?_
  refine XR.rd rfl rfl rfl (Reads.index_slot (q := (i) * 3) Tryd.underlying35 z53 rfl rfl (by omega) (hA.isSome (by decide) (by omega)) rfl) ?_
  refine XR.rd rfl rfl rfl (fs53_1 rfl (hA.addr (by decide) (by omega))) ?_
  refine XR.rd rfl rfl rfl (Reads.load_at (v := .int .i64 (x.h (i)).l) k3 rfl (by rw [x.h_get hi]; exact hA.hand hi 1 _ rfl)) ?_
  refine XR.buildL [.int .i64 7, .int .i64 x.d.a, .int .i64 x.d.b, .int .i64 x.d.t, .int .i64 x.d.n, .int .i64 (i : Int), .int .i64 (x.h i).c, .int .i64 (x.h i).l] [.int .i64 7, .int .i64 x.d.a, .int .i64 x.d.b, .int .i64 x.d.t, .int .i64 x.d.n, .int .i64 (i : Int), .int .i64 (x.h i).c, .int .i64 (x.h i).l] rfl rfl rfl Tryd.underlying23 el3 rfl (by simp) ⟨rfl, rfl, rfl, rfl, rfl, rfl, rfl, rfl, rfl, rfl, rfl, rfl, rfl, rfl, rfl, rfl, trivial⟩ rfl rfl (List.Sublist.refl _) (fun bi => ?_)
  refine XR.rd rfl rfl rfl (Reads.assign rfl) ?_
  refine XR.nil ?_
  refine XQ.then_normal ?_
  refine XC.seq ?_
  refine XC.region ?_
  refine XO.rd rfl rfl rfl (Reads.assign rfl) ?_
  refine XO.nil ?_
  refine XQ.then_normal ?_
  refine XC.seq ?_
  refine XC.seq ?_
  refine XC.region ?_
  refine XO.rd rfl rfl rfl (Reads.assign rfl) ?_
  refine XO.nil ?_
  refine XQ.then_normal ?_
  refine XC.block ?_
  refine XC.loop (ι := Nat) (fun q => [(1, .int .i64 (i : Int)), (2, .pointer (some ⟨b2, 0, none⟩)), (5, .slice (some ⟨bi, 0, none⟩) 8 8), (6, .string (catN ((x.nums i).take q))), (7, .int .i64 q)]) (fun q => I) (fun q => some (bi, .cells ((x.nums i).map fun z => Value.int .i64 z).toArray 3 (0, 0)) :: some (b2, .cells (x.cs a cap).toArray 37 (0, 0)) :: ([] ++ Lf)) (fun q => q ≤ 8) (fun q => 8 - q) 0 (Nat.zero_le _) ⟨rfl, rfl, rfl, rfl, rfl, trivial⟩ rfl (List.Perm.refl _) (fun k hk => ?_)
  refine XC.seq ?_
  refine XC.seq ?_
  refine XC.region ?_
  refine XO.rd rfl rfl rfl (Reads.move rfl) ?_
  refine XO.rd rfl rfl rfl (Reads.move rfl) ?_
  refine XO.rd rfl rfl rfl (Reads.len_slice Tryd.underlying23 rfl) ?_
  refine XO.rd rfl rfl rfl (Reads.cmp rfl rfl rfl) ?_
  refine XO.nil ?_
  refine XQ.then_normal ?_
  refine XC.cond rfl (fun h1 => ?_) (fun h1 => ?_)
  · skip
    simp only [cmpInt, decide_eq_true_eq] at h1
    have hk8 : k < (x.nums i).length := by show k < 8; omega
    refine XC.skip ?_
    refine XQ.then_normal ?_
    refine XC.seq ?_
    refine XC.block ?_
    refine XC.seq ?_
    refine XC.region ?_
    refine XO.rd rfl rfl rfl (Reads.move rfl) ?_
    refine XO.rd rfl rfl rfl (Reads.move rfl) ?_
    refine XO.rd rfl rfl rfl (Reads.index_own (q := k) Tryd.underlying23 z3 rfl rfl (by omega) (by omega)) ?_
    refine XO.rd rfl rfl rfl (Reads.load_own (v := .int .i64 (x.nums i)[k]) k3 rfl (OwnAt.of 0 rfl (by simp [hk8]))) ?_
    refine XO.callp rfl rfl en72 (rputInt_any (x.nums i)[k] _) ⟨rfl, trivial⟩ ?_
    refine XO.rd rfl rfl rfl (Reads.move rfl) ?_
    refine XO.rd rfl rfl rfl (Reads.extract rfl rfl) ?_
    refine XO.rd rfl rfl rfl (Reads.extract rfl rfl) ?_
    refine XO.rd rfl rfl rfl (Reads.assign rfl) ?_
    refine XO.rd rfl rfl rfl (Reads.assign rfl) ?_
    refine XO.nil ?_
    refine XQ.then_normal ?_
    refine XC.region ?_
    refine XO.rd rfl rfl rfl (Reads.move rfl) ?_
    refine XO.rd rfl rfl rfl (Reads.move rfl) ?_
    have hpx := putX_size (x.nums i)[k]
    have hcx := catN_size ((x.nums i).take k)
    refine XO.rd rfl rfl rfl (Reads.sadd rfl rfl (by rw [List.length_take] at hcx; omega)) ?_
    refine XO.rd rfl rfl rfl (Reads.assign rfl) ?_
    refine XO.nil ?_
    refine XQ.block_normal ?_
    refine XQ.then_normal ?_
    refine XC.weaken (E' := [(1, _), (2, _), (5, _), (6, _), (7, _)]) ⟨rfl, rfl, rfl, rfl, rfl, trivial⟩ ?_
    refine XC.region ?_
    refine XO.rd rfl rfl rfl (Reads.move rfl) ?_
    refine XO.rd rfl rfl rfl (Reads.add rfl rfl (by omega)) ?_
    refine XO.rd rfl rfl rfl (Reads.assign rfl) ?_
    refine XO.nil ?_
    rw [← catN_snoc, ← List.take_succ_eq_append_getElem hk8]
    refine XQ.back (k + 1) (by omega) (by omega) ⟨rfl, rfl, rfl, rfl, rfl, trivial⟩ rfl (List.Perm.refl _)
  · skip
    simp only [cmpInt, decide_eq_false_iff_not] at h1
    rw [show (x.nums i).take k = x.nums i from List.take_of_length_le (by show 8 ≤ k; omega)]
    refine XC.exit ?_
    refine XQ.then_exit ?_
    refine XQ.then_exit ?_
    refine XQ.block_exit ?_
    refine XQ.then_normal ?_
    refine XC.seq ?_
    refine XC.seq ?_
    refine XC.region ?_
    refine XO.rd rfl rfl rfl (Reads.move rfl) ?_
    refine XO.rd rfl rfl rfl (Reads.cmp rfl rfl rfl) ?_
    refine XO.nil ?_
    refine XQ.then_normal ?_
    refine XC.cond rfl (fun h2 => ?_) (fun h2 => ?_)
    · skip
      simp only [cmpInt, decide_eq_true_eq] at h2
      have hi1 : i - 1 < x.hs.length := by omega
      refine XC.region ?_
      refine XO.rd rfl rfl rfl (Reads.move rfl) ?_
      refine XO.rd rfl rfl rfl (fa37_1 rfl) ?_
      refine XO.rd rfl rfl rfl (Reads.load_own k35 rfl (by first | exact OwnAt.of 0 rfl rfl | exact OwnAt.of 1 rfl rfl | exact OwnAt.of 2 rfl rfl | exact OwnAt.of 3 rfl rfl | exact OwnAt.of 4 rfl rfl | exact OwnAt.of 5 rfl rfl)) ?_
      refine XO.rd rfl rfl rfl (Reads.move rfl) ?_
      refine XO.rd rfl rfl rfl (Reads.sub rfl rfl (by omega)) ?_
      rw [show (i : Int) - 1 = ((i - 1 : Nat) : Int) by omega]
      refine XO.rd rfl rfl rfl (Reads.index_slot (q := (i - 1) * 3) Tryd.underlying35 z53 rfl rfl (by omega) (hA.isSome (by decide) (by omega)) rfl) ?_
      refine XO.rd rfl rfl rfl (fs53_2 rfl (hA.addr (by decide) (by omega))) ?_
      refine XO.rd rfl rfl rfl (Reads.load_at (v := .string (x.h (i - 1)).s) k9 rfl (by rw [x.h_get hi1]; exact hA.hand hi1 2 _ rfl)) ?_
      have hcx := catN_size (x.nums i)
      have hnl : (x.nums i).length = 8 := rfl
      have hs1 := hsz (i - 1) hi1
      refine XO.rd rfl rfl rfl (Reads.sadd rfl rfl (by omega)) ?_
      refine XO.rd rfl rfl rfl (Reads.assign rfl) ?_
      refine XO.nil ?_
      refine XQ.then_normal ?_
      refine XC.seq ?_
      refine XC.weaken (E' := [(6, _)]) ⟨rfl, trivial⟩ ?_
      refine XC.region ?_
      refine XO.rd rfl rfl rfl (Reads.move rfl) ?_
      refine XO.rd rfl rfl rfl (Reads.assign rfl) ?_
      refine XO.nil ?_
      refine XQ.then_normal ?_
      refine XC.ret ?_
      refine XQ.dropn 2 ?_
      refine XQ.done1 rfl rfl (Im.le_refl _) ?_
      exact ⟨rfl, by rw [content_pos (by omega)], rfl⟩
    · skip
      simp only [cmpInt, decide_eq_false_iff_not] at h2
      refine XC.skip ?_
      refine XQ.then_normal ?_
      refine XC.seq ?_
      refine XC.region ?_
      refine XO.rd rfl rfl rfl (Reads.move rfl) ?_
      refine XO.rd rfl rfl rfl (Reads.assign rfl) ?_
      refine XO.nil ?_
      refine XQ.then_normal ?_
      refine XC.ret ?_
      refine XQ.dropn 2 ?_
      refine XQ.done1 rfl rfl (Im.le_refl _) ?_
      exact ⟨rfl, by rw [show i = 0 by omega, content_zero], rfl⟩

theorem rright_any (key : ByteArray) (x : Att) (a : Option Addr) (cap i : Nat) (I : Im) (hA : Arr I a x.hs) (hi : i < x.hs.length) (hn : x.hs.length ≤ 1000) (hsz : ∀ i, i < x.hs.length → (x.h i).s.size ≤ 40) (hk : key.size ≤ 1000) : FC Tryd.prog 66 [.string key, .agg (x.cs a cap).toArray, .int .i64 (i : Int)] I (fun u I' => u = .bool (right key x i) ∧ I' = I) := by
  refine FSo.intro (n := 19) Tryd.func66 rfl rfl rfl (fun K Lf => ?_)
  refine XC.seq ?_
  refine XC.region ?_
  refine XO.box_agg rfl rfl rfl (fun b4 => ?_)
  refine XO.rd rfl rfl rfl (Reads.assign rfl) ?_
  refine XO.nil ?_
  refine XQ.then_normal ?_
  refine XC.seq ?_
  refine XC.draw m_mixed none (.pure 0 (.pure 1 (.pure 2 (.pure 3 (.pure 4 (.pure 5 (.pure 6 (.pure 7 (.pure 8 (.eff 9 (.eff 10 (.pure 11 (.pure 12 (.done)))))))))))))) _ (by kernel_rfl) (List.Sublist.refl _) ?_
  refine XR.rd rfl rfl rfl (fa37_1 rfl) ?_
  refine XR.rd rfl rfl rfl (Reads.load_own k35 rfl (by first | exact OwnAt.of 0 rfl rfl | exact OwnAt.of 1 rfl rfl | exact OwnAt.of 2 rfl rfl | exact OwnAt.of 3 rfl rfl)) ?_
  refine XR.rd rfl rfl rfl (Reads.move rfl) ?_
  refine XR.rd rfl rfl rfl (Reads.index_slot (q := (i) * 3) Tryd.underlying35 z53 rfl rfl (by omega) (hA.isSome (by decide) (by omega)) rfl) ?_
  refine XR.rd rfl rfl rfl (fs53_2 rfl (hA.addr (by decide) (by omega))) ?_
  refine XR.rd rfl rfl rfl (Reads.load_at (v := .string (x.h (i)).s) k9 rfl (by rw [x.h_get hi]; exact hA.hand hi 2 _ rfl)) ?_
  refine XR.rd rfl rfl rfl (Reads.move rfl) ?_
  refine XR.rd rfl rfl rfl (Reads.load_whole k37 z37 rfl (by first | exact WholeAt.of 0 rfl | exact WholeAt.of 1 rfl | exact WholeAt.of 2 rfl | exact WholeAt.of 3 rfl) (by rfl)) ?_
  refine XR.rd rfl rfl rfl (Reads.move rfl) ?_
  refine XR.callp rfl rfl rfl en44 (rcontent_any x a cap i _ hA hi hn hsz) ⟨rfl, rfl, trivial⟩ (List.Sublist.refl _) ?_
  refine XR.callp rfl rfl rfl en43 (rseal_any key (content x i) _ (by have := content_size x i; have := before_size hsz hi; omega) hk) ⟨rfl, rfl, trivial⟩ (List.Sublist.refl _) ?_
  refine XR.rd rfl rfl rfl (Reads.seq rfl rfl) ?_
  refine XR.rd rfl rfl rfl (Reads.assign rfl) ?_
  refine XR.nil ?_
  refine XQ.then_normal ?_
  refine XC.ret ?_
  refine XQ.dropn 1 ?_
  refine XQ.done1 rfl rfl (Im.le_refl _) ?_
  exact ⟨rfl, rfl, rfl⟩

theorem rshown1_any (x : Att) (a ak : Option Addr) (cap ck i : Nat) (keys : List ByteArray) (I : Im) (hA : Arr I a x.hs) (hi : i < x.hs.length) (hn : x.hs.length ≤ 1000) (hsz : ∀ i, i < x.hs.length → (x.h i).s.size ≤ 40) (hK : Arr I ak keys) (hk8 : keys.length = 8) (hks : ∀ k ∈ keys, k.size ≤ 1000) (hc : 0 ≤ (x.h i).c ∧ (x.h i).c ≤ 7) : FC Tryd.prog 65 [.slice ak keys.length ck, .agg (x.cs a cap).toArray, .int .i64 (i : Int)] I (fun u I' => u = .bool (shown keys x i) ∧ I' = I) := by
  have hc8 : (x.h i).c.toNat < keys.length := by omega
  have hkey : keyAt keys x i = keys[(x.h i).c.toNat] := by simp [keyAt, hc8]
  have hk32 := hks _ (List.getElem_mem hc8)
  refine FSo.intro (n := 25) Tryd.func65 rfl rfl rfl (fun K Lf => ?_)
  refine XC.seq ?_
  refine XC.region ?_
  refine XO.box_agg rfl rfl rfl (fun b4 => ?_)
  refine XO.rd rfl rfl rfl (Reads.assign rfl) ?_
  refine XO.nil ?_
  refine XQ.then_normal ?_
  refine XC.seq ?_
  refine XC.region ?_
  refine XO.rd rfl rfl rfl (Reads.move rfl) ?_
  refine XO.rd rfl rfl rfl (fa37_1 rfl) ?_
  refine XO.rd rfl rfl rfl (Reads.load_own k35 rfl (by first | exact OwnAt.of 0 rfl rfl | exact OwnAt.of 1 rfl rfl | exact OwnAt.of 2 rfl rfl | exact OwnAt.of 3 rfl rfl)) ?_
  refine XO.rd rfl rfl rfl (Reads.move rfl) ?_
  refine XO.rd rfl rfl rfl (Reads.index_slot (q := (i) * 3) Tryd.underlying35 z53 rfl rfl (by omega) (hA.isSome (by decide) (by omega)) rfl) ?_
  refine XO.rd rfl rfl rfl (fs53_0 rfl (hA.addr (by decide) (by omega))) ?_
  refine XO.rd rfl rfl rfl (Reads.load_at (v := .int .i64 (x.h (i)).c) k3 rfl (by rw [x.h_get hi]; exact hA.hand hi 0 _ rfl)) ?_
  refine XO.rd rfl rfl rfl (Reads.index_slot Tryd.underlying29 z9 rfl rfl (by omega) (hK.isSome (by decide) (by omega)) rfl) ?_
  refine XO.rd rfl rfl rfl (Reads.load_at k9 rfl (hK.str hc8)) ?_
  refine XO.rd rfl rfl rfl (Reads.assign rfl) ?_
  refine XO.nil ?_
  refine XQ.then_normal ?_
  refine XC.seq ?_
  refine XC.region ?_
  refine XO.rd rfl rfl rfl (Reads.move rfl) ?_
  refine XO.rd rfl rfl rfl (Reads.sne rfl rfl) ?_
  refine XO.rd rfl rfl rfl (Reads.move rfl) ?_
  refine XO.split (d := 19) rfl (fun h1 => ?_) (fun h1 => ?_)
  · skip
    refine XO.rd (wg rfl rfl rfl) rfl rfl (Reads.move rfl) ?_
    refine XO.rd (wg rfl rfl rfl) rfl rfl (Reads.load_whole k37 z37 rfl (by first | exact WholeAt.of 0 rfl | exact WholeAt.of 1 rfl | exact WholeAt.of 2 rfl | exact WholeAt.of 3 rfl) (by rfl)) ?_
    refine XO.rd (wg rfl rfl rfl) rfl rfl (Reads.move rfl) ?_
    refine XO.callp (wg rfl rfl rfl) rfl en66 (rright_any keys[(x.h i).c.toNat] x a cap i _ hA hi hn hsz hk32) ⟨rfl, rfl, rfl, trivial⟩ ?_
    refine XO.rd rfl rfl rfl (Reads.pick_true rfl rfl) ?_
    refine XO.rd rfl rfl rfl (Reads.assign rfl) ?_
    refine XO.nil ?_
    refine XQ.then_normal ?_
    refine XC.ret ?_
    refine XQ.dropn 1 ?_
    refine XQ.done1 rfl rfl (Im.le_refl _) ?_
    have h9 : ¬ keys[(x.h i).c.toNat] = mtB := by simpa using h1
    exact ⟨rfl, congrArg Value.bool (by rw [shown, hkey, decide_eq_false h9]; rfl), rfl⟩
  · skip
    refine XO.s (wg rfl rfl rfl) rfl ?_
    refine XO.s (wg rfl rfl rfl) rfl ?_
    refine XO.s (wg rfl rfl rfl) rfl ?_
    refine XO.s (wg rfl rfl rfl) rfl ?_
    refine XO.rd rfl rfl rfl (Reads.pick_false rfl rfl) ?_
    refine XO.rd rfl rfl rfl (Reads.assign rfl) ?_
    refine XO.nil ?_
    refine XQ.then_normal ?_
    refine XC.ret ?_
    refine XQ.dropn 1 ?_
    refine XQ.done1 rfl rfl (Im.le_refl _) ?_
    have h9 : keys[(x.h i).c.toNat] = mtB := by simpa using h1
    exact ⟨rfl, congrArg Value.bool (by rw [shown, hkey, decide_eq_true h9]; rfl), rfl⟩

end Go.Proofs.YtmlliafhpbfdbaaDoor
namespace Go.Proofs.YtmlliafhpbfdbaaDoor
open Go.Xe Go.Sh Go Go.At

theorem rkeys_any (al : Option Addr) (cl : Nat) (l : List ByteArray) (all : Bool) (I : Im) (hL : Arr I al l) (hll : l.length ≤ 1000000) : FC Tryd.prog 64 [.slice al l.length cl, .bool all] I (fun u I' => u = .bool (keysR all l) ∧ I' = I) := by
  refine FSo.intro (n := 31) Tryd.func64 rfl rfl rfl (fun K Lf => ?_)
  refine XC.seq ?_
  refine XC.region ?_
  refine XO.rd rfl rfl rfl (Reads.assign rfl) ?_
  refine XO.nil ?_
  refine XQ.then_normal ?_
  refine XC.seq ?_
  refine XC.seq ?_
  refine XC.region ?_
  refine XO.rd rfl rfl rfl (Reads.assign rfl) ?_
  refine XO.nil ?_
  refine XQ.then_normal ?_
  refine XC.block ?_
  refine XC.loop (ι := Nat) (fun q => [(0, .slice al l.length cl), (1, .bool all), (5, .int .i64 q)]) (fun q => I) (fun q => [] ++ Lf) (fun q => q ≤ l.length ∧ ∀ (j : Nat) (h : j < l.length), j < q → l[j].size = 32 ∨ (all = false ∧ l[j] = mtB)) (fun q => l.length - q) 0 ⟨Nat.zero_le _, fun _ _ h => absurd h (Nat.not_lt_zero _)⟩ ⟨rfl, rfl, rfl, trivial⟩ rfl (List.Perm.refl _) (fun k hk => ?_)
  obtain ⟨hk1, hk2⟩ := hk
  refine XC.seq ?_
  refine XC.seq ?_
  refine XC.region ?_
  refine XO.rd rfl rfl rfl (Reads.move rfl) ?_
  refine XO.rd rfl rfl rfl (Reads.move rfl) ?_
  refine XO.rd rfl rfl rfl (Reads.len_slice Tryd.underlying29 rfl) ?_
  refine XO.rd rfl rfl rfl (Reads.cmp rfl rfl rfl) ?_
  refine XO.nil ?_
  refine XQ.then_normal ?_
  refine XC.cond rfl (fun h1 => ?_) (fun h1 => ?_)
  · skip
    simp only [cmpInt, decide_eq_true_eq] at h1
    have hk3 : k < l.length := by omega
    refine XC.skip ?_
    refine XQ.then_normal ?_
    refine XC.seq ?_
    refine XC.block ?_
    refine XC.seq ?_
    refine XC.region ?_
    refine XO.rd rfl rfl rfl (Reads.move rfl) ?_
    refine XO.rd rfl rfl rfl (Reads.move rfl) ?_
    refine XO.rd rfl rfl rfl (Reads.index_slot Tryd.underlying29 z9 rfl rfl (by omega) (hL.isSome (by decide) (by omega)) rfl) ?_
    refine XO.rd rfl rfl rfl (Reads.load_at k9 rfl (hL.str hk3)) ?_
    refine XO.rd rfl rfl rfl (Reads.len_string Tryd.underlying9 rfl) ?_
    refine XO.rd rfl rfl rfl (Reads.cmp rfl rfl rfl) ?_
    refine XO.rd rfl rfl rfl (Reads.move rfl) ?_
    refine XO.split (d := 18) rfl (fun h2 => ?_) (fun h2 => ?_)
    · skip
      simp only [cmpInt, bne_iff_ne, ne_eq] at h2
      have hs32 : ¬ l[k].size = 32 := by omega
      refine XO.rd (wg rfl rfl rfl) rfl rfl (Reads.move rfl) ?_
      refine XO.rd (wg rfl rfl rfl) rfl rfl (Reads.move rfl) ?_
      refine XO.split (d := 20) rfl (fun h3 => ?_) (fun h3 => ?_)
      · skip
        subst h3
        refine XO.s (wg rfl rfl rfl) rfl ?_
        refine XO.s (wg rfl rfl rfl) rfl ?_
        refine XO.s (wg rfl rfl rfl) rfl ?_
        refine XO.s (wg rfl rfl rfl) rfl ?_
        refine XO.s (wg rfl rfl rfl) rfl ?_
        refine XO.rd (wg rfl rfl rfl) rfl rfl (Reads.pick_true rfl rfl) ?_
        refine XO.rd rfl rfl rfl (Reads.pick_true rfl rfl) ?_
        refine XO.nil ?_
        refine XQ.then_normal ?_
        refine XC.cond rfl (fun _ => ?_) (fun hx => by cases hx)
        refine XC.seq ?_
        refine XC.region ?_
        refine XO.rd rfl rfl rfl (Reads.assign rfl) ?_
        refine XO.nil ?_
        refine XQ.then_normal ?_
        refine XC.ret ?_
        refine XQ.block_ret ?_
        refine XQ.then_ret ?_
        refine XQ.then_ret ?_
        refine XQ.block_ret ?_
        refine XQ.then_ret ?_
        refine XQ.done1 rfl rfl (Im.le_refl _) ?_
        exact ⟨rfl, congrArg Value.bool (by symm; rw [Bool.eq_false_iff]; intro hh; have h9 := (keysR_iff.1 hh).2 k hk3; simp [hs32] at h9), rfl⟩
      · skip
        subst h3
        refine XO.rd (wg rfl rfl rfl) rfl rfl (Reads.move rfl) ?_
        refine XO.rd (wg rfl rfl rfl) rfl rfl (Reads.move rfl) ?_
        refine XO.rd (wg rfl rfl rfl) rfl rfl (Reads.index_slot Tryd.underlying29 z9 rfl rfl (by omega) (hL.isSome (by decide) (by omega)) rfl) ?_
        refine XO.rd (wg rfl rfl rfl) rfl rfl (Reads.load_at k9 rfl (hL.str hk3)) ?_
        refine XO.rd (wg rfl rfl rfl) rfl rfl (Reads.sne rfl rfl) ?_
        refine XO.rd (wg rfl rfl rfl) rfl rfl (Reads.pick_false rfl rfl) ?_
        refine XO.rd rfl rfl rfl (Reads.pick_true rfl rfl) ?_
        refine XO.nil ?_
        refine XQ.then_normal ?_
        refine XC.cond rfl (fun h4 => ?_) (fun h4 => ?_)
        · skip
          have hm : ¬ l[k] = mtB := by simpa using h4
          refine XC.seq ?_
          refine XC.region ?_
          refine XO.rd rfl rfl rfl (Reads.assign rfl) ?_
          refine XO.nil ?_
          refine XQ.then_normal ?_
          refine XC.ret ?_
          refine XQ.block_ret ?_
          refine XQ.then_ret ?_
          refine XQ.then_ret ?_
          refine XQ.block_ret ?_
          refine XQ.then_ret ?_
          refine XQ.done1 rfl rfl (Im.le_refl _) ?_
          exact ⟨rfl, congrArg Value.bool (by symm; rw [Bool.eq_false_iff]; intro hh; have h9 := (keysR_iff.1 hh).2 k hk3; simp [hs32, hm] at h9), rfl⟩
        · skip
          have hm : l[k] = mtB := by simpa using h4
          refine XC.skip ?_
          refine XQ.block_normal ?_
          refine XQ.then_normal ?_
          refine XC.region ?_
          refine XO.rd rfl rfl rfl (Reads.move rfl) ?_
          refine XO.rd rfl rfl rfl (Reads.add rfl rfl (by omega)) ?_
          refine XO.rd rfl rfl rfl (Reads.assign rfl) ?_
          refine XO.nil ?_
          refine XQ.back (k + 1) ⟨by omega, fun j h hj => by rcases Nat.lt_succ_iff_lt_or_eq.1 hj with h9 | rfl; exact hk2 j h h9; exact .inr ⟨rfl, hm⟩⟩ (by omega) ⟨rfl, rfl, rfl, trivial⟩ rfl (List.Perm.refl _)
    · skip
      simp only [cmpInt, bne_eq_false_iff_eq] at h2
      have hs32 : l[k].size = 32 := by omega
      refine XO.s (wg rfl rfl rfl) rfl ?_
      refine XO.s (wg rfl rfl rfl) rfl ?_
      refine XO.s (wgu rfl rfl) rfl ?_
      refine XO.s (wgu rfl rfl) rfl ?_
      refine XO.s (wgu rfl rfl) rfl ?_
      refine XO.s (wgu rfl rfl) rfl ?_
      refine XO.s (wgu rfl rfl) rfl ?_
      refine XO.s (wg rfl rfl rfl) rfl ?_
      refine XO.rd rfl rfl rfl (Reads.pick_false rfl rfl) ?_
      refine XO.nil ?_
      refine XQ.then_normal ?_
      refine XC.cond rfl (fun hx => by cases hx) (fun _ => ?_)
      refine XC.skip ?_
      refine XQ.block_normal ?_
      refine XQ.then_normal ?_
      refine XC.region ?_
      refine XO.rd rfl rfl rfl (Reads.move rfl) ?_
      refine XO.rd rfl rfl rfl (Reads.add rfl rfl (by omega)) ?_
      refine XO.rd rfl rfl rfl (Reads.assign rfl) ?_
      refine XO.nil ?_
      refine XQ.back (k + 1) ⟨by omega, fun j h hj => by rcases Nat.lt_succ_iff_lt_or_eq.1 hj with h9 | rfl; exact hk2 j h h9; exact .inl hs32⟩ (by omega) ⟨rfl, rfl, rfl, trivial⟩ rfl (List.Perm.refl _)
  · skip
    simp only [cmpInt, decide_eq_false_iff_not] at h1
    refine XC.exit ?_
    refine XQ.then_exit ?_
    refine XQ.then_exit ?_
    refine XQ.block_exit ?_
    refine XQ.then_normal ?_
    refine XC.seq ?_
    refine XC.region ?_
    refine XO.rd rfl rfl rfl (Reads.move rfl) ?_
    refine XO.rd rfl rfl rfl (Reads.len_slice Tryd.underlying29 rfl) ?_
    refine XO.rd rfl rfl rfl (Reads.cmp rfl rfl rfl) ?_
    refine XO.rd rfl rfl rfl (Reads.assign rfl) ?_
    refine XO.nil ?_
    refine XQ.then_normal ?_
    refine XC.ret ?_
    refine XQ.done1 rfl rfl (Im.le_refl _) ?_
    exact ⟨rfl, congrArg Value.bool (by rw [keysR_end (fun j h => hk2 j h (by omega))]; simp only [cmpInt]; rw [Bool.eq_iff_iff, beq_iff_eq, decide_eq_true_eq]; omega), rfl⟩

theorem rformed_any (x : Att) (a : Option Addr) (cap : Nat) (I : Im) (hA : Arr I a x.hs) (h63 : x.hs.length ≤ 9223372036854775807) : FC Tryd.prog 30 [.agg (x.cs a cap).toArray] I (fun u I' => u = .bool x.formed ∧ I' = I) := by
  refine FSo.intro (n := 93) Tryd.func30 rfl rfl rfl (fun K Lf => ?_)
  refine XC.seq ?_
  refine XC.region ?_
  refine XO.box_agg rfl rfl rfl (fun b1 => ?_)
  refine XO.rd rfl rfl rfl (Reads.assign rfl) ?_
  refine XO.nil ?_
  refine XQ.then_normal ?_
  refine XC.seq ?_
  refine XC.region ?_
  refine XO.rd rfl rfl rfl (fa37_0 rfl) ?_
  refine XO.rd rfl rfl rfl (Reads.load_agg_own (vs := x.d.cs) k34 z34 rfl (fun j v hj => OwnAt.of 0 rfl (by rw [Nat.zero_add]; exact dial_at x a cap hj))) ?_
  refine XO.alloc (cs := #[.int .i64 0, .int .i64 0, .int .i64 0, .int .i64 0]) rfl rfl zo34 rfl (fun b3 => ?_)
  refine XO.store_agg (vs := x.d.cs) 0 rfl z34 rfl rfl (by simp [Value.oneCell']) rfl (by simp) ?_
  refine XO.nil ?_
  refine XQ.then_normal ?_
  refine XC.seq ?_
  refine XC.seq ?_
  refine XC.region ?_
  refine XO.rd rfl rfl rfl (fa34_0 rfl) ?_
  refine XO.rd rfl rfl rfl (Reads.load_own k3 rfl (by first | exact OwnAt.of 0 rfl rfl | exact OwnAt.of 1 rfl rfl | exact OwnAt.of 2 rfl rfl | exact OwnAt.of 3 rfl rfl | exact OwnAt.of 4 rfl rfl | exact OwnAt.of 5 rfl rfl)) ?_
  refine XO.callp rfl rfl en63 (rin_any _ _ _ _) ⟨rfl, rfl, rfl, trivial⟩ ?_
  refine XO.rd rfl rfl rfl (Reads.not rfl) ?_
  refine XO.rd rfl rfl rfl (Reads.move rfl) ?_
  refine XO.split (d := 12) rfl (fun h1 => ?_) (fun h1 => ?_)
  · skip
    simp only [Bool.not_eq_true'] at h1
    refine XO.s (wg rfl rfl rfl) rfl ?_
    refine XO.s (wg rfl rfl rfl) rfl ?_
    refine XO.s (wg rfl rfl rfl) rfl ?_
    refine XO.s (wg rfl rfl rfl) rfl ?_
    refine XO.rd rfl rfl rfl (Reads.pick_true rfl rfl) ?_
    refine XO.rd rfl rfl rfl (Reads.move rfl) ?_
    refine XO.s (wg rfl rfl rfl) rfl ?_
    refine XO.s (wg rfl rfl rfl) rfl ?_
    refine XO.s (wg rfl rfl rfl) rfl ?_
    refine XO.s (wg rfl rfl rfl) rfl ?_
    refine XO.rd rfl rfl rfl (Reads.pick_true rfl rfl) ?_
    refine XO.rd rfl rfl rfl (Reads.move rfl) ?_
    refine XO.s (wg rfl rfl rfl) rfl ?_
    refine XO.s (wg rfl rfl rfl) rfl ?_
    refine XO.s (wg rfl rfl rfl) rfl ?_
    refine XO.s (wg rfl rfl rfl) rfl ?_
    refine XO.rd rfl rfl rfl (Reads.pick_true rfl rfl) ?_
    refine XO.rd rfl rfl rfl (Reads.move rfl) ?_
    refine XO.s (wg rfl rfl rfl) rfl ?_
    refine XO.s (wg rfl rfl rfl) rfl ?_
    refine XO.s (wg rfl rfl rfl) rfl ?_
    refine XO.s (wg rfl rfl rfl) rfl ?_
    refine XO.s (wg rfl rfl rfl) rfl ?_
    refine XO.rd rfl rfl rfl (Reads.pick_true rfl rfl) ?_
    refine XO.nil ?_
    refine XQ.then_normal ?_
    refine XC.cond rfl (fun _ => ?_) (fun hx => by cases hx)
    refine XC.seq ?_
    refine XC.region ?_
    refine XO.rd rfl rfl rfl (Reads.assign rfl) ?_
    refine XO.nil ?_
    refine XQ.then_normal ?_
    refine XC.ret ?_
    refine XQ.then_ret ?_
    refine XQ.dropn 2 ?_
    refine XQ.done1 rfl rfl (Im.le_refl _) ?_
    exact ⟨rfl, congrArg Value.bool (by symm; rw [Bool.eq_false_iff]; intro hh; obtain ⟨g1, g2, g3⟩ := formed_iff.1 hh; simp [okD, *] at g1), rfl⟩
  · skip
    simp only [Bool.not_eq_false'] at h1
    refine XO.rd (wg rfl rfl rfl) rfl rfl (fa34_1 rfl) ?_
    refine XO.rd (wg rfl rfl rfl) rfl rfl (Reads.load_own k3 rfl (by first | exact OwnAt.of 0 rfl rfl | exact OwnAt.of 1 rfl rfl | exact OwnAt.of 2 rfl rfl | exact OwnAt.of 3 rfl rfl | exact OwnAt.of 4 rfl rfl | exact OwnAt.of 5 rfl rfl)) ?_
    refine XO.callp (wg rfl rfl rfl) rfl en63 (rin_any _ _ _ _) ⟨rfl, rfl, rfl, trivial⟩ ?_
    refine XO.rd (wg rfl rfl rfl) rfl rfl (Reads.not rfl) ?_
    refine XO.rd rfl rfl rfl (Reads.pick_false rfl rfl) ?_
    refine XO.rd rfl rfl rfl (Reads.move rfl) ?_
    refine XO.split (d := 18) rfl (fun h2 => ?_) (fun h2 => ?_)
    · skip
      simp only [Bool.not_eq_true'] at h2
      refine XO.s (wg rfl rfl rfl) rfl ?_
      refine XO.s (wg rfl rfl rfl) rfl ?_
      refine XO.s (wg rfl rfl rfl) rfl ?_
      refine XO.s (wg rfl rfl rfl) rfl ?_
      refine XO.rd rfl rfl rfl (Reads.pick_true rfl rfl) ?_
      refine XO.rd rfl rfl rfl (Reads.move rfl) ?_
      refine XO.s (wg rfl rfl rfl) rfl ?_
      refine XO.s (wg rfl rfl rfl) rfl ?_
      refine XO.s (wg rfl rfl rfl) rfl ?_
      refine XO.s (wg rfl rfl rfl) rfl ?_
      refine XO.rd rfl rfl rfl (Reads.pick_true rfl rfl) ?_
      refine XO.rd rfl rfl rfl (Reads.move rfl) ?_
      refine XO.s (wg rfl rfl rfl) rfl ?_
      refine XO.s (wg rfl rfl rfl) rfl ?_
      refine XO.s (wg rfl rfl rfl) rfl ?_
      refine XO.s (wg rfl rfl rfl) rfl ?_
      refine XO.s (wg rfl rfl rfl) rfl ?_
      refine XO.rd rfl rfl rfl (Reads.pick_true rfl rfl) ?_
      refine XO.nil ?_
      refine XQ.then_normal ?_
      refine XC.cond rfl (fun _ => ?_) (fun hx => by cases hx)
      refine XC.seq ?_
      refine XC.region ?_
      refine XO.rd rfl rfl rfl (Reads.assign rfl) ?_
      refine XO.nil ?_
      refine XQ.then_normal ?_
      refine XC.ret ?_
      refine XQ.then_ret ?_
      refine XQ.dropn 2 ?_
      refine XQ.done1 rfl rfl (Im.le_refl _) ?_
      exact ⟨rfl, congrArg Value.bool (by symm; rw [Bool.eq_false_iff]; intro hh; obtain ⟨g1, g2, g3⟩ := formed_iff.1 hh; simp [okD, *] at g1), rfl⟩
    · skip
      simp only [Bool.not_eq_false'] at h2
      refine XO.rd (wg rfl rfl rfl) rfl rfl (fa34_2 rfl) ?_
      refine XO.rd (wg rfl rfl rfl) rfl rfl (Reads.load_own k3 rfl (by first | exact OwnAt.of 0 rfl rfl | exact OwnAt.of 1 rfl rfl | exact OwnAt.of 2 rfl rfl | exact OwnAt.of 3 rfl rfl | exact OwnAt.of 4 rfl rfl | exact OwnAt.of 5 rfl rfl)) ?_
      refine XO.callp (wg rfl rfl rfl) rfl en63 (rin_any _ _ _ _) ⟨rfl, rfl, rfl, trivial⟩ ?_
      refine XO.rd (wg rfl rfl rfl) rfl rfl (Reads.not rfl) ?_
      refine XO.rd rfl rfl rfl (Reads.pick_false rfl rfl) ?_
      refine XO.rd rfl rfl rfl (Reads.move rfl) ?_
      refine XO.split (d := 24) rfl (fun h3 => ?_) (fun h3 => ?_)
      · skip
        simp only [Bool.not_eq_true'] at h3
        refine XO.s (wg rfl rfl rfl) rfl ?_
        refine XO.s (wg rfl rfl rfl) rfl ?_
        refine XO.s (wg rfl rfl rfl) rfl ?_
        refine XO.s (wg rfl rfl rfl) rfl ?_
        refine XO.rd rfl rfl rfl (Reads.pick_true rfl rfl) ?_
        refine XO.rd rfl rfl rfl (Reads.move rfl) ?_
        refine XO.s (wg rfl rfl rfl) rfl ?_
        refine XO.s (wg rfl rfl rfl) rfl ?_
        refine XO.s (wg rfl rfl rfl) rfl ?_
        refine XO.s (wg rfl rfl rfl) rfl ?_
        refine XO.s (wg rfl rfl rfl) rfl ?_
        refine XO.rd rfl rfl rfl (Reads.pick_true rfl rfl) ?_
        refine XO.nil ?_
        refine XQ.then_normal ?_
        refine XC.cond rfl (fun _ => ?_) (fun hx => by cases hx)
        refine XC.seq ?_
        refine XC.region ?_
        refine XO.rd rfl rfl rfl (Reads.assign rfl) ?_
        refine XO.nil ?_
        refine XQ.then_normal ?_
        refine XC.ret ?_
        refine XQ.then_ret ?_
        refine XQ.dropn 2 ?_
        refine XQ.done1 rfl rfl (Im.le_refl _) ?_
        exact ⟨rfl, congrArg Value.bool (by symm; rw [Bool.eq_false_iff]; intro hh; obtain ⟨g1, g2, g3⟩ := formed_iff.1 hh; simp [okD, *] at g1), rfl⟩
      · skip
        simp only [Bool.not_eq_false'] at h3
        refine XO.rd (wg rfl rfl rfl) rfl rfl (fa34_3 rfl) ?_
        refine XO.rd (wg rfl rfl rfl) rfl rfl (Reads.load_own k3 rfl (by first | exact OwnAt.of 0 rfl rfl | exact OwnAt.of 1 rfl rfl | exact OwnAt.of 2 rfl rfl | exact OwnAt.of 3 rfl rfl | exact OwnAt.of 4 rfl rfl | exact OwnAt.of 5 rfl rfl)) ?_
        refine XO.callp (wg rfl rfl rfl) rfl en63 (rin_any _ _ _ _) ⟨rfl, rfl, rfl, trivial⟩ ?_
        refine XO.rd (wg rfl rfl rfl) rfl rfl (Reads.not rfl) ?_
        refine XO.rd rfl rfl rfl (Reads.pick_false rfl rfl) ?_
        refine XO.rd rfl rfl rfl (Reads.move rfl) ?_
        refine XO.split (d := 30) rfl (fun h4 => ?_) (fun h4 => ?_)
        · skip
          simp only [Bool.not_eq_true'] at h4
          refine XO.s (wg rfl rfl rfl) rfl ?_
          refine XO.s (wg rfl rfl rfl) rfl ?_
          refine XO.s (wg rfl rfl rfl) rfl ?_
          refine XO.s (wg rfl rfl rfl) rfl ?_
          refine XO.s (wg rfl rfl rfl) rfl ?_
          refine XO.rd rfl rfl rfl (Reads.pick_true rfl rfl) ?_
          refine XO.nil ?_
          refine XQ.then_normal ?_
          refine XC.cond rfl (fun _ => ?_) (fun hx => by cases hx)
          refine XC.seq ?_
          refine XC.region ?_
          refine XO.rd rfl rfl rfl (Reads.assign rfl) ?_
          refine XO.nil ?_
          refine XQ.then_normal ?_
          refine XC.ret ?_
          refine XQ.then_ret ?_
          refine XQ.dropn 2 ?_
          refine XQ.done1 rfl rfl (Im.le_refl _) ?_
          exact ⟨rfl, congrArg Value.bool (by symm; rw [Bool.eq_false_iff]; intro hh; obtain ⟨g1, g2, g3⟩ := formed_iff.1 hh; simp [okD, *] at g1), rfl⟩
        · skip
          simp only [Bool.not_eq_false'] at h4
          refine XO.rd (wg rfl rfl rfl) rfl rfl (fa37_1 rfl) ?_
          refine XO.rd (wg rfl rfl rfl) rfl rfl (Reads.load_own k35 rfl (by first | exact OwnAt.of 0 rfl rfl | exact OwnAt.of 1 rfl rfl | exact OwnAt.of 2 rfl rfl | exact OwnAt.of 3 rfl rfl | exact OwnAt.of 4 rfl rfl | exact OwnAt.of 5 rfl rfl)) ?_
          refine XO.rd (wg rfl rfl rfl) rfl rfl (Reads.len_slice Tryd.underlying35 rfl) ?_
          refine XO.callp (wg rfl rfl rfl) rfl en63 (rin_any _ _ _ _) ⟨rfl, rfl, rfl, trivial⟩ ?_
          refine XO.rd (wg rfl rfl rfl) rfl rfl (Reads.not rfl) ?_
          refine XO.rd rfl rfl rfl (Reads.pick_false rfl rfl) ?_
          refine XO.nil ?_
          refine XQ.then_normal ?_
          refine XC.cond rfl (fun h5 => ?_) (fun h5 => ?_)
          · skip
            simp only [Bool.not_eq_true'] at h5
            refine XC.seq ?_
            refine XC.region ?_
            refine XO.rd rfl rfl rfl (Reads.assign rfl) ?_
            refine XO.nil ?_
            refine XQ.then_normal ?_
            refine XC.ret ?_
            refine XQ.then_ret ?_
            refine XQ.dropn 2 ?_
            refine XQ.done1 rfl rfl (Im.le_refl _) ?_
            exact ⟨rfl, congrArg Value.bool (by symm; rw [Bool.eq_false_iff]; intro hh; obtain ⟨g1, g2, g3⟩ := formed_iff.1 hh; rw [inB_iff.2 (by omega)] at h5; cases h5), rfl⟩
          · skip
            simp only [Bool.not_eq_false'] at h5
            have hlen := inB_iff.1 h5
            refine XC.skip ?_
            refine XQ.then_normal ?_
            refine XC.seq ?_
            refine XC.seq ?_
            refine XC.region ?_
            refine XO.rd rfl rfl rfl (Reads.assign rfl) ?_
            refine XO.nil ?_
            refine XQ.then_normal ?_
            refine XC.block ?_
            refine XC.loop (ι := Nat) (fun q => [(1, .pointer (some ⟨b1, 0, none⟩)), (4, .int .i64 q)]) (fun q => I) (fun q => some (b3, .cells x.d.cs.toArray 34 (0, 0)) :: some (b1, .cells (x.cs a cap).toArray 37 (0, 0)) :: ([] ++ Lf)) (fun q => q ≤ x.hs.length ∧ (∀ i, i < q → okH x i = true)) (fun q => x.hs.length - q) 0 ⟨Nat.zero_le _, fun _ h => absurd h (Nat.not_lt_zero _)⟩ ⟨rfl, rfl, trivial⟩ rfl (List.Perm.refl _) (fun j hj => ?_)
            obtain ⟨hj1, hj2⟩ := hj
            refine XC.seq ?_
            refine XC.seq ?_
            refine XC.region ?_
            refine XO.rd rfl rfl rfl (Reads.move rfl) ?_
            refine XO.rd rfl rfl rfl (fa37_1 rfl) ?_
            refine XO.rd rfl rfl rfl (Reads.load_own k35 rfl (by first | exact OwnAt.of 0 rfl rfl | exact OwnAt.of 1 rfl rfl | exact OwnAt.of 2 rfl rfl | exact OwnAt.of 3 rfl rfl | exact OwnAt.of 4 rfl rfl | exact OwnAt.of 5 rfl rfl)) ?_
            refine XO.rd rfl rfl rfl (Reads.len_slice Tryd.underlying35 rfl) ?_
            refine XO.rd rfl rfl rfl (Reads.cmp rfl rfl rfl) ?_
            refine XO.nil ?_
            refine XQ.then_normal ?_
            refine XC.cond rfl (fun h6 => ?_) (fun h6 => ?_)
            · skip
              simp only [cmpInt, decide_eq_true_eq] at h6
              have hj3 : j < x.hs.length := by omega
              refine XC.skip ?_
              refine XQ.then_normal ?_
              refine XC.seq ?_
              refine XC.block ?_
              refine XC.seq ?_
              refine XC.region ?_
              refine XO.rd rfl rfl rfl (fa37_1 rfl) ?_
              refine XO.rd rfl rfl rfl (Reads.load_own k35 rfl (by first | exact OwnAt.of 0 rfl rfl | exact OwnAt.of 1 rfl rfl | exact OwnAt.of 2 rfl rfl | exact OwnAt.of 3 rfl rfl | exact OwnAt.of 4 rfl rfl | exact OwnAt.of 5 rfl rfl)) ?_
              refine XO.rd rfl rfl rfl (Reads.move rfl) ?_
              refine XO.rd rfl rfl rfl (Reads.index_slot (q := j * 3) Tryd.underlying35 z53 rfl rfl (by omega) (hA.isSome (by decide) (by omega)) rfl) ?_
              refine XO.rd rfl rfl rfl (Reads.load_agg_at (vs := (x.h j).cs) k53 z53 rfl (hA.addr (by decide) (by omega)) (by rw [x.h_get hj3]; exact hA.hand hj3)) ?_
              refine XO.alloc (cs := #[.int .i64 0, .int .i64 0, .string ⟨#[]⟩]) rfl rfl zo53 rfl (fun b5 => ?_)
              refine XO.store_agg (vs := (x.h j).cs) 0 rfl z53 rfl rfl (by simp [Value.oneCell']) rfl (by simp) ?_
              refine XO.own_eq (congrArg (fun c => some (b5, Obj.cells c 53 (0, 0)) :: _) (show _ = (x.h j).cs.toArray from rfl)) ?_
              refine XO.nil ?_
              refine XQ.then_normal ?_
              refine XC.seq ?_
              refine XC.weaken (E' := [(1, _), (4, _), (5, _)]) ⟨rfl, rfl, rfl, trivial⟩ ?_
              refine XC.draw m_mixed none (.pure 0 (.pure 1 (.eff 2 (.pure 3 (.pure 4 (.pure 5 (.pure 6 (.eff 7 (.pure 8 (.pure 9 (.pure 10 (.pure 11 (.pure 12 (.pure 13 (.pure 14 (.pure 15 (.pure 16 (.pure 17 (.pure 18 (.pure 19 (.pure 20 (.pure 21 (.pure 22 (.pure 23 (.pure 24 (.pure 25 (.pure 26 (.pure 27 (.pure 28 (.pure 29 (.pure 30 (.pure 31 (.pure 32 (.pure 33 (.pure 34 (.pure 35 (.pure 36 (.pure 37 (.pure 38 (.pure 39 (.pure 40 (.pure 41 (.pure 42 (.pure 43 (.done))))))))))))))))))))))))))))))))))))))))))))) _ (by kernel_rfl) (List.Sublist.refl _) ?_
              refine XR.rd rfl rfl rfl (fa53_0 rfl) ?_
              refine XR.rd rfl rfl rfl (Reads.load_own k3 rfl (by first | exact OwnAt.of 0 rfl rfl | exact OwnAt.of 1 rfl rfl | exact OwnAt.of 2 rfl rfl | exact OwnAt.of 3 rfl rfl | exact OwnAt.of 4 rfl rfl | exact OwnAt.of 5 rfl rfl)) ?_
              refine XR.callp rfl rfl rfl en63 (rin_any _ _ _ _) ⟨rfl, rfl, rfl, trivial⟩ (List.Sublist.refl _) ?_
              refine XR.rd rfl rfl rfl (Reads.not rfl) ?_
              refine XR.rd rfl rfl rfl (Reads.move rfl) ?_
              refine XR.split (d := 53) rfl (fun h7 => ?_) (fun h7 => ?_)
              · skip
                simp only [Bool.not_eq_true'] at h7
                refine XR.s rfl (wg rfl rfl rfl) rfl ?_
                refine XR.s rfl (wg rfl rfl rfl) rfl ?_
                refine XR.se rfl (wg rfl rfl rfl) rfl (List.Sublist.refl _) ?_
                refine XR.s rfl (wg rfl rfl rfl) rfl ?_
                refine XR.rd rfl rfl rfl (Reads.pick_true rfl rfl) ?_
                refine XR.rd rfl rfl rfl (Reads.move rfl) ?_
                refine XR.s rfl (wg rfl rfl rfl) rfl ?_
                refine XR.s rfl (wg rfl rfl rfl) rfl ?_
                refine XR.s rfl (wg rfl rfl rfl) rfl ?_
                refine XR.s rfl (wg rfl rfl rfl) rfl ?_
                refine XR.rd rfl rfl rfl (Reads.pick_true rfl rfl) ?_
                refine XR.rd rfl rfl rfl (Reads.move rfl) ?_
                refine XR.s rfl (wg rfl rfl rfl) rfl ?_
                refine XR.s rfl (wg rfl rfl rfl) rfl ?_
                refine XR.s rfl (wg rfl rfl rfl) rfl ?_
                refine XR.s rfl (wgu rfl rfl) rfl ?_
                refine XR.s rfl (wgu rfl rfl) rfl ?_
                refine XR.s rfl (wgu rfl rfl) rfl ?_
                refine XR.s rfl (wgu rfl rfl) rfl ?_
                refine XR.s rfl (wgu rfl rfl) rfl ?_
                refine XR.s rfl (wgu rfl rfl) rfl ?_
                refine XR.s rfl (wgu rfl rfl) rfl ?_
                refine XR.s rfl (wgu rfl rfl) rfl ?_
                refine XR.s rfl (wgu rfl rfl) rfl ?_
                refine XR.s rfl (wgu rfl rfl) rfl ?_
                refine XR.s rfl (wgu rfl rfl) rfl ?_
                refine XR.s rfl (wgu rfl rfl) rfl ?_
                refine XR.s rfl (wgu rfl rfl) rfl ?_
                refine XR.s rfl (wgu rfl rfl) rfl ?_
                refine XR.s rfl (wgu rfl rfl) rfl ?_
                refine XR.s rfl (wgu rfl rfl) rfl ?_
                refine XR.s rfl (wgu rfl rfl) rfl ?_
                refine XR.s rfl (wgu rfl rfl) rfl ?_
                refine XR.s rfl (wgu rfl rfl) rfl ?_
                refine XR.s rfl (wgu rfl rfl) rfl ?_
                refine XR.s rfl (wgu rfl rfl) rfl ?_
                refine XR.s rfl (wgu rfl rfl) rfl ?_
                refine XR.s rfl (wg rfl rfl rfl) rfl ?_
                refine XR.rd rfl rfl rfl (Reads.pick_true rfl rfl) ?_
                refine XR.nil ?_
                refine XQ.then_normal ?_
                refine XC.cond rfl (fun _ => ?_) (fun hx => by cases hx)
                refine XC.seq ?_
                refine XC.weaken (E' := []) trivial ?_
                refine XC.region ?_
                refine XO.rd rfl rfl rfl (Reads.assign rfl) ?_
                refine XO.nil ?_
                refine XQ.then_normal ?_
                refine XC.ret ?_
                refine XQ.block_ret ?_
                refine XQ.then_ret ?_
                refine XQ.then_ret ?_
                refine XQ.block_ret ?_
                refine XQ.then_ret ?_
                refine XQ.dropn 3 ?_
                refine XQ.done1 rfl rfl (Im.le_refl _) ?_
                exact ⟨rfl, congrArg Value.bool (by symm; rw [Bool.eq_false_iff]; intro hh; obtain ⟨g1, g2, g3⟩ := formed_iff.1 hh; obtain ⟨u1, u2, u3, u4⟩ := okH_iff.1 (g3 j hj3); cases (inB_iff.2 u1).symm.trans (show inB (x.h j).c 0 7 = false by assumption)), rfl⟩
              · skip
                simp only [Bool.not_eq_false'] at h7
                refine XR.rd rfl (wg rfl rfl rfl) rfl (fa53_1 rfl) ?_
                refine XR.rd rfl (wg rfl rfl rfl) rfl (Reads.load_own k3 rfl (by first | exact OwnAt.of 0 rfl rfl | exact OwnAt.of 1 rfl rfl | exact OwnAt.of 2 rfl rfl | exact OwnAt.of 3 rfl rfl | exact OwnAt.of 4 rfl rfl | exact OwnAt.of 5 rfl rfl)) ?_
                refine XR.callp rfl (wg rfl rfl rfl) rfl en63 (rin_any _ _ _ _) ⟨rfl, rfl, rfl, trivial⟩ (List.Sublist.refl _) ?_
                refine XR.rd rfl (wg rfl rfl rfl) rfl (Reads.not rfl) ?_
                refine XR.rd rfl rfl rfl (Reads.pick_false rfl rfl) ?_
                refine XR.rd rfl rfl rfl (Reads.move rfl) ?_
                refine XR.split (d := 59) rfl (fun h8 => ?_) (fun h8 => ?_)
                · skip
                  simp only [Bool.not_eq_true'] at h8
                  refine XR.s rfl (wg rfl rfl rfl) rfl ?_
                  refine XR.s rfl (wg rfl rfl rfl) rfl ?_
                  refine XR.s rfl (wg rfl rfl rfl) rfl ?_
                  refine XR.s rfl (wg rfl rfl rfl) rfl ?_
                  refine XR.rd rfl rfl rfl (Reads.pick_true rfl rfl) ?_
                  refine XR.rd rfl rfl rfl (Reads.move rfl) ?_
                  refine XR.s rfl (wg rfl rfl rfl) rfl ?_
                  refine XR.s rfl (wg rfl rfl rfl) rfl ?_
                  refine XR.s rfl (wg rfl rfl rfl) rfl ?_
                  refine XR.s rfl (wgu rfl rfl) rfl ?_
                  refine XR.s rfl (wgu rfl rfl) rfl ?_
                  refine XR.s rfl (wgu rfl rfl) rfl ?_
                  refine XR.s rfl (wgu rfl rfl) rfl ?_
                  refine XR.s rfl (wgu rfl rfl) rfl ?_
                  refine XR.s rfl (wgu rfl rfl) rfl ?_
                  refine XR.s rfl (wgu rfl rfl) rfl ?_
                  refine XR.s rfl (wgu rfl rfl) rfl ?_
                  refine XR.s rfl (wgu rfl rfl) rfl ?_
                  refine XR.s rfl (wgu rfl rfl) rfl ?_
                  refine XR.s rfl (wgu rfl rfl) rfl ?_
                  refine XR.s rfl (wgu rfl rfl) rfl ?_
                  refine XR.s rfl (wgu rfl rfl) rfl ?_
                  refine XR.s rfl (wgu rfl rfl) rfl ?_
                  refine XR.s rfl (wgu rfl rfl) rfl ?_
                  refine XR.s rfl (wgu rfl rfl) rfl ?_
                  refine XR.s rfl (wgu rfl rfl) rfl ?_
                  refine XR.s rfl (wgu rfl rfl) rfl ?_
                  refine XR.s rfl (wgu rfl rfl) rfl ?_
                  refine XR.s rfl (wgu rfl rfl) rfl ?_
                  refine XR.s rfl (wgu rfl rfl) rfl ?_
                  refine XR.s rfl (wgu rfl rfl) rfl ?_
                  refine XR.s rfl (wg rfl rfl rfl) rfl ?_
                  refine XR.rd rfl rfl rfl (Reads.pick_true rfl rfl) ?_
                  refine XR.nil ?_
                  refine XQ.then_normal ?_
                  refine XC.cond rfl (fun _ => ?_) (fun hx => by cases hx)
                  refine XC.seq ?_
                  refine XC.weaken (E' := []) trivial ?_
                  refine XC.region ?_
                  refine XO.rd rfl rfl rfl (Reads.assign rfl) ?_
                  refine XO.nil ?_
                  refine XQ.then_normal ?_
                  refine XC.ret ?_
                  refine XQ.block_ret ?_
                  refine XQ.then_ret ?_
                  refine XQ.then_ret ?_
                  refine XQ.block_ret ?_
                  refine XQ.then_ret ?_
                  refine XQ.dropn 3 ?_
                  refine XQ.done1 rfl rfl (Im.le_refl _) ?_
                  exact ⟨rfl, congrArg Value.bool (by symm; rw [Bool.eq_false_iff]; intro hh; obtain ⟨g1, g2, g3⟩ := formed_iff.1 hh; obtain ⟨u1, u2, u3, u4⟩ := okH_iff.1 (g3 j hj3); cases (inB_iff.2 u2).symm.trans (show inB (x.h j).l 0 3 = false by assumption)), rfl⟩
                · skip
                  simp only [Bool.not_eq_false'] at h8
                  refine XR.rd rfl (wg rfl rfl rfl) rfl (fa53_2 rfl) ?_
                  refine XR.rd rfl (wg rfl rfl rfl) rfl (Reads.load_own k9 rfl (by first | exact OwnAt.of 0 rfl rfl | exact OwnAt.of 1 rfl rfl | exact OwnAt.of 2 rfl rfl | exact OwnAt.of 3 rfl rfl | exact OwnAt.of 4 rfl rfl | exact OwnAt.of 5 rfl rfl)) ?_
                  refine XR.rd rfl (wg rfl rfl rfl) rfl (Reads.len_string Tryd.underlying9 rfl) ?_
                  refine XR.rd rfl (wg rfl rfl rfl) rfl (Reads.cmp rfl rfl rfl) ?_
                  refine XR.rd rfl rfl rfl (Reads.pick_false rfl rfl) ?_
                  refine XR.rd rfl rfl rfl (Reads.move rfl) ?_
                  refine XR.split (d := 65) rfl (fun h9 => ?_) (fun h9 => ?_)
                  · skip
                    simp only [cmpInt, bne_iff_ne, ne_eq] at h9
                    refine XR.s rfl (wg rfl rfl rfl) rfl ?_
                    refine XR.s rfl (wg rfl rfl rfl) rfl ?_
                    refine XR.s rfl (wg rfl rfl rfl) rfl ?_
                    refine XR.s rfl (wgu rfl rfl) rfl ?_
                    refine XR.s rfl (wgu rfl rfl) rfl ?_
                    refine XR.s rfl (wgu rfl rfl) rfl ?_
                    refine XR.s rfl (wgu rfl rfl) rfl ?_
                    refine XR.s rfl (wgu rfl rfl) rfl ?_
                    refine XR.s rfl (wgu rfl rfl) rfl ?_
                    refine XR.s rfl (wgu rfl rfl) rfl ?_
                    refine XR.s rfl (wgu rfl rfl) rfl ?_
                    refine XR.s rfl (wgu rfl rfl) rfl ?_
                    refine XR.s rfl (wgu rfl rfl) rfl ?_
                    refine XR.s rfl (wgu rfl rfl) rfl ?_
                    refine XR.s rfl (wgu rfl rfl) rfl ?_
                    refine XR.s rfl (wgu rfl rfl) rfl ?_
                    refine XR.s rfl (wgu rfl rfl) rfl ?_
                    refine XR.s rfl (wgu rfl rfl) rfl ?_
                    refine XR.s rfl (wgu rfl rfl) rfl ?_
                    refine XR.s rfl (wgu rfl rfl) rfl ?_
                    refine XR.s rfl (wgu rfl rfl) rfl ?_
                    refine XR.s rfl (wgu rfl rfl) rfl ?_
                    refine XR.s rfl (wgu rfl rfl) rfl ?_
                    refine XR.s rfl (wgu rfl rfl) rfl ?_
                    refine XR.s rfl (wgu rfl rfl) rfl ?_
                    refine XR.s rfl (wg rfl rfl rfl) rfl ?_
                    refine XR.rd rfl rfl rfl (Reads.pick_true rfl rfl) ?_
                    refine XR.nil ?_
                    refine XQ.then_normal ?_
                    refine XC.cond rfl (fun _ => ?_) (fun hx => by cases hx)
                    refine XC.seq ?_
                    refine XC.weaken (E' := []) trivial ?_
                    refine XC.region ?_
                    refine XO.rd rfl rfl rfl (Reads.assign rfl) ?_
                    refine XO.nil ?_
                    refine XQ.then_normal ?_
                    refine XC.ret ?_
                    refine XQ.block_ret ?_
                    refine XQ.then_ret ?_
                    refine XQ.then_ret ?_
                    refine XQ.block_ret ?_
                    refine XQ.then_ret ?_
                    refine XQ.dropn 3 ?_
                    refine XQ.done1 rfl rfl (Im.le_refl _) ?_
                    exact ⟨rfl, congrArg Value.bool (by symm; rw [Bool.eq_false_iff]; intro hh; obtain ⟨g1, g2, g3⟩ := formed_iff.1 hh; obtain ⟨u1, u2, u3, u4⟩ := okH_iff.1 (g3 j hj3); omega), rfl⟩
                  · skip
                    simp only [cmpInt, bne_eq_false_iff_eq] at h9
                    refine XR.rd rfl (wg rfl rfl rfl) rfl (Reads.move rfl) ?_
                    refine XR.rd rfl (wg rfl rfl rfl) rfl (Reads.cmp rfl rfl rfl) ?_
                    refine XR.rd rfl (wg rfl rfl rfl) rfl (Reads.move rfl) ?_
                    refine XR.split (d := 68) rfl (fun h10 => ?_) (fun h10 => ?_)
                    · skip
                      simp only [cmpInt, decide_eq_true_eq] at h10
                      have hjm : j - 1 < x.hs.length := by omega
                      refine XR.rd rfl (wg rfl rfl rfl) rfl (fa53_0 rfl) ?_
                      refine XR.rd rfl (wg rfl rfl rfl) rfl (Reads.load_own k3 rfl (by first | exact OwnAt.of 0 rfl rfl | exact OwnAt.of 1 rfl rfl | exact OwnAt.of 2 rfl rfl | exact OwnAt.of 3 rfl rfl | exact OwnAt.of 4 rfl rfl | exact OwnAt.of 5 rfl rfl)) ?_
                      refine XR.rd rfl (wg rfl rfl rfl) rfl (fa37_1 rfl) ?_
                      refine XR.rd rfl (wg rfl rfl rfl) rfl (Reads.load_own k35 rfl (by first | exact OwnAt.of 0 rfl rfl | exact OwnAt.of 1 rfl rfl | exact OwnAt.of 2 rfl rfl | exact OwnAt.of 3 rfl rfl | exact OwnAt.of 4 rfl rfl | exact OwnAt.of 5 rfl rfl)) ?_
                      refine XR.rd rfl (wg rfl rfl rfl) rfl (Reads.move rfl) ?_
                      refine XR.rd rfl (wg rfl rfl rfl) rfl (Reads.sub rfl rfl (by omega)) ?_
                      rw [show (j : Int) - 1 = ((j - 1 : Nat) : Int) by omega]
                      refine XR.rd rfl (wg rfl rfl rfl) rfl (Reads.index_slot (q := (j - 1) * 3) Tryd.underlying35 z53 rfl rfl (by omega) (hA.isSome (by decide) (by omega)) rfl) ?_
                      refine XR.rd rfl (wg rfl rfl rfl) rfl (fs53_0 rfl (hA.addr (by decide) (by omega))) ?_
                      refine XR.rd rfl (wg rfl rfl rfl) rfl (Reads.load_at (v := .int .i64 (x.h (j - 1)).c) k3 rfl (by rw [x.h_get hjm]; exact hA.hand hjm 0 _ rfl)) ?_
                      refine XR.rd rfl (wg rfl rfl rfl) rfl (Reads.cmp rfl rfl rfl) ?_
                      refine XR.rd rfl (wg rfl rfl rfl) rfl (Reads.move rfl) ?_
                      refine XR.split (d := 79) rfl (fun h11 => ?_) (fun h11 => ?_)
                      · skip
                        simp only [cmpInt, beq_iff_eq] at h11
                        refine XR.s rfl (wg rfl rfl rfl) rfl ?_
                        refine XR.s rfl (wg rfl rfl rfl) rfl ?_
                        refine XR.s rfl (wg rfl rfl rfl) rfl ?_
                        refine XR.s rfl (wg rfl rfl rfl) rfl ?_
                        refine XR.s rfl (wg rfl rfl rfl) rfl ?_
                        refine XR.s rfl (wg rfl rfl rfl) rfl ?_
                        refine XR.s rfl (wg rfl rfl rfl) rfl ?_
                        refine XR.s rfl (wg rfl rfl rfl) rfl ?_
                        refine XR.s rfl (wg rfl rfl rfl) rfl ?_
                        refine XR.s rfl (wg rfl rfl rfl) rfl ?_
                        refine XR.rd rfl (wg rfl rfl rfl) rfl (Reads.pick_true rfl rfl) ?_
                        refine XR.rd rfl (wg rfl rfl rfl) rfl (Reads.pick_true rfl rfl) ?_
                        refine XR.rd rfl rfl rfl (Reads.pick_false rfl rfl) ?_
                        refine XR.nil ?_
                        refine XQ.then_normal ?_
                        refine XC.cond rfl (fun _ => ?_) (fun hx => by cases hx)
                        refine XC.seq ?_
                        refine XC.weaken (E' := []) trivial ?_
                        refine XC.region ?_
                        refine XO.rd rfl rfl rfl (Reads.assign rfl) ?_
                        refine XO.nil ?_
                        refine XQ.then_normal ?_
                        refine XC.ret ?_
                        refine XQ.block_ret ?_
                        refine XQ.then_ret ?_
                        refine XQ.then_ret ?_
                        refine XQ.block_ret ?_
                        refine XQ.then_ret ?_
                        refine XQ.dropn 3 ?_
                        refine XQ.done1 rfl rfl (Im.le_refl _) ?_
                        exact ⟨rfl, congrArg Value.bool (by symm; rw [Bool.eq_false_iff]; intro hh; obtain ⟨g1, g2, g3⟩ := formed_iff.1 hh; obtain ⟨u1, u2, u3, u4⟩ := okH_iff.1 (g3 j hj3); exact (u4.resolve_left (by omega)).1 (by assumption)), rfl⟩
                      · skip
                        simp only [cmpInt, beq_eq_false_iff_ne] at h11
                        refine XR.rd rfl (wg rfl rfl rfl) rfl (fa53_1 rfl) ?_
                        refine XR.rd rfl (wg rfl rfl rfl) rfl (Reads.load_own k3 rfl (by first | exact OwnAt.of 0 rfl rfl | exact OwnAt.of 1 rfl rfl | exact OwnAt.of 2 rfl rfl | exact OwnAt.of 3 rfl rfl | exact OwnAt.of 4 rfl rfl | exact OwnAt.of 5 rfl rfl)) ?_
                        refine XR.rd rfl (wg rfl rfl rfl) rfl (fa37_1 rfl) ?_
                        refine XR.rd rfl (wg rfl rfl rfl) rfl (Reads.load_own k35 rfl (by first | exact OwnAt.of 0 rfl rfl | exact OwnAt.of 1 rfl rfl | exact OwnAt.of 2 rfl rfl | exact OwnAt.of 3 rfl rfl | exact OwnAt.of 4 rfl rfl | exact OwnAt.of 5 rfl rfl)) ?_
                        refine XR.rd rfl (wg rfl rfl rfl) rfl (Reads.move rfl) ?_
                        refine XR.rd rfl (wg rfl rfl rfl) rfl (Reads.sub rfl rfl (by omega)) ?_
                        rw [show (j : Int) - 1 = ((j - 1 : Nat) : Int) by omega]
                        refine XR.rd rfl (wg rfl rfl rfl) rfl (Reads.index_slot (q := (j - 1) * 3) Tryd.underlying35 z53 rfl rfl (by omega) (hA.isSome (by decide) (by omega)) rfl) ?_
                        refine XR.rd rfl (wg rfl rfl rfl) rfl (fs53_1 rfl (hA.addr (by decide) (by omega))) ?_
                        refine XR.rd rfl (wg rfl rfl rfl) rfl (Reads.load_at (v := .int .i64 (x.h (j - 1)).l) k3 rfl (by rw [x.h_get hjm]; exact hA.hand hjm 1 _ rfl)) ?_
                        refine XR.rd rfl (wg rfl rfl rfl) rfl (Reads.cmp rfl rfl rfl) ?_
                        refine XR.rd rfl (wg rfl rfl rfl) rfl (Reads.pick_false rfl rfl) ?_
                        refine XR.rd rfl (wg rfl rfl rfl) rfl (Reads.pick_true rfl rfl) ?_
                        refine XR.rd rfl rfl rfl (Reads.pick_false rfl rfl) ?_
                        refine XR.nil ?_
                        refine XQ.then_normal ?_
                        refine XC.cond rfl (fun h12 => ?_) (fun h12 => ?_)
                        · skip
                          simp only [cmpInt, decide_eq_true_eq] at h12
                          refine XC.seq ?_
                          refine XC.weaken (E' := []) trivial ?_
                          refine XC.region ?_
                          refine XO.rd rfl rfl rfl (Reads.assign rfl) ?_
                          refine XO.nil ?_
                          refine XQ.then_normal ?_
                          refine XC.ret ?_
                          refine XQ.block_ret ?_
                          refine XQ.then_ret ?_
                          refine XQ.then_ret ?_
                          refine XQ.block_ret ?_
                          refine XQ.then_ret ?_
                          refine XQ.dropn 3 ?_
                          refine XQ.done1 rfl rfl (Im.le_refl _) ?_
                          exact ⟨rfl, congrArg Value.bool (by symm; rw [Bool.eq_false_iff]; intro hh; obtain ⟨g1, g2, g3⟩ := formed_iff.1 hh; obtain ⟨u1, u2, u3, u4⟩ := okH_iff.1 (g3 j hj3); have := (u4.resolve_left (by omega)).2; omega), rfl⟩
                        · skip
                          simp only [cmpInt, decide_eq_false_iff_not] at h12
                          refine XC.skip ?_
                          refine XQ.block_normal ?_
                          refine XQ.then_normal ?_
                          refine XC.weaken (E' := [(1, _), (4, _)]) ⟨rfl, rfl, trivial⟩ ?_
                          refine XC.region ?_
                          refine XO.rd rfl rfl rfl (Reads.move rfl) ?_
                          refine XO.rd rfl rfl rfl (Reads.add rfl rfl (by omega)) ?_
                          refine XO.rd rfl rfl rfl (Reads.assign rfl) ?_
                          refine XO.nil ?_
                          refine XQ.dropn 1 ?_
                          have hok : okH x j = true := okH_iff.2 ⟨inB_iff.1 (by assumption), inB_iff.1 (by assumption), by omega, .inr ⟨by assumption, by omega⟩⟩
                          refine XQ.back (j + 1) ⟨by omega, fun i hi => by rcases Nat.lt_succ_iff_lt_or_eq.1 hi with h9 | rfl; exact hj2 i h9; exact hok⟩ (by omega) ⟨rfl, rfl, trivial⟩ rfl (List.Perm.refl _)
                    · skip
                      simp only [cmpInt, decide_eq_false_iff_not] at h10
                      refine XR.s rfl (wg rfl rfl rfl) rfl ?_
                      refine XR.s rfl (wg rfl rfl rfl) rfl ?_
                      refine XR.s rfl (wg rfl rfl rfl) rfl ?_
                      refine XR.s rfl (wg rfl rfl rfl) rfl ?_
                      refine XR.s rfl (wg rfl rfl rfl) rfl ?_
                      refine XR.s rfl (wg rfl rfl rfl) rfl ?_
                      refine XR.s rfl (wg rfl rfl rfl) rfl ?_
                      refine XR.s rfl (wg rfl rfl rfl) rfl ?_
                      refine XR.s rfl (wg rfl rfl rfl) rfl ?_
                      refine XR.s rfl (wg rfl rfl rfl) rfl ?_
                      refine XR.s rfl (wg rfl rfl rfl) rfl ?_
                      refine XR.s rfl (wgu rfl rfl) rfl ?_
                      refine XR.s rfl (wgu rfl rfl) rfl ?_
                      refine XR.s rfl (wgu rfl rfl) rfl ?_
                      refine XR.s rfl (wgu rfl rfl) rfl ?_
                      refine XR.s rfl (wgu rfl rfl) rfl ?_
                      refine XR.s rfl (wgu rfl rfl) rfl ?_
                      refine XR.s rfl (wgu rfl rfl) rfl ?_
                      refine XR.s rfl (wgu rfl rfl) rfl ?_
                      refine XR.s rfl (wgu rfl rfl) rfl ?_
                      refine XR.s rfl (wgu rfl rfl) rfl ?_
                      refine XR.s rfl (wg rfl rfl rfl) rfl ?_
                      refine XR.rd rfl (wg rfl rfl rfl) rfl (Reads.pick_false rfl rfl) ?_
                      refine XR.rd rfl rfl rfl (Reads.pick_false rfl rfl) ?_
                      refine XR.nil ?_
                      refine XQ.then_normal ?_
                      refine XC.cond rfl (fun hx => by cases hx) (fun _ => ?_)
                      refine XC.skip ?_
                      refine XQ.block_normal ?_
                      refine XQ.then_normal ?_
                      refine XC.weaken (E' := [(1, _), (4, _)]) ⟨rfl, rfl, trivial⟩ ?_
                      refine XC.region ?_
                      refine XO.rd rfl rfl rfl (Reads.move rfl) ?_
                      refine XO.rd rfl rfl rfl (Reads.add rfl rfl (by omega)) ?_
                      refine XO.rd rfl rfl rfl (Reads.assign rfl) ?_
                      refine XO.nil ?_
                      refine XQ.dropn 1 ?_
                      have hok : okH x j = true := okH_iff.2 ⟨inB_iff.1 (by assumption), inB_iff.1 (by assumption), by omega, .inl (by omega)⟩
                      refine XQ.back (j + 1) ⟨by omega, fun i hi => by rcases Nat.lt_succ_iff_lt_or_eq.1 hi with h9 | rfl; exact hj2 i h9; exact hok⟩ (by omega) ⟨rfl, rfl, trivial⟩ rfl (List.Perm.refl _)
            · skip
              simp only [cmpInt, decide_eq_false_iff_not] at h6
              refine XC.exit ?_
              refine XQ.then_exit ?_
              refine XQ.then_exit ?_
              refine XQ.block_exit ?_
              refine XQ.then_normal ?_
              refine XC.seq ?_
              refine XC.region ?_
              refine XO.rd rfl rfl rfl (Reads.assign rfl) ?_
              refine XO.nil ?_
              refine XQ.then_normal ?_
              refine XC.ret ?_
              refine XQ.dropn 2 ?_
              refine XQ.done1 rfl rfl (Im.le_refl _) ?_
              exact ⟨rfl, congrArg Value.bool (Eq.symm (formed_iff.2 ⟨by simp [okD, *], by omega, fun i hi => hj2 i (by omega)⟩)), rfl⟩

end Go.Proofs.YtmlliafhpbfdbaaDoor
namespace Go.Proofs.YtmlliafhpbfdbaaDoor
open Go.Xe Go.Sh Go Go.At

theorem rcut_any (x : Att) (a : Option Addr) (cap : Nat) (n0 : Int) (I : Im) (hA : Arr I a x.hs) (h63 : x.hs.length ≤ 9223372036854775807) (hcap : x.hs.length ≤ cap) : FC Tryd.prog 31 [.agg (x.cs a cap).toArray, .int .i64 n0] I (fun u I' => AOut I' u (cut x n0)) := by
  refine FSo.intro (n := 27) Tryd.func31 rfl rfl rfl (fun K Lf => ?_)
  refine XC.seq ?_
  refine XC.region ?_
  refine XO.box_agg rfl rfl rfl (fun b2 => ?_)
  refine XO.alloc (cs := #[.int .i64 0, .int .i64 0, .int .i64 0, .int .i64 0, .slice none 0 0]) rfl rfl zo37 rfl (fun b4 => ?_)
  refine XO.rd rfl rfl rfl (Reads.assign rfl) ?_
  refine XO.nil ?_
  refine XQ.then_normal ?_
  refine XC.seq ?_
  refine XC.seq ?_
  refine XC.region ?_
  refine XO.rd rfl rfl rfl (Reads.load_whole k37 z37 rfl (by first | exact WholeAt.of 0 rfl | exact WholeAt.of 1 rfl | exact WholeAt.of 2 rfl | exact WholeAt.of 3 rfl | exact WholeAt.of 4 rfl | exact WholeAt.of 5 rfl) (by rfl)) ?_
  refine XO.callp rfl rfl en30 (rformed_any x a cap _ hA h63) ⟨rfl, trivial⟩ ?_
  refine XO.rd rfl rfl rfl (Reads.not rfl) ?_
  refine XO.rd rfl rfl rfl (Reads.move rfl) ?_
  refine XO.split (d := 9) rfl (fun h1 => ?_) (fun h1 => ?_)
  · skip
    simp only [Bool.not_eq_true'] at h1
    refine XO.s (wg rfl rfl rfl) rfl ?_
    refine XO.s (wg rfl rfl rfl) rfl ?_
    refine XO.s (wg rfl rfl rfl) rfl ?_
    refine XO.s (wg rfl rfl rfl) rfl ?_
    refine XO.s (wg rfl rfl rfl) rfl ?_
    refine XO.s (wg rfl rfl rfl) rfl ?_
    refine XO.rd rfl rfl rfl (Reads.pick_true rfl rfl) ?_
    refine XO.nil ?_
    refine XQ.then_normal ?_
    refine XC.cond rfl (fun _ => ?_) (fun hx => by cases hx)
    refine XC.seq ?_
    refine XC.region ?_
    refine XO.rd rfl rfl rfl (bd37 (vs := []) (none0.cs none 0).toArray trivial rfl) ?_
    refine XO.store_agg (vs := none0.cs none 0) 0 rfl z37 rfl rfl (by simp [Att.cs, none0, Value.oneCell']) rfl (by simp [Att.cs]) ?_
    refine XO.rd rfl rfl rfl (Reads.assign rfl) ?_
    refine XO.nil ?_
    refine XQ.then_normal ?_
    refine XC.ret ?_
    refine XQ.then_ret ?_
    refine XQ.done2ca [] 2 rfl k37 z37 rfl rfl (WholeAt.of 0 rfl) rfl rfl (Im.le_refl _) ?_
    exact ⟨rfl, _, _, rfl, (fun y hy => by rw [cut_no1 h1] at hy; cases hy), fun _ => ⟨rfl, rfl⟩⟩
  · skip
    simp only [Bool.not_eq_false'] at h1
    have hf : x.formed = true := h1
    have hle8 := formed_len hf
    have hn9 : x.hs.length ≤ 9 := by omega
    have hsz := formed_sz hf
    have hin := formed_in hf
    have hdi := formed_d hf
    refine XO.rd (wg rfl rfl rfl) rfl rfl (Reads.move rfl) ?_
    refine XO.rd (wg rfl rfl rfl) rfl rfl (fa37_1 rfl) ?_
    refine XO.rd (wg rfl rfl rfl) rfl rfl (Reads.load_own k35 rfl (by first | exact OwnAt.of 0 rfl rfl | exact OwnAt.of 1 rfl rfl | exact OwnAt.of 2 rfl rfl | exact OwnAt.of 3 rfl rfl | exact OwnAt.of 4 rfl rfl | exact OwnAt.of 5 rfl rfl)) ?_
    refine XO.rd (wg rfl rfl rfl) rfl rfl (Reads.len_slice Tryd.underlying35 rfl) ?_
    refine XO.callp (wg rfl rfl rfl) rfl en63 (rin_any _ _ _ _) ⟨rfl, rfl, rfl, trivial⟩ ?_
    refine XO.rd (wg rfl rfl rfl) rfl rfl (Reads.not rfl) ?_
    refine XO.rd rfl rfl rfl (Reads.pick_false rfl rfl) ?_
    refine XO.nil ?_
    refine XQ.then_normal ?_
    refine XC.cond rfl (fun h2 => ?_) (fun h2 => ?_)
    · skip
      simp only [Bool.not_eq_true'] at h2
      refine XC.seq ?_
      refine XC.region ?_
      refine XO.rd rfl rfl rfl (bd37 (vs := []) (none0.cs none 0).toArray trivial rfl) ?_
      refine XO.store_agg (vs := none0.cs none 0) 0 rfl z37 rfl rfl (by simp [Att.cs, none0, Value.oneCell']) rfl (by simp [Att.cs]) ?_
      refine XO.rd rfl rfl rfl (Reads.assign rfl) ?_
      refine XO.nil ?_
      refine XQ.then_normal ?_
      refine XC.ret ?_
      refine XQ.then_ret ?_
      refine XQ.done2ca [] 2 rfl k37 z37 rfl rfl (WholeAt.of 0 rfl) rfl rfl (Im.le_refl _) ?_
      exact ⟨rfl, _, _, rfl, (fun y hy => by rw [cut_no2 (by assumption)] at hy; cases hy), fun _ => ⟨rfl, rfl⟩⟩
    · skip
      simp only [Bool.not_eq_false'] at h2
      have hin := inB_iff.1 h2
      obtain ⟨n, rfl⟩ := Int.eq_ofNat_of_zero_le (show 0 ≤ n0 by omega)
      obtain ⟨ncs, hnf, hnw⟩ := News.arr (P := Tryd.prog) (tx := 35) (c := cap) Tryd.underlying35 (hA.take n)
      have hne := flat_hand_eq hnf
      subst hne
      refine XC.skip ?_
      refine XQ.then_normal ?_
      refine XC.seq ?_
      refine XC.draw m_mixed none (.pure 0 (.pure 1 (.pure 3 (.pure 4 (.pure 5 (.pure 6 (.eff 2 (.eff 7 (.pure 8 (.eff 9 (.pure 10 (.done)))))))))))) [some (b2, .cells (x.cs a cap).toArray 37 (0, 0))] (by kernel_rfl) (List.Sublist.cons _ (List.Sublist.cons_cons _ (List.nil_sublist _))) ?_
      refine XR.rd rfl rfl rfl (fa37_0 rfl) ?_
      refine XR.rd rfl rfl rfl (Reads.load_agg_own (vs := x.d.cs) k34 z34 rfl (fun j v hj => OwnAt.of 0 rfl (by rw [Nat.zero_add]; exact dial_at x a cap hj))) ?_
      refine XR.rd rfl rfl rfl (fa37_1 rfl) ?_
      refine XR.rd rfl rfl rfl (Reads.load_own k35 rfl (by first | exact OwnAt.of 0 rfl rfl | exact OwnAt.of 1 rfl rfl | exact OwnAt.of 2 rfl rfl | exact OwnAt.of 3 rfl rfl | exact OwnAt.of 4 rfl rfl | exact OwnAt.of 5 rfl rfl)) ?_
      refine XR.rd rfl rfl rfl (Reads.move rfl) ?_
      refine XR.rd rfl rfl rfl (Reads.slice_to Tryd.underlying35 z53 rfl rfl (by omega)) ?_
      rw [show ((n : Nat) : Int).toNat = (x.hs.take n).length by rw [List.length_take]; omega]
      refine XR.buildL [] [] rfl rfl rfl Tryd.underlying35 el53 rfl (by simp) trivial rfl rfl (List.Sublist.cons _ (List.Sublist.cons_cons _ (List.nil_sublist _))) (fun b20 => ?_)
      refine XR.append (V := ⟨some (b20, #[]), 0, 0⟩) 0 rfl rfl rfl Tryd.underlying35 el53 rfl rfl (vec_zero b20 3) rfl (hnw _) (by simp only [List.length_take]; omega) (by simp only [List.length_take]; omega) ?_
      intro V hV _
      refine ⟨.inr (List.Sublist.cons _ (List.Sublist.cons _ (List.Sublist.cons_cons _ (List.nil_sublist _)))), ?_⟩
      refine XR.rd rfl rfl rfl (bd37v x.d V.val ⟨_, _, _, rfl⟩ ⟨rfl, rfl, rfl, rfl, trivial⟩) ?_
      refine XR.store_agg (vs := [.int .i64 x.d.a, .int .i64 x.d.b, .int .i64 x.d.t, .int .i64 x.d.n, V.val]) 1 rfl rfl z37 rfl rfl (by simp [Value.oneCell']) rfl (by simp) (.inr (List.Sublist.cons _ (List.Sublist.cons _ (List.Sublist.cons_cons _ (List.nil_sublist _))))) ?_
      refine XR.rd rfl rfl rfl (Reads.assign rfl) ?_
      refine XR.nil ?_
      refine XQ.then_normal ?_
      refine XC.ret ?_
      have hV0 : V.Is 3 (handC (x.hs.take n)) := by simpa using hV
      refine XQ.give_vec (fun hb => ?_)
      refine XQ.done2ca [] 2 rfl k37 z37 rfl rfl (WholeAt.of 0 rfl) rfl rfl (Vec.le_give hb) ?_
      obtain ⟨a9, c9, h91, h92, h93⟩ := (Vec.sl (e := 53) (α := Hand) (by decide) hV0 (flat_hand _ _) hb).2.ex
      have hcu : cut x n = some ⟨x.d, x.hs.take n⟩ := by simp only [cut, hf, inB_iff.2 hin, Bool.true_and, if_true, Int.toNat_natCast]
      exact ⟨rfl, _, _, rfl, (fun y hy => by rw [hcu] at hy; cases hy; exact ⟨rfl, a9, c9, congrArg (fun z => Value.agg #[.int .i64 x.d.a, .int .i64 x.d.b, .int .i64 x.d.t, .int .i64 x.d.n, z]) h91, h92, h93⟩), fun hy => by rw [hcu] at hy; cases hy⟩

end Go.Proofs.YtmlliafhpbfdbaaDoor
