/- Walks: lists of packets held against each other; busy. -/
import Derived.Test.YtkjhhifhgcihpaaDoorD9
import Derived.Test.YtkjhhifhgcihpaaDoorK3
namespace Go.Proofs.YtkjhhifhgcihpaaDoor
open Go.Xe Go.Sh Go Go.Lk

theorem same_any (a c : Option Addr) (ca cc : Nat) (xs ys : List Pkt) (I : Im) (hA : Arr I a xs) (hB : Arr I c ys) (hn : xs.length ≤ 1000000000) : FC Tryd.prog 23 [.slice a xs.length ca, .slice c ys.length cc] I (fun u I' => u = .bool (decide (xs = ys)) ∧ I' = I) := by
  refine FSo.intro (n := 26) Tryd.func23 rfl rfl rfl (fun K Lf => ?_)
  refine XC.seq ?_
  refine XC.region ?_
  refine XO.rd rfl rfl rfl (Reads.assign rfl) ?_
  refine XO.nil ?_
  refine XQ.then_normal ?_
  refine XC.seq ?_
  refine XC.seq ?_
  refine XC.region ?_
  refine XO.rd rfl rfl rfl (Reads.move rfl) ?_
  refine XO.rd rfl rfl rfl (Reads.len_slice Tryd.underlying37 rfl) ?_
  refine XO.rd rfl rfl rfl (Reads.move rfl) ?_
  refine XO.rd rfl rfl rfl (Reads.len_slice Tryd.underlying37 rfl) ?_
  refine XO.rd rfl rfl rfl (Reads.cmp rfl rfl rfl) ?_
  refine XO.nil ?_
  refine XQ.then_normal ?_
  refine XC.cond rfl (fun h1 => ?_) (fun h1 => ?_)
  · skip
    simp only [cmpInt, bne_iff_ne] at h1
    have hne : xs ≠ ys := fun hh => by subst hh; omega
    refine XC.seq ?_
    refine XC.region ?_
    refine XO.rd rfl rfl rfl (Reads.assign rfl) ?_
    refine XO.nil ?_
    refine XQ.then_normal ?_
    refine XC.ret ?_
    refine XQ.then_ret ?_
    refine XQ.done1 rfl rfl (Im.le_refl _) ?_
    exact ⟨rfl, congrArg Value.bool (decide_eq_false hne).symm, rfl⟩
  · skip
    simp only [cmpInt, bne_eq_false_iff_eq] at h1
    have hlen : xs.length = ys.length := by omega
    refine XC.skip ?_
    refine XQ.then_normal ?_
    refine XC.seq ?_
    refine XC.seq ?_
    refine XC.region ?_
    refine XO.rd rfl rfl rfl (Reads.assign rfl) ?_
    refine XO.nil ?_
    refine XQ.then_normal ?_
    refine XC.block ?_
    refine XC.loop (ι := Nat) (fun q => [(0, .slice a xs.length ca), (1, .slice c ys.length cc), (5, .int .i64 q)]) (fun q => I) (fun q => [] ++ Lf) (fun q => q ≤ xs.length ∧ ∀ j, j < q → xs[j]? = ys[j]?) (fun q => xs.length - q) 0 ⟨Nat.zero_le _, fun _ h => absurd h (Nat.not_lt_zero _)⟩ ⟨rfl, rfl, rfl, trivial⟩ rfl (List.Perm.refl _) (fun k hk => ?_)
    obtain ⟨hk1, heq⟩ := hk
    refine XC.seq ?_
    refine XC.seq ?_
    refine XC.region ?_
    refine XO.rd rfl rfl rfl (Reads.move rfl) ?_
    refine XO.rd rfl rfl rfl (Reads.move rfl) ?_
    refine XO.rd rfl rfl rfl (Reads.len_slice Tryd.underlying37 rfl) ?_
    refine XO.rd rfl rfl rfl (Reads.cmp rfl rfl rfl) ?_
    refine XO.nil ?_
    refine XQ.then_normal ?_
    refine XC.cond rfl (fun h2 => ?_) (fun h2 => ?_)
    · skip
      simp only [cmpInt, decide_eq_true_eq] at h2
      have hk3 : k < xs.length := by omega
      have hk4 : k < ys.length := by omega
      refine XC.skip ?_
      refine XQ.then_normal ?_
      refine XC.seq ?_
      refine XC.block ?_
      refine XC.seq ?_
      refine XC.draw m_mixed none (.pure 0 (.pure 1 (.pure 2 (.pure 3 (.pure 4 (.pure 5 (.pure 6 (.pure 7 (.pure 8 (.done)))))))))) _ (by kernel_rfl) (List.Sublist.refl _) ?_
      refine XR.rd rfl rfl rfl (Reads.move rfl) ?_
      refine XR.rd rfl rfl rfl (Reads.move rfl) ?_
      refine XR.rd rfl rfl rfl (Reads.index_slot (q := k * 4) Tryd.underlying37 z24 rfl rfl (by omega) (hA.isSome (by decide) (by omega)) (by omega)) ?_
      refine XR.rd rfl rfl rfl (Reads.load_agg_at (vs := xs[k].cells) k24 z24 rfl (hA.addr (by decide) (by omega)) (Arr.pkt hA hk3)) ?_
      refine XR.rd rfl rfl rfl (Reads.move rfl) ?_
      refine XR.rd rfl rfl rfl (Reads.move rfl) ?_
      refine XR.rd rfl rfl rfl (Reads.index_slot (q := k * 4) Tryd.underlying37 z24 rfl rfl (by omega) (hB.isSome (by decide) (by omega)) (by omega)) ?_
      refine XR.rd rfl rfl rfl (Reads.load_agg_at (vs := ys[k].cells) k24 z24 rfl (hB.addr (by decide) (by omega)) (Arr.pkt hB hk4)) ?_
      refine XR.rd rfl rfl rfl (Reads.pkt_ne (p := xs[k]) (q := ys[k]) rfl rfl) ?_
      refine XR.nil ?_
      refine XQ.then_normal ?_
      refine XC.cond rfl (fun h3 => ?_) (fun h3 => ?_)
      · skip
        simp only [Bool.not_eq_true', decide_eq_false_iff_not] at h3
        have hne : xs ≠ ys := fun hh => by subst hh; exact h3 rfl
        refine XC.seq ?_
        refine XC.region ?_
        refine XO.rd rfl rfl rfl (Reads.assign rfl) ?_
        refine XO.nil ?_
        refine XQ.then_normal ?_
        refine XC.ret ?_
        refine XQ.block_ret ?_
        refine XQ.then_ret ?_
        refine XQ.then_ret ?_
        refine XQ.block_ret ?_
        refine XQ.then_ret ?_
        refine XQ.done1 rfl rfl (Im.le_refl _) ?_
        exact ⟨rfl, congrArg Value.bool (decide_eq_false hne).symm, rfl⟩
      · skip
        simp only [Bool.not_eq_false', decide_eq_true_eq] at h3
        have hkk : xs[k]? = ys[k]? := by rw [List.getElem?_eq_getElem hk3, List.getElem?_eq_getElem hk4, h3]
        refine XC.skip ?_
        refine XQ.block_normal ?_
        refine XQ.then_normal ?_
        refine XC.region ?_
        refine XO.rd rfl rfl rfl (Reads.move rfl) ?_
        refine XO.rd rfl rfl rfl (Reads.add rfl rfl (by omega)) ?_
        refine XO.rd rfl rfl rfl (Reads.assign rfl) ?_
        refine XO.nil ?_
        refine XQ.back (k + 1) ⟨by omega, fun j hj => by rcases Nat.lt_succ_iff_lt_or_eq.1 hj with h | rfl; exact heq j h; exact hkk⟩ (by omega) ⟨rfl, rfl, rfl, trivial⟩ rfl (List.Perm.refl _)
    · skip
      simp only [cmpInt, decide_eq_false_iff_not] at h2
      have hyes : xs = ys := by
        apply List.ext_getElem?
        intro j
        by_cases hj : j < xs.length
        · exact heq j (by omega)
        · rw [List.getElem?_eq_none (by omega), List.getElem?_eq_none (by omega)]
      refine XC.exit ?_
      refine XQ.then_exit ?_
      refine XQ.then_exit ?_
      refine XQ.block_exit ?_
      refine XQ.then_normal ?_
      refine XC.seq ?_
      refine XC.region ?_
      refine XO.rd rfl rfl rfl (Reads.assign rfl) ?_
      refine XO.nil ?_
      refine XQ.then_normal ?_
      refine XC.ret ?_
      refine XQ.done1 rfl rfl (Im.le_refl _) ?_
      exact ⟨rfl, congrArg Value.bool (decide_eq_true hyes).symm, rfl⟩

theorem busy_all (a : Option Addr) (cap : Nat) (ops : List Q4) (I : Im) (hY : Arr I a ops) (hops : ∀ x ∈ ops, x.In) (hG : Glob I) : FSo Tryd.prog 39 [.slice a ops.length cap] I [] (fun u I' L' => ∃ (bk : Nat → Nat) (h : Nat → EH), u = .tuple #[.pointer (some ⟨bk 0, 0, none⟩), .pointer (some ⟨bk 1, 0, none⟩), .bool true] ∧ L' = twoL bk (busyF ops) h ∧ ∀ n, n < 2 → EndIs (busyF ops n) (h n)) := by
  have hI := Im.le_refl I
  refine FSo.intro (n := 99) Tryd.func39 rfl rfl rfl (fun K Lf => ?_)
  refine XC.seq ?_
  refine XC.region ?_
  refine XO.rd rfl rfl rfl (Reads.assign rfl) ?_
  refine XO.rd rfl rfl rfl (Reads.assign rfl) ?_
  refine XO.rd rfl rfl rfl (Reads.assign rfl) ?_
  refine XO.nil ?_
  refine XQ.then_normal ?_
  refine XC.seq ?_
  refine XC.region ?_
  refine XO.callo (vs := []) (L1 := []) rfl rfl rfl en13 trivial (pair_any _) (List.Perm.refl _) ?_
  rintro v I' L' _ ⟨ba, ha, bb, hb, rfl, hI', rfl, hEa, hEb⟩
  replace hI' := hI'.symm
  subst hI'
  obtain ⟨bk, hb0, hb1⟩ : ∃ bk : Nat → Nat, bk 0 = ba ∧ bk 1 = bb := ⟨fun n => if n = 0 then ba else bb, rfl, rfl⟩
  subst hb0
  subst hb1
  obtain ⟨h0, hh0, hh1⟩ : ∃ h0 : Nat → EH, h0 0 = ha ∧ h0 1 = hb := ⟨fun n => if n = 0 then ha else hb, rfl, rfl⟩
  subst hh0
  subst hh1
  have hE0 : ∀ n, n < 2 → EndIs (startF n) (h0 n) := fun n hn => by
    match n, hn with
    | 0, _ => exact hEa
    | 1, _ => exact hEb
  refine XO.rd rfl rfl rfl (Reads.move rfl) ?_
  refine XO.rd rfl rfl rfl (Reads.extract rfl rfl) ?_
  refine XO.rd rfl rfl rfl (Reads.extract rfl rfl) ?_
  refine XO.rd rfl rfl rfl (Reads.extract rfl rfl) ?_
  refine XO.rd rfl rfl rfl (Reads.assign rfl) ?_
  refine XO.rd rfl rfl rfl (Reads.assign rfl) ?_
  refine XO.rd rfl rfl rfl (Reads.assign rfl) ?_
  refine XO.nil ?_
  refine XQ.then_normal ?_
  refine XC.seq ?_
  refine XC.seq ?_
  refine XC.region ?_
  refine XO.rd rfl rfl rfl (Reads.move rfl) ?_
  refine XO.rd rfl rfl rfl (Reads.not rfl) ?_
  refine XO.nil ?_
  refine XQ.then_normal ?_
  refine XC.cond rfl (fun hx => by cases hx) (fun _ => ?_)
  refine XC.skip ?_
  refine XQ.then_normal ?_
  refine XC.seq ?_
  refine XC.region ?_
  refine XO.rd rfl rfl rfl (Reads.move rfl) ?_
  refine XO.rd rfl rfl rfl (Reads.move rfl) ?_
  refine XO.lit (α := PB) [⟨bk 0⟩, ⟨bk 1⟩] [.pointer (some ⟨bk 0, 0, none⟩), .pointer (some ⟨bk 1, 0, none⟩)] [.pointer (some ⟨bk 0, 0, none⟩), .pointer (some ⟨bk 1, 0, none⟩)] rfl rfl Tryd.underlying30 el25 rfl (by simp) ⟨rfl, rfl, rfl, rfl, trivial⟩ rfl rfl (by decide) rfl (.cons (cs := [.pointer (some ⟨bk 0, 0, none⟩)]) rfl (.cons (cs := [.pointer (some ⟨bk 1, 0, none⟩)]) rfl .nil)) (fun be J1 hle1 hse => ?_)
  replace hI := Im.le_trans hI hle1
  replace hG := hG.mono hle1
  replace hY := hY.mono hle1
  have hP := hse.arr.1
  refine XO.rd rfl rfl rfl (Reads.assign rfl) ?_
  refine XO.nil ?_
  refine XQ.then_normal ?_
  refine XC.seq ?_
  refine XC.seq ?_
  refine XC.region ?_
  refine XO.rd rfl rfl rfl (Reads.assign rfl) ?_
  refine XO.nil ?_
  refine XQ.then_normal ?_
  refine XC.block ?_
  refine XC.loop (ι := Nat × (Nat → EH)) (fun q => [(0, .slice a ops.length cap), (5, .pointer (some ⟨bk 0, 0, none⟩)), (6, .pointer (some ⟨bk 1, 0, none⟩)), (8, .slice (some ⟨be, 0, none⟩) 2 2), (9, .int .i64 q.1)]) (fun q => J1) (fun q => twoL bk (runF ops q.1) q.2 ++ Lf) (fun q => q.1 ≤ ops.length ∧ q.1 ≤ 12 ∧ ∀ n, n < 2 → EndIs (runF ops q.1 n) (q.2 n)) (fun q => 12 - q.1) (0, h0) ⟨Nat.zero_le _, Nat.zero_le _, hE0⟩ ⟨rfl, rfl, rfl, rfl, rfl, trivial⟩ rfl (perm_take [3, 3, 3]) (fun q hq => ?_)
  obtain ⟨k, hh⟩ := q
  obtain ⟨hk1, hk2, hEs⟩ := hq
  simp only at hk1 hk2 hEs ⊢
  have hS := run_sys ops k hk2
  refine XC.seq ?_
  refine XC.seq ?_
  refine XC.region ?_
  refine XO.rd rfl rfl rfl (Reads.move rfl) ?_
  refine XO.rd rfl rfl rfl (Reads.move rfl) ?_
  refine XO.rd rfl rfl rfl (Reads.len_slice Tryd.underlying22 rfl) ?_
  refine XO.rd rfl rfl rfl (Reads.cmp rfl rfl rfl) ?_
  refine XO.rd rfl rfl rfl (Reads.move rfl) ?_
  refine XO.split (d := 29) rfl (fun h1 => ?_) (fun h1 => ?_)
  · skip
    simp only [cmpInt, decide_eq_true_eq] at h1
    have hk3 : k < ops.length := by omega
    refine XO.rd (wg rfl rfl rfl) rfl rfl (Reads.move rfl) ?_
    refine XO.rd (wg rfl rfl rfl) rfl rfl (Reads.cmp rfl rfl rfl) ?_
    refine XO.rd rfl rfl rfl (Reads.pick_true rfl rfl) ?_
    refine XO.nil ?_
    refine XQ.then_normal ?_
    refine XC.cond rfl (fun h2 => ?_) (fun h2 => ?_)
    · skip
      simp only [cmpInt, decide_eq_true_eq] at h2
      have hk12 : k < 12 := by omega
      have hq := hops _ (List.getElem_mem hk3)
      have hp2 := pickI_range (c := ops[k].a) (n := 2) (by omega)
      have hp16 := pickI_range (c := ops[k].d) (n := 16) (by omega)
      have hbs := bodyB_size ops[k].c
      refine XC.skip ?_
      refine XQ.then_normal ?_
      refine XC.seq ?_
      refine XC.block ?_
      refine XC.seq ?_
      refine XC.region ?_
      refine XO.rd rfl rfl rfl (Reads.move rfl) ?_
      refine XO.rd rfl rfl rfl (Reads.move rfl) ?_
      refine XO.rd rfl rfl rfl (Reads.index_slot (q := k * 4) Tryd.underlying22 z39 rfl rfl (by omega) (hY.isSome (by decide) (by omega)) (by omega)) ?_
      refine XO.rd rfl rfl rfl (Reads.index_arr_slot (q := k * 4 + 0) Tryd.underlying39 z3 rfl rfl (by decide) (hY.addr (by decide) (by omega)) (by omega)) ?_
      refine XO.rd rfl rfl rfl (Reads.load_at k3 rfl (Arr.q4 hY hk3 0 _ rfl)) ?_
      refine XO.callp rfl rfl en18 (pickL_any ops[k].a 2 _ hq.a (by decide)) ⟨rfl, rfl, trivial⟩ ?_
      obtain ⟨n, hnn⟩ : ∃ n : Nat, pickI ops[k].a 2 = n := ⟨(pickI ops[k].a 2).toNat, by omega⟩
      have hnt : (pickI ops[k].a 2).toNat = n := by omega
      have hn : n < 2 := by omega
      rw [hnn]
      refine XO.rd rfl rfl rfl (Reads.assign rfl) ?_
      refine XO.nil ?_
      refine XQ.then_normal ?_
      refine XC.seq ?_
      refine XC.seq ?_
      refine XC.region ?_
      refine XO.rd rfl rfl rfl (Reads.move rfl) ?_
      refine XO.rd rfl rfl rfl (Reads.move rfl) ?_
      refine XO.rd rfl rfl rfl (Reads.index_slot (q := k * 4) Tryd.underlying22 z39 rfl rfl (by omega) (hY.isSome (by decide) (by omega)) (by omega)) ?_
      refine XO.rd rfl rfl rfl (Reads.index_arr_slot (q := k * 4 + 1) Tryd.underlying39 z3 rfl rfl (by decide) (hY.addr (by decide) (by omega)) (by omega)) ?_
      refine XO.rd rfl rfl rfl (Reads.load_at k3 rfl (Arr.q4 hY hk3 1 _ rfl)) ?_
      refine XO.callp rfl rfl en18 (pickL_any ops[k].b 2 _ hq.b (by decide)) ⟨rfl, rfl, trivial⟩ ?_
      refine XO.rd rfl rfl rfl (Reads.cmp rfl rfl rfl) ?_
      refine XO.nil ?_
      refine XQ.then_normal ?_
      refine XC.cond rfl (fun h3 => ?_) (fun h3 => ?_)
      · skip
        simp only [cmpInt, beq_iff_eq] at h3
        have hb0 : pickI ops[k].b 2 = 0 := h3
        refine XC.seq ?_
        refine XC.seq ?_
        refine XC.draw m_mixed none (.pure 0 (.pure 1 (.pure 2 (.pure 3 (.pure 4 (.pure 5 (.pure 6 (.pure 7 (.pure 8 (.eff 9 (.eff 10 (.pure 11 (.done))))))))))))) [] (by kernel_rfl) (List.nil_sublist _) ?_
        refine XR.rd rfl rfl rfl (Reads.move rfl) ?_
        refine XR.rd rfl rfl rfl (Reads.move rfl) ?_
        refine XR.rd rfl rfl rfl (Reads.index_slot (q := n) Tryd.underlying30 z25 rfl rfl (by omega) (hP.isSome (by decide) (Nat.succ_pos 1)) (by omega)) ?_
        refine XR.rd rfl rfl rfl (Reads.load_at k25 rfl (Arr.ptr hP hn)) ?_
        refine XR.rd rfl rfl rfl (Reads.move rfl) ?_
        refine XR.rd rfl rfl rfl (Reads.move rfl) ?_
        refine XR.rd rfl rfl rfl (Reads.index_slot (q := k * 4) Tryd.underlying22 z39 rfl rfl (by omega) (hY.isSome (by decide) (by omega)) (by omega)) ?_
        refine XR.rd rfl rfl rfl (Reads.index_arr_slot (q := k * 4 + 2) Tryd.underlying39 z3 rfl rfl (by decide) (hY.addr (by decide) (by omega)) (by omega)) ?_
        refine XR.rd rfl rfl rfl (Reads.load_at k3 rfl (Arr.q4 hY hk3 2 _ rfl)) ?_
        refine XR.callp rfl rfl rfl en19 (body_any ops[k].c _ hq.c) ⟨rfl, trivial⟩ (List.nil_sublist _) ?_
        refine XR.callo (vs := [_, _]) (L1 := endL (bk n) (runF ops k n) (hh n)) rfl rfl rfl rfl en20 ⟨rfl, rfl, trivial⟩ (send_is (send_sys hS.1 hn (by omega) (by have := hS.2 n hn; omega)).1 (hEs n hn) (by omega)) (((twoL_out hn).append_right Lf).trans (by rw [List.append_assoc])) ?_
        rintro v I' L' _ ⟨rfl, hI', h', rfl, hE'⟩
        replace hI' := hI'.symm
        subst hI'
        refine ⟨.inr (List.nil_sublist _), ?_⟩
        refine XR.rd rfl rfl rfl (Reads.cmp rfl rfl rfl) ?_
        refine XR.nil ?_
        refine XQ.then_normal ?_
        refine XC.cond rfl (fun hx => by cases hx) (fun _ => ?_)
        refine XC.skip ?_
        refine XQ.then_normal ?_
        refine XC.exit ?_
        refine XQ.then_exit ?_
        refine XQ.block_exit ?_
        refine XQ.then_normal ?_
        refine XC.weaken (E' := [(0, _), (5, _), (6, _), (8, _), (9, _)]) ⟨rfl, rfl, rfl, rfl, rfl, trivial⟩ ?_
        refine XC.region ?_
        refine XO.rd rfl rfl rfl (Reads.move rfl) ?_
        refine XO.rd rfl rfl rfl (Reads.add rfl rfl (by omega)) ?_
        refine XO.rd rfl rfl rfl (Reads.assign rfl) ?_
        refine XO.nil ?_
        have hst := run_send hk3 hb0 hnt (send_sys hS.1 hn (s := bodyB ops[k].c) (by omega) (by have := hS.2 n hn; omega)).1
        refine XQ.back (k + 1, upd hh n h') ⟨by simp only; omega, by simp only; omega, by simp only; rw [hst]; exact upd_is hEs hE'⟩ (by simp only; omega) ⟨rfl, rfl, rfl, rfl, rfl, trivial⟩ rfl (by simp only; rw [hst, ← List.append_assoc]; exact (twoL_in hn).append_right Lf)
      · skip
        simp only [cmpInt, beq_eq_false_iff_ne] at h3
        have hb0 : ¬ pickI ops[k].b 2 = 0 := h3
        refine XC.skip ?_
        refine XQ.then_normal ?_
        refine XC.seq ?_
        refine XC.region ?_
        refine XO.rd rfl rfl rfl (Reads.move rfl) ?_
        refine XO.rd rfl rfl rfl (Reads.move rfl) ?_
        refine XO.rd rfl rfl rfl (Reads.index_slot (q := n) Tryd.underlying30 z25 rfl rfl (by omega) (hP.isSome (by decide) (Nat.succ_pos 1)) (by omega)) ?_
        refine XO.rd rfl rfl rfl (Reads.load_at k25 rfl (Arr.ptr hP hn)) ?_
        refine XO.callo (vs := [_]) (L1 := endL (bk n) (runF ops k n) (hh n)) rfl rfl rfl en22 ⟨rfl, trivial⟩ (out_is rfl (hEs n hn) hG) (((twoL_out hn).append_right Lf).trans (by rw [List.append_assoc])) ?_
        rintro v I' L' _ ⟨V, rfl, hI', rfl, hV, hVl⟩
        replace hI' := hI'.symm
        subst hI'
        refine XO.rd rfl rfl rfl (Reads.assign rfl) ?_
        refine XO.nil ?_
        refine XQ.then_normal ?_
        refine XC.seq ?_
        refine XC.weaken (E' := [(0, _), (5, _), (6, _), (8, _), (9, _), (10, _), (11, _)]) ⟨rfl, rfl, rfl, rfl, rfl, rfl, rfl, trivial⟩ ?_
        refine XC.region ?_
        refine XO.rd rfl rfl rfl (Reads.assign rfl) ?_
        refine XO.nil ?_
        refine XQ.then_normal ?_
        refine XC.block ?_
        refine XC.loop (ι := Nat × EH) (fun q => [(0, .slice a ops.length cap), (5, .pointer (some ⟨bk 0, 0, none⟩)), (6, .pointer (some ⟨bk 1, 0, none⟩)), (8, .slice (some ⟨be, 0, none⟩) 2 2), (9, .int .i64 k), (10, .int .i64 n), (11, V.val), (12, .int .i64 q.1)]) (fun q => J1) (fun q => V.ent 24 :: endL (bk n) (runF ops k n) (hh n) ++ endL (bk (1 - n)) (delF ops[k].d (outF (runF ops k n)) (runF ops k (1 - n)) q.1) q.2 ++ Lf) (fun q => q.1 ≤ (outF (runF ops k n)).length ∧ EndIs (delF ops[k].d (outF (runF ops k n)) (runF ops k (1 - n)) q.1) q.2) (fun q => (outF (runF ops k n)).length - q.1) (0, hh (1 - n)) ⟨Nat.zero_le _, hEs _ (by omega)⟩ ⟨rfl, rfl, rfl, rfl, rfl, rfl, rfl, rfl, trivial⟩ rfl (List.Perm.refl _) (fun q hq => ?_)
        obtain ⟨j, hm⟩ := q
        obtain ⟨hj1, hEm⟩ := hq
        simp only at hj1 hEm ⊢
        have hb4 : (outF (runF ops k n)).length ≤ 4 := by rw [outF, List.length_map]; exact bareF_len _
        refine XC.seq ?_
        refine XC.seq ?_
        refine XC.region ?_
        refine XO.rd rfl rfl rfl (Reads.move rfl) ?_
        refine XO.rd rfl rfl rfl (Reads.move rfl) ?_
        refine XO.rd rfl rfl rfl (Reads.len_slice Tryd.underlying37 rfl) ?_
        refine XO.rd rfl rfl rfl (Reads.cmp rfl rfl rfl) ?_
        refine XO.nil ?_
        refine XQ.then_normal ?_
        refine XC.cond rfl (fun h4 => ?_) (fun h4 => ?_)
        · skip
          simp only [cmpInt, decide_eq_true_eq] at h4
          have hj3 : j < (outF (runF ops k n)).length := by omega
          refine XC.skip ?_
          refine XQ.then_normal ?_
          refine XC.seq ?_
          refine XC.block ?_
          refine XC.seq ?_
          refine XC.region ?_
          refine XO.rd rfl rfl rfl (Reads.move rfl) ?_
          refine XO.rd rfl rfl rfl (Reads.move rfl) ?_
          refine XO.rd rfl rfl rfl (Reads.index_slot (q := k * 4) Tryd.underlying22 z39 rfl rfl (by omega) (hY.isSome (by decide) (by omega)) (by omega)) ?_
          refine XO.rd rfl rfl rfl (Reads.index_arr_slot (q := k * 4 + 3) Tryd.underlying39 z3 rfl rfl (by decide) (hY.addr (by decide) (by omega)) (by omega)) ?_
          refine XO.rd rfl rfl rfl (Reads.load_at k3 rfl (Arr.q4 hY hk3 3 _ rfl)) ?_
          refine XO.callp rfl rfl en18 (pickL_any ops[k].d 16 _ hq.d (by decide)) ⟨rfl, rfl, trivial⟩ ?_
          refine XO.rd rfl rfl rfl (Reads.move rfl) ?_
          refine XO.rd rfl rfl rfl (Reads.rem rfl rfl (by omega) (by decide)) ?_
          rw [show ((j : Nat) : Int) % 4 = ((j % 4 : Nat) : Int) by omega]
          rw [show pickI ops[k].d 16 = (((pickI ops[k].d 16).toNat : Nat) : Int) by omega]
          refine XO.rd rfl rfl rfl (Reads.shrn rfl rfl (by show j % 4 ≤ 64; omega)) ?_
          refine XO.rd rfl rfl rfl (Reads.rem rfl rfl (Int.natCast_nonneg _) (by decide)) ?_
          refine XO.rd rfl rfl rfl (Reads.cmp rfl rfl rfl) ?_
          refine XO.nil ?_
          refine XQ.then_normal ?_
          refine XC.cond rfl (fun h5 => ?_) (fun h5 => ?_)
          · skip
            simp only [cmpInt, beq_iff_eq] at h5
            have hbit : bitF ops[k].d j = true := decide_eq_true (by generalize (pickI ops[k].d 16).toNat / 2 ^ (j % 4) = z at *; omega)
            refine XC.seq ?_
            refine XC.draw m_mixed none (.pure 0 (.pure 1 (.pure 2 (.pure 3 (.pure 4 (.pure 5 (.pure 6 (.pure 7 (.pure 8 (.eff 9 (.pure 10 (.pure 11 (.pure 12 (.pure 13 (.pure 14 (.done)))))))))))))))) [V.ent 24] (by kernel_rfl) (List.Sublist.cons_cons _ (List.nil_sublist _)) ?_
            refine XR.rd rfl rfl rfl (Reads.move rfl) ?_
            refine XR.rd rfl rfl rfl (Reads.move rfl) ?_
            refine XR.rd rfl rfl rfl (Reads.sub rfl rfl (by omega)) ?_
            rw [show (1 : Int) - (n : Int) = ((1 - n : Nat) : Int) by omega]
            refine XR.rd rfl rfl rfl (Reads.index_slot (q := 1 - n) Tryd.underlying30 z25 rfl rfl (by omega) (hP.isSome (by decide) (Nat.succ_pos 1)) (by omega)) ?_
            refine XR.rd rfl rfl rfl (Reads.load_at k25 rfl (Arr.ptr hP (by omega))) ?_
            refine XR.rd rfl rfl rfl (Reads.move rfl) ?_
            refine XR.rd rfl rfl rfl (Reads.move rfl) ?_
            refine XR.rd rfl rfl rfl (Reads.index_slot (q := j * 4) Tryd.underlying37 z24 rfl rfl (by omega) (vec_isSomes (k := j * 4 + 0) hV (pktC_at _ hj3 0 _ rfl)) (by omega)) ?_
            refine XR.rd rfl rfl rfl (Reads.load_agg_vecs (V := V) (vs := (outF (runF ops k n))[j].cells) k24 z24 rfl hV (e := 24) (List.mem_of_getElem? (i := 0) rfl) (Nat.succ_pos _) (pktC_at _ hj3)) ?_
            obtain ⟨y1, ms1, hin1⟩ := del_in hS.1 hn hj3 (d := ops[k].d)
            refine XR.callo (vs := [_, _]) (L1 := endL (bk (1 - n)) (delF ops[k].d (outF (runF ops k n)) (runF ops k (1 - n)) j) hm) rfl rfl rfl rfl en26 ⟨rfl, rfl, trivial⟩ (in_is hin1 hEm (outF_in (hS.1.ok n hn) _ (List.getElem_mem hj3)) hG) (perm_take [4, 4, 4]) ?_
            rintro v I' L' _ ⟨Vm, h', rfl, hI', rfl, _, _, hE'⟩
            replace hI' := hI'.symm
            subst hI'
            refine ⟨.inr (List.Sublist.cons _ (List.Sublist.cons _ (List.Sublist.cons _ (List.Sublist.cons _ (List.Sublist.cons_cons _ (List.nil_sublist _)))))), ?_⟩
            refine XR.rd rfl rfl rfl (Reads.move rfl) ?_
            refine XR.rd rfl rfl rfl (Reads.extract rfl rfl) ?_
            refine XR.rd rfl rfl rfl (Reads.extract rfl rfl) ?_
            refine XR.rd rfl rfl rfl (Reads.assign rfl) ?_
            refine XR.rd rfl rfl rfl (Reads.assign rfl) ?_
            refine XR.nil ?_
            refine XQ.then_normal ?_
            refine XC.seq ?_
            refine XC.region ?_
            refine XO.dropn 1 ?_
            refine XO.own_eq (L' := endL (bk (1 - n)) y1 h' ++ (V.ent 24 :: endL (bk n) (runF ops k n) (hh n) ++ Lf)) rfl ?_
            refine XO.rd rfl rfl rfl (Reads.move rfl) ?_
            refine XO.rd rfl rfl rfl (Reads.cmp rfl rfl rfl) ?_
            refine XO.nil ?_
            refine XQ.then_normal ?_
            refine XC.cond rfl (fun hx => by cases hx) (fun _ => ?_)
            refine XC.skip ?_
            refine XQ.block_normal ?_
            refine XQ.then_normal ?_
            refine XC.region ?_
            refine XO.rd rfl rfl rfl (Reads.move rfl) ?_
            refine XO.rd rfl rfl rfl (Reads.add rfl rfl (by omega)) ?_
            refine XO.rd rfl rfl rfl (Reads.assign rfl) ?_
            refine XO.nil ?_
            have hde : delF ops[k].d (outF (runF ops k n)) (runF ops k (1 - n)) (j + 1) = y1 := by rw [delF_succ, if_pos hbit, show (outF (runF ops k n)).getD j ⟨0, 0, ⟨#[]⟩, ⟨#[]⟩⟩ = (outF (runF ops k n))[j] by simp [hj3], hin1]
            refine XQ.back (j + 1, h') ⟨by simp only; omega, by simp only; rw [hde]; exact hE'⟩ (by simp only; omega) ⟨rfl, rfl, rfl, rfl, rfl, rfl, rfl, rfl, trivial⟩ rfl (by simp only; rw [hde]; exact perm_take [3, 3, 3, 3])
          · skip
            simp only [cmpInt, beq_eq_false_iff_ne] at h5
            have hbit : bitF ops[k].d j = false := decide_eq_false (by generalize (pickI ops[k].d 16).toNat / 2 ^ (j % 4) = z at *; omega)
            refine XC.skip ?_
            refine XQ.block_normal ?_
            refine XQ.then_normal ?_
            refine XC.region ?_
            refine XO.rd rfl rfl rfl (Reads.move rfl) ?_
            refine XO.rd rfl rfl rfl (Reads.add rfl rfl (by omega)) ?_
            refine XO.rd rfl rfl rfl (Reads.assign rfl) ?_
            refine XO.nil ?_
            refine XQ.back (j + 1, hm) ⟨by simp only; omega, by simp only; rw [delF_succ, hbit]; exact hEm⟩ (by simp only; omega) ⟨rfl, rfl, rfl, rfl, rfl, rfl, rfl, rfl, trivial⟩ rfl (by simp only; rw [delF_succ, hbit]; exact List.Perm.refl _)
        · skip
          simp only [cmpInt, decide_eq_false_iff_not] at h4
          have hje : j = (outF (runF ops k n)).length := by omega
          refine XC.exit ?_
          refine XQ.then_exit ?_
          refine XQ.then_exit ?_
          refine XQ.block_exit ?_
          refine XQ.block_normal ?_
          refine XQ.then_normal ?_
          refine XC.region ?_
          refine XO.rd rfl rfl rfl (Reads.move rfl) ?_
          refine XO.rd rfl rfl rfl (Reads.add rfl rfl (by omega)) ?_
          refine XO.rd rfl rfl rfl (Reads.assign rfl) ?_
          refine XO.nil ?_
          have hst := run_del hk3 hb0 hnt
          subst hje
          refine XQ.dropn 1 ?_
          refine XQ.own_eq (L' := endL (bk n) (runF ops k n) (hh n) ++ endL (bk (1 - n)) (delF ops[k].d (outF (runF ops k n)) (runF ops k (1 - n)) (outF (runF ops k n)).length) hm ++ Lf) rfl ?_
          refine XQ.back (k + 1, upd hh (1 - n) hm) ⟨by simp only; omega, by simp only; omega, by simp only; rw [hst]; exact upd_is hEs hEm⟩ (by simp only; omega) ⟨rfl, rfl, rfl, rfl, rfl, trivial⟩ rfl (by simp only; rw [hst]; exact (twoL_in2 hn).append_right Lf)
    · skip
      simp only [cmpInt, decide_eq_false_iff_not] at h2
      have hend : runF ops k = busyF ops := run_end (by omega) hk2
      refine XC.exit ?_
      refine XQ.then_exit ?_
      refine XQ.then_exit ?_
      refine XQ.block_exit ?_
      refine XQ.then_normal ?_
      refine XC.seq ?_
      refine XC.region ?_
      refine XO.rd rfl rfl rfl (Reads.move rfl) ?_
      refine XO.rd rfl rfl rfl (Reads.move rfl) ?_
      refine XO.rd rfl rfl rfl (Reads.assign rfl) ?_
      refine XO.rd rfl rfl rfl (Reads.assign rfl) ?_
      refine XO.rd rfl rfl rfl (Reads.assign rfl) ?_
      refine XO.nil ?_
      refine XQ.then_normal ?_
      refine XC.ret ?_
      rw [hend] at hEs ⊢
      refine XQ.done3 (L := twoL bk (busyF ops) hh) rfl rfl rfl rfl hI ?_
      exact ⟨bk, hh, rfl, rfl, hEs⟩
  · skip
    simp only [cmpInt, decide_eq_false_iff_not] at h1
    have hend : runF ops k = busyF ops := run_end (by omega) hk2
    refine XO.s (wg rfl rfl rfl) rfl ?_
    refine XO.s (wg rfl rfl rfl) rfl ?_
    refine XO.rd rfl rfl rfl (Reads.pick_false rfl rfl) ?_
    refine XO.nil ?_
    refine XQ.then_normal ?_
    refine XC.cond rfl (fun hx => by cases hx) (fun _ => ?_)
    refine XC.exit ?_
    refine XQ.then_exit ?_
    refine XQ.then_exit ?_
    refine XQ.block_exit ?_
    refine XQ.then_normal ?_
    refine XC.seq ?_
    refine XC.region ?_
    refine XO.rd rfl rfl rfl (Reads.move rfl) ?_
    refine XO.rd rfl rfl rfl (Reads.move rfl) ?_
    refine XO.rd rfl rfl rfl (Reads.assign rfl) ?_
    refine XO.rd rfl rfl rfl (Reads.assign rfl) ?_
    refine XO.rd rfl rfl rfl (Reads.assign rfl) ?_
    refine XO.nil ?_
    refine XQ.then_normal ?_
    refine XC.ret ?_
    rw [hend] at hEs ⊢
    refine XQ.done3 (L := twoL bk (busyF ops) hh) rfl rfl rfl rfl hI ?_
    exact ⟨bk, hh, rfl, rfl, hEs⟩

end Go.Proofs.YtkjhhifhgcihpaaDoor
