/- Walk: LinkOnce. -/
import Derived.Test.YtkjhhifhgcihpaaDoorD16
namespace Go.Proofs.YtkjhhifhgcihpaaDoor
open Go.Xe Go.Sh Go Go.Lk

set_option maxHeartbeats 16000000 in
theorem linkOnce_any (a : Option Addr) (cap : Nat) (ops : List Q4) (I : Im) (hY : Arr I a ops) (hops : ∀ x ∈ ops, x.In) (hG : Glob I) : FC Tryd.prog 4 [.slice a ops.length cap] I (fun u I' => u = .bool true) := by
  have hI := Im.le_refl I
  refine FSo.intro (n := 325) Tryd.func4 rfl rfl rfl (fun K Lf => ?_)
  refine XC.seq ?_
  refine XC.region ?_
  refine XO.rd rfl rfl rfl (Reads.assign rfl) ?_
  refine XO.nil ?_
  refine XQ.then_normal ?_
  refine XC.seq ?_
  refine XC.region ?_
  refine XO.callo (vs := []) (L1 := []) rfl rfl rfl en13 trivial (pair_any _) (List.Perm.refl _) ?_
  rintro v I' L' _ ⟨ba, ha, bb, hb, rfl, hI', rfl, hEa, hEb⟩
  replace hI' := hI'.symm
  subst hI'
  obtain ⟨bk, hb0, hb1⟩ : ∃ bk : Nat → Nat, bk 0 = ba ∧ bk 1 = bb := ⟨fun n => if n = 0 then ba else bb, rfl, rfl⟩
  subst hb0
  subst hb1
  obtain ⟨h0, hh0, hh1⟩ : ∃ h0 : Nat → EH, h0 0 = ha ∧ h0 1 = hb := ⟨fun n => if n = 0 then ha else hb, rfl, rfl⟩
  subst hh0
  subst hh1
  have hE0 : ∀ n, n < 2 → EndIs (startF n) (h0 n) := fun n hn => by
    match n, hn with
    | 0, _ => exact hEa
    | 1, _ => exact hEb
  refine XO.perm (perm_take [3, 3, 3]) ?_
  refine XO.own_eq (L' := (twoL bk startF h0 ++ Lf)) rfl ?_
  refine XO.rd rfl rfl rfl (Reads.move rfl) ?_
  refine XO.rd rfl rfl rfl (Reads.extract rfl rfl) ?_
  refine XO.rd rfl rfl rfl (Reads.extract rfl rfl) ?_
  refine XO.rd rfl rfl rfl (Reads.extract rfl rfl) ?_
  refine XO.rd rfl rfl rfl (Reads.assign rfl) ?_
  refine XO.rd rfl rfl rfl (Reads.assign rfl) ?_
  refine XO.rd rfl rfl rfl (Reads.assign rfl) ?_
  refine XO.nil ?_
  refine XQ.then_normal ?_
  refine XC.seq ?_
  refine XC.seq ?_
  refine XC.region ?_
  refine XO.callp rfl rfl en14 (FC.pure (sane_any _ hG)) trivial ?_
  refine XO.rd rfl rfl rfl (Reads.not rfl) ?_
  refine XO.rd rfl rfl rfl (Reads.move rfl) ?_
  refine XO.rd (wg rfl rfl rfl) rfl rfl (Reads.move rfl) ?_
  refine XO.rd (wg rfl rfl rfl) rfl rfl (Reads.not rfl) ?_
  refine XO.rd rfl rfl rfl (Reads.pick_false rfl rfl) ?_
  refine XO.nil ?_
  refine XQ.then_normal ?_
  refine XC.cond rfl (fun hx => by cases hx) (fun _ => ?_)
  refine XC.skip ?_
  refine XQ.then_normal ?_
  refine XC.seq ?_
  refine XC.region ?_
  refine XO.rd rfl rfl rfl (Reads.move rfl) ?_
  refine XO.rd rfl rfl rfl (Reads.move rfl) ?_
  refine XO.lit (α := PB) [⟨bk 0⟩, ⟨bk 1⟩] [.pointer (some ⟨bk 0, 0, none⟩), .pointer (some ⟨bk 1, 0, none⟩)] [.pointer (some ⟨bk 0, 0, none⟩), .pointer (some ⟨bk 1, 0, none⟩)] rfl rfl Tryd.underlying30 el25 rfl (by simp) ⟨rfl, rfl, rfl, rfl, trivial⟩ rfl rfl (by decide) rfl (.cons (cs := [.pointer (some ⟨bk 0, 0, none⟩)]) rfl (.cons (cs := [.pointer (some ⟨bk 1, 0, none⟩)]) rfl .nil)) (fun be J1 hle1 hse => ?_)
  replace hI := Im.le_trans hI hle1
  replace hG := hG.mono hle1
  replace hY := hY.mono hle1
  have hP := hse.arr.1
  refine XO.rd rfl rfl rfl (Reads.assign rfl) ?_
  refine XO.nil ?_
  refine XQ.then_normal ?_
  refine XC.seq ?_
  refine XC.region ?_
  refine XO.alloc (cs := #[.slice none 0 0, .slice none 0 0]) rfl rfl zo51 rfl (fun b7 => ?_)
  refine XO.same (L' := (avL b7 51 9 (fun _ => Vec.nil) ++ (twoL bk startF h0 ++ Lf))) rfl ?_
  refine XO.perm (perm_take [3, 3, 3, 3, 3, 3]) ?_
  refine XO.own_eq (L' := (twoL bk startF h0 ++ (avL b7 51 9 (fun _ => Vec.nil) ++ Lf))) rfl ?_
  refine XO.nil ?_
  refine XQ.then_normal ?_
  refine XC.seq ?_
  refine XC.region ?_
  refine XO.alloc (cs := #[.slice none 0 0, .slice none 0 0]) rfl rfl zo51 rfl (fun b8 => ?_)
  refine XO.same (L' := (Vec.nil.ent 24 :: (Vec.nil.ent 3 :: (avL b8 51 9 (fun _ => Vec.nil) ++ (twoL bk startF h0 ++ (avL b7 51 9 (fun _ => Vec.nil) ++ Lf)))))) rfl ?_
  refine XO.perm (perm_take [5, 5, 5, 5, 5, 5, 5, 5, 5, 2, 2, 2]) ?_
  refine XO.own_eq (L' := (twoL bk startF h0 ++ (avL b7 51 9 (fun _ => Vec.nil) ++ (avL b8 51 9 (fun _ => Vec.nil) ++ (Vec.nil.ent 24 :: (Vec.nil.ent 3 :: Lf)))))) rfl ?_
  refine XO.nil ?_
  refine XQ.then_normal ?_
  refine XC.seq ?_
  refine XC.region ?_
  refine XO.rd rfl rfl rfl (Reads.assign rfl) ?_
  refine XO.nil ?_
  refine XQ.then_normal ?_
  refine XC.seq ?_
  refine XC.region ?_
  refine XO.rd rfl rfl rfl (Reads.assign rfl) ?_
  refine XO.nil ?_
  refine XQ.then_normal ?_
  refine XC.seq ?_
  refine XC.seq ?_
  refine XC.region ?_
  refine XO.rd rfl rfl rfl (Reads.assign rfl) ?_
  refine XO.nil ?_
  refine XQ.then_normal ?_
  refine XC.block ?_
  refine XC.loop (ι := Nat × OnSt) (fun q => [(0, .slice a ops.length cap), (6, .slice (some ⟨be, 0, none⟩) 2 2), (7, .pointer (some ⟨b7, 0, none⟩)), (8, .pointer (some ⟨b8, 0, none⟩)), (9, q.2.VP.val), (10, q.2.VF.val), (11, .int .i64 q.1)]) (fun q => J1) (fun q => (twoL bk q.2.x q.2.h ++ (avL b7 51 9 q.2.S ++ (avL b8 51 9 q.2.T ++ (q.2.VP.ent 24 :: (q.2.VF.ent 3 :: Lf)))))) (fun q => q.1 ≤ ops.length ∧ q.1 ≤ 60 ∧ OnInv q.1 q.2) (fun q => 60 - q.1) (0, ⟨startF, h0, fun _ => [], fun _ => Vec.nil, fun _ => Vec.nil, [], [], Vec.nil, Vec.nil⟩) ⟨Nat.zero_le _, Nat.zero_le _, ⟨Once.start, hE0, fun _ _ => Vec.nil_is 1, fun _ _ => Vec.nil_is 1, Vec.nil_is 4, Vec.nil_is 1, fun _ _ => Nat.le_refl _, Nat.le_refl _⟩⟩ ⟨rfl, rfl, rfl, rfl, rfl, rfl, rfl, trivial⟩ rfl (List.Perm.refl _) (fun q hq => ?_)
  obtain ⟨k, x, hh, G, S, T, ps, fr, VP, VF⟩ := q
  obtain ⟨hk1, hk2, hst⟩ := hq
  simp only at hk1 hk2 hst ⊢
  have hon : Once x G ps fr := hst.on
  have hEs : ∀ n, n < 2 → EndIs (x n) (hh n) := hst.is
  have hSv : ∀ n, n < 2 → (S n).Is 1 (strC (x n).sent) := hst.s
  have hTv : ∀ n, n < 2 → (T n).Is 1 (strC (G n)) := hst.t
  have hPv : VP.Is 4 (pktC ps) := hst.p
  have hFv : VF.Is 1 (intC fr) := hst.f
  have hfew : ∀ n, n < 2 → (x n).sent.length ≤ k := hst.few
  have hpool : ps.length ≤ 4 * k := hst.pool
  have hPl := hPv.len
  rw [pktC_len] at hPl
  replace hPl : VP.len = ps.length := by omega
  have hFl := hFv.len
  rw [intC_len, Nat.mul_one] at hFl
  have hfl := hon.len
  refine XC.seq ?_
  refine XC.seq ?_
  refine XC.region ?_
  refine XO.rd rfl rfl rfl (Reads.move rfl) ?_
  refine XO.rd rfl rfl rfl (Reads.move rfl) ?_
  refine XO.rd rfl rfl rfl (Reads.len_slice Tryd.underlying22 rfl) ?_
  refine XO.rd rfl rfl rfl (Reads.cmp rfl rfl rfl) ?_
  refine XO.rd rfl rfl rfl (Reads.move rfl) ?_
  refine XO.split (d := 42) rfl (fun h1 => ?_) (fun h1 => ?_)
  · skip
    simp only [cmpInt, decide_eq_true_eq] at h1
    have hk3 : k < ops.length := by omega
    refine XO.rd (wg rfl rfl rfl) rfl rfl (Reads.move rfl) ?_
    refine XO.rd (wg rfl rfl rfl) rfl rfl (Reads.cmp rfl rfl rfl) ?_
    refine XO.rd rfl rfl rfl (Reads.pick_true rfl rfl) ?_
    refine XO.nil ?_
    refine XQ.then_normal ?_
    refine XC.cond rfl (fun h2 => ?_) (fun h2 => ?_)
    · skip
      simp only [cmpInt, decide_eq_true_eq] at h2
      have hq := hops _ (List.getElem_mem hk3)
      have hp2 := pickI_range (c := ops[k].a) (n := 2) (by omega)
      refine XC.skip ?_
      refine XQ.then_normal ?_
      refine XC.seq ?_
      refine XC.block ?_
      refine XC.seq ?_
      refine XC.region ?_
      refine XO.rd rfl rfl rfl (Reads.move rfl) ?_
      refine XO.rd rfl rfl rfl (Reads.move rfl) ?_
      refine XO.rd rfl rfl rfl (Reads.index_slot (q := k * 4) Tryd.underlying22 z39 rfl rfl (by omega) (hY.isSome (by decide) (by omega)) (by omega)) ?_
      refine XO.rd rfl rfl rfl (Reads.index_arr_slot (q := k * 4 + 0) Tryd.underlying39 z3 rfl rfl (by decide) (hY.addr (by decide) (by omega)) (by omega)) ?_
      refine XO.rd rfl rfl rfl (Reads.load_at k3 rfl (Arr.q4 hY hk3 0 _ rfl)) ?_
      refine XO.callp rfl rfl en18 (pickL_any ops[k].a 2 _ hq.a (by decide)) ⟨rfl, rfl, trivial⟩ ?_
      obtain ⟨n, hnn⟩ : ∃ n : Nat, pickI ops[k].a 2 = n := ⟨(pickI ops[k].a 2).toNat, by omega⟩
      have hn : n < 2 := by omega
      rw [hnn]
      refine XO.rd rfl rfl rfl (Reads.assign rfl) ?_
      refine XO.nil ?_
      refine XQ.then_normal ?_
      refine XC.seq ?_
      refine XC.seq ?_
      refine XC.region ?_
      refine XO.rd rfl rfl rfl (Reads.move rfl) ?_
      refine XO.rd rfl rfl rfl (Reads.move rfl) ?_
      refine XO.rd rfl rfl rfl (Reads.index_slot (q := k * 4) Tryd.underlying22 z39 rfl rfl (by omega) (hY.isSome (by decide) (by omega)) (by omega)) ?_
      refine XO.rd rfl rfl rfl (Reads.index_arr_slot (q := k * 4 + 1) Tryd.underlying39 z3 rfl rfl (by decide) (hY.addr (by decide) (by omega)) (by omega)) ?_
      refine XO.rd rfl rfl rfl (Reads.load_at k3 rfl (Arr.q4 hY hk3 1 _ rfl)) ?_
      refine XO.callp rfl rfl en18 (pickL_any ops[k].b 5 _ hq.b (by decide)) ⟨rfl, rfl, trivial⟩ ?_
      refine XO.nil ?_
      refine XQ.then_normal ?_
      refine XC.join (ι := OnSt) (fun q => [(0, .slice a ops.length cap), (6, .slice (some ⟨be, 0, none⟩) 2 2), (7, .pointer (some ⟨b7, 0, none⟩)), (8, .pointer (some ⟨b8, 0, none⟩)), (9, q.VP.val), (10, q.VF.val), (11, .int .i64 k)]) (fun q => J1) (fun q => (twoL bk q.x q.h ++ (avL b7 51 9 q.S ++ (avL b8 51 9 q.T ++ (q.VP.ent 24 :: (q.VF.ent 3 :: Lf)))))) (fun q => OnInv (k + 1) q) ?_ (fun q2 hq2 => ?_)
      · skip
        refine XC.block ?_
        refine XC.seq ?_
        refine XC.region ?_
        refine XO.rd rfl rfl rfl (Reads.cmp rfl rfl rfl) ?_
        refine XO.rd rfl rfl rfl (Reads.assign rfl) ?_
        refine XO.nil ?_
        refine XQ.then_normal ?_
        refine XC.cond rfl (fun h3 => ?_) (fun h3 => ?_)
        · skip
          simp only [cmpInt, beq_iff_eq] at h3
          refine XC.seq ?_
          refine XC.weaken (E' := [(0, _), (6, _), (7, _), (8, _), (9, _), (10, _), (11, _), (12, _)]) ⟨rfl, rfl, rfl, rfl, rfl, rfl, rfl, rfl, trivial⟩ ?_
          refine XC.region ?_
          refine XO.rd rfl rfl rfl (Reads.move rfl) ?_
          refine XO.rd rfl rfl rfl (Reads.move rfl) ?_
          refine XO.rd rfl rfl rfl (Reads.index_slot (q := k * 4) Tryd.underlying22 z39 rfl rfl (by omega) (hY.isSome (by decide) (by omega)) (by omega)) ?_
          refine XO.rd rfl rfl rfl (Reads.index_arr_slot (q := k * 4 + 2) Tryd.underlying39 z3 rfl rfl (by decide) (hY.addr (by decide) (by omega)) (by omega)) ?_
          refine XO.rd rfl rfl rfl (Reads.load_at k3 rfl (Arr.q4 hY hk3 2 _ rfl)) ?_
          refine XO.callp rfl rfl en19 (body_any ops[k].c _ hq.c) ⟨rfl, trivial⟩ ?_
          refine XO.rd rfl rfl rfl (Reads.assign rfl) ?_
          refine XO.nil ?_
          refine XQ.then_normal ?_
          refine XC.seq ?_
          refine XC.seq ?_
          refine XC.region ?_
          refine XO.rd rfl rfl rfl (Reads.move rfl) ?_
          refine XO.rd rfl rfl rfl (Reads.move rfl) ?_
          refine XO.rd rfl rfl rfl (Reads.index_slot (q := n) Tryd.underlying30 z25 rfl rfl (by omega) (hP.isSome (by decide) (Nat.succ_pos 1)) (by omega)) ?_
          refine XO.rd rfl rfl rfl (Reads.load_at k25 rfl (Arr.ptr hP hn)) ?_
          refine XO.rd rfl rfl rfl (Reads.move rfl) ?_
          have hbs := bodyB_size ops[k].c
          obtain ⟨y, hy⟩ : ∃ y, sendF (x n) (bodyB ops[k].c) = (y, 0) := ⟨_, (hon.send (s := bodyB ops[k].c) hn (by omega) (by have := hfew n hn; omega)).1⟩
          refine XO.callo (vs := [_, _]) (L1 := twoL bk x hh) rfl rfl rfl en20 ⟨rfl, rfl, trivial⟩ (send_two hn hy hEs (by omega)) (List.Perm.refl _) ?_
          rintro v I' L' _ ⟨rfl, hI', h', rfl, hE'⟩
          replace hI' := hI'.symm
          subst hI'
          refine XO.rd rfl rfl rfl (Reads.cmp_no rfl rfl rfl (by simp only [cmpInt, decide_eq_false_iff_not, beq_eq_false_iff_ne, bne_eq_false_iff_eq] <;> omega)) ?_
          refine XO.nil ?_
          refine XQ.then_normal ?_
          refine XC.cond rfl (fun hx => by cases hx) (fun _ => ?_)
          refine XC.skip ?_
          refine XQ.then_normal ?_
          refine XC.region ?_
          refine XO.rd rfl rfl rfl (Reads.move rfl) ?_
          refine XO.rd rfl rfl rfl (Reads.move rfl) ?_
          refine XO.rd rfl rfl rfl (Reads.index_arr_own (q := n) Tryd.underlying51 z44 rfl rfl (by omega) (by omega)) ?_
          refine XO.rd rfl rfl rfl (Reads.load_own (v := (S n).val) k44 rfl (OwnAt.of 6 rfl (av_get hn))) ?_
          refine XO.rd rfl rfl rfl (Reads.move rfl) ?_
          refine XO.buildL [.string (bodyB ops[k].c)] [.string (bodyB ops[k].c)] rfl rfl Tryd.underlying44 el9 rfl (by simp) ⟨rfl, rfl, trivial⟩ rfl rfl (fun bu => ?_)
          refine XO.perm (perm_take [0, 6, 6, 6]) ?_
          refine XO.own_eq (L' := (some (bu, .cells #[.string (bodyB ops[k].c)] 9 (0, 0)) :: (avL b7 51 9 S ++ (twoL bk (upd x n y) h' ++ (avL b8 51 9 T ++ (VP.ent 24 :: (VF.ent 3 :: Lf))))))) rfl ?_
          have hSl := (hSv n hn).len
          rw [strC_len, Nat.mul_one] at hSl
          have hfn0 := hfew n hn
          refine XO.append (V := S n) (news := strC [bodyB ops[k].c]) (n + 2) rfl rfl Tryd.underlying44 el9 rfl rfl (hSv n hn) (av_ent hn) (.slice Tryd.underlying44 (readable_row 0 rfl rfl) rfl (strC_one _)) (by omega) (by omega) ?_
          intro V' hV' hV'l
          refine XO.own_eq (av_app hn) ?_
          refine XO.rd rfl rfl rfl (Reads.index_arr_own (q := n) Tryd.underlying51 z44 rfl rfl (by omega) (by omega)) ?_
          refine XO.store 1 rfl z44 rfl rfl rfl rfl (by show n < 2; omega) ?_
          refine XO.own_eq (L' := (some (bu, .cells #[.string (bodyB ops[k].c)] 9 (0, 0)) :: (avL b7 51 9 (upd S n V') ++ (twoL bk (upd x n y) h' ++ (avL b8 51 9 T ++ (VP.ent 24 :: (VF.ent 3 :: Lf))))))) (congrArg (fun c => some (bu, .cells #[.string (bodyB ops[k].c)] 9 (0, 0)) :: some (b7, Obj.cells c 51 (0, 0)) :: (upd S n V' 0).ent 9 :: (upd S n V' 1).ent 9 :: (twoL bk (upd x n y) h' ++ (avL b8 51 9 T ++ (VP.ent 24 :: (VF.ent 3 :: Lf))))) (av_store hn)) ?_
          refine XO.dropn 1 ?_
          refine XO.perm (perm_take [3, 3, 3, 3, 3, 3]) ?_
          refine XO.own_eq (L' := (twoL bk (upd x n y) h' ++ (avL b7 51 9 (upd S n V') ++ (avL b8 51 9 T ++ (VP.ent 24 :: (VF.ent 3 :: Lf)))))) rfl ?_
          refine XO.nil ?_
          refine XQ.block_normal ?_
          refine XQ.joined ⟨upd x n y, h', G, upd S n V', T, ps, fr, VP, VF⟩ (hst.send hn (by omega) (by omega) hy hE' hV') ⟨rfl, rfl, rfl, rfl, rfl, rfl, rfl, trivial⟩ rfl (List.Perm.refl _)
        · skip
          simp only [cmpInt, beq_eq_false_iff_ne] at h3
          refine XC.seq ?_
          refine XC.weaken (E' := [(0, _), (6, _), (7, _), (8, _), (9, _), (10, _), (11, _), (12, _), (59, _)]) ⟨rfl, rfl, rfl, rfl, rfl, rfl, rfl, rfl, rfl, trivial⟩ ?_
          refine XC.region ?_
          refine XO.rd rfl rfl rfl (Reads.cmp rfl rfl rfl) ?_
          refine XO.rd rfl rfl rfl (Reads.assign rfl) ?_
          refine XO.nil ?_
          refine XQ.then_normal ?_
          refine XC.cond rfl (fun h4 => ?_) (fun h4 => ?_)
          · skip
            simp only [cmpInt, beq_iff_eq] at h4
            refine XC.seq ?_
            refine XC.region ?_
            refine XO.rd rfl rfl rfl (Reads.move rfl) ?_
            refine XO.rd rfl rfl rfl (Reads.move rfl) ?_
            refine XO.rd rfl rfl rfl (Reads.index_slot (q := n) Tryd.underlying30 z25 rfl rfl (by omega) (hP.isSome (by decide) (Nat.succ_pos 1)) (by omega)) ?_
            refine XO.rd rfl rfl rfl (Reads.load_at k25 rfl (Arr.ptr hP hn)) ?_
            refine XO.callo (vs := [_]) (L1 := twoL bk x hh) rfl rfl rfl en22 ⟨rfl, trivial⟩ (out_two hn hEs hG) (List.Perm.refl _) ?_
            rintro v I' L' _ ⟨V, rfl, hI', rfl, hV, hVl⟩
            replace hI' := hI'.symm
            subst hI'
            refine XO.rd rfl rfl rfl (Reads.assign rfl) ?_
            refine XO.nil ?_
            refine XQ.then_normal ?_
            refine XC.seq ?_
            refine XC.region ?_
            refine XO.rd rfl rfl rfl (Reads.assign rfl) ?_
            refine XO.nil ?_
            refine XQ.then_normal ?_
            refine XC.block ?_
            refine XC.loop (ι := Nat × Vec × Vec) (fun q => [(0, .slice a ops.length cap), (6, .slice (some ⟨be, 0, none⟩) 2 2), (7, .pointer (some ⟨b7, 0, none⟩)), (8, .pointer (some ⟨b8, 0, none⟩)), (9, q.2.1.val), (10, q.2.2.val), (11, .int .i64 k), (12, .int .i64 n), (14, V.val), (15, .int .i64 q.1)]) (fun q => J1) (fun q => (V.ent 24 :: (twoL bk x hh ++ (avL b7 51 9 S ++ (avL b8 51 9 T ++ (q.2.1.ent 24 :: (q.2.2.ent 3 :: Lf))))))) (fun q => q.1 ≤ (outF (x n)).length ∧ Once x G (ps ++ (outF (x n)).take q.1) (fr ++ List.replicate q.1 n) ∧ q.2.1.Is 4 (pktC (ps ++ (outF (x n)).take q.1)) ∧ q.2.2.Is 1 (intC (fr ++ List.replicate q.1 n))) (fun q => (outF (x n)).length - q.1) (0, VP, VF) ⟨Nat.zero_le _, by simpa using hon, by simpa using hPv, by simpa using hFv⟩ ⟨rfl, rfl, rfl, rfl, rfl, rfl, rfl, rfl, rfl, rfl, trivial⟩ rfl (List.Perm.refl _) (fun q hq => ?_)
            obtain ⟨j, VP2, VF2⟩ := q
            obtain ⟨hj1, hon2, hVP2, hVF2⟩ := hq
            simp only at hj1 hon2 hVP2 hVF2 ⊢
            have hO4 := outF_len (x n)
            refine XC.seq ?_
            refine XC.seq ?_
            refine XC.region ?_
            refine XO.rd rfl rfl rfl (Reads.move rfl) ?_
            refine XO.rd rfl rfl rfl (Reads.move rfl) ?_
            refine XO.rd rfl rfl rfl (Reads.len_slice Tryd.underlying37 rfl) ?_
            refine XO.rd rfl rfl rfl (Reads.cmp rfl rfl rfl) ?_
            refine XO.nil ?_
            refine XQ.then_normal ?_
            refine XC.cond rfl (fun h5 => ?_) (fun h5 => ?_)
            · skip
              simp only [cmpInt, decide_eq_true_eq] at h5
              have hj3 : j < (outF (x n)).length := by omega
              refine XC.skip ?_
              refine XQ.then_normal ?_
              refine XC.seq ?_
              refine XC.block ?_
              refine XC.seq ?_
              refine XC.region ?_
              refine XO.rd rfl rfl rfl (Reads.move rfl) ?_
              refine XO.rd rfl rfl rfl (Reads.move rfl) ?_
              refine XO.rd rfl rfl rfl (Reads.move rfl) ?_
              refine XO.rd rfl rfl rfl (Reads.index_slot (q := j * 4) Tryd.underlying37 z24 rfl rfl (by omega) (vec_isSomes (k := j * 4 + 0) hV (pktC_at _ hj3 0 _ rfl)) (by omega)) ?_
              refine XO.rd rfl rfl rfl (Reads.load_agg_vecs (V := V) (vs := (outF (x n))[j].cells) k24 z24 rfl hV (e := 24) (List.Mem.head _) (Nat.succ_pos _) (pktC_at _ hj3)) ?_
              refine XO.buildL [(outF (x n))[j].val] (outF (x n))[j].cells rfl rfl Tryd.underlying37 el24 rfl (by simp) ⟨rfl, rfl, trivial⟩ rfl rfl (fun bu => ?_)
              have hPl2 := hVP2.len
              rw [pktC_len, List.length_append, List.length_take] at hPl2
              refine XO.append (V := VP2) (news := (outF (x n))[j].cells) 14 rfl rfl Tryd.underlying37 el24 rfl rfl hVP2 rfl (.slice Tryd.underlying37 (readable_row 0 rfl rfl) rfl (by intro v hv; simp at hv; rcases hv with rfl | rfl | rfl | rfl <;> rfl)) (by omega) (by omega) ?_
              intro VP' hVP' hVPl'
              refine XO.own_eq (L' := (some (bu, .cells (outF (x n))[j].cells.toArray 24 (0, 0)) :: (V.ent 24 :: (twoL bk x hh ++ (avL b7 51 9 S ++ (avL b8 51 9 T ++ (VP'.ent 24 :: (VF2.ent 3 :: Lf)))))))) rfl ?_
              refine XO.dropn 1 ?_
              refine XO.rd rfl rfl rfl (Reads.assign rfl) ?_
              refine XO.nil ?_
              refine XQ.then_normal ?_
              refine XC.region ?_
              refine XO.rd rfl rfl rfl (Reads.move rfl) ?_
              refine XO.rd rfl rfl rfl (Reads.move rfl) ?_
              refine XO.buildL [.int .i64 (n : Int)] [.int .i64 (n : Int)] rfl rfl Tryd.underlying52 el3 rfl (by simp) ⟨rfl, rfl, trivial⟩ rfl rfl (fun bu => ?_)
              have hFl2 := hVF2.len
              rw [intC_len, Nat.mul_one, List.length_append, List.length_replicate] at hFl2
              refine XO.append (V := VF2) (news := intC [n]) 15 rfl rfl Tryd.underlying52 el3 rfl rfl hVF2 rfl (.slice Tryd.underlying52 (readable_row 0 rfl rfl) rfl (intC_one _)) (by omega) (by omega) ?_
              intro VF' hVF' hVFl'
              refine XO.own_eq (L' := (some (bu, .cells #[.int .i64 (n : Int)] 3 (0, 0)) :: (V.ent 24 :: (twoL bk x hh ++ (avL b7 51 9 S ++ (avL b8 51 9 T ++ (VP'.ent 24 :: (VF'.ent 3 :: Lf)))))))) rfl ?_
              refine XO.dropn 1 ?_
              refine XO.rd rfl rfl rfl (Reads.assign rfl) ?_
              refine XO.nil ?_
              refine XQ.block_normal ?_
              refine XQ.then_normal ?_
              refine XC.region ?_
              refine XO.rd rfl rfl rfl (Reads.move rfl) ?_
              refine XO.rd rfl rfl rfl (Reads.add rfl rfl (by omega)) ?_
              refine XO.rd rfl rfl rfl (Reads.assign rfl) ?_
              refine XO.nil ?_
              have e1 : (ps ++ (outF (x n)).take j) ++ [(outF (x n))[j]] = ps ++ (outF (x n)).take (j + 1) := by rw [List.append_assoc, ← snoc_take hj3]
              have e2 : (fr ++ List.replicate j n) ++ [n] = fr ++ List.replicate (j + 1) n := by rw [List.append_assoc, List.replicate_succ']
              have e3 : pktC (ps ++ (outF (x n)).take j) ++ (outF (x n))[j].cells = pktC (ps ++ (outF (x n)).take (j + 1)) := by rw [← e1, pktC_append _ [_]]; simp [pktC]
              have hon3 := hon2.out hn hj3
              rw [e1, e2] at hon3
              rw [e3] at hVP'
              rw [← intC_append, e2] at hVF'
              refine XQ.back (j + 1, VP', VF') ⟨by simp only; omega, hon3, hVP', hVF'⟩ (by simp only; omega) ⟨rfl, rfl, rfl, rfl, rfl, rfl, rfl, rfl, rfl, rfl, trivial⟩ rfl (List.Perm.refl _)
            · skip
              simp only [cmpInt, decide_eq_false_iff_not] at h5
              refine XC.exit ?_
              refine XQ.then_exit ?_
              refine XQ.then_exit ?_
              refine XQ.block_exit ?_
              refine XQ.block_normal ?_
              refine XQ.dropn 1 ?_
              refine XQ.joined ⟨x, hh, G, S, T, ps ++ (outF (x n)).take j, fr ++ List.replicate j n, VP2, VF2⟩ ⟨hon2, hEs, hSv, hTv, hVP2, hVF2, fun q hq => by have := hfew q hq; simp only; omega, by simp only; rw [List.length_append, List.length_take]; omega⟩ ⟨rfl, rfl, rfl, rfl, rfl, rfl, rfl, trivial⟩ rfl (List.Perm.refl _)
          · skip
            simp only [cmpInt, beq_eq_false_iff_ne] at h4
            refine XC.seq ?_
            refine XC.seq ?_
            refine XC.region ?_
            refine XO.rd rfl rfl rfl (Reads.move rfl) ?_
            refine XO.rd rfl rfl rfl (Reads.len_slice Tryd.underlying37 rfl) ?_
            refine XO.rd rfl rfl rfl (Reads.cmp rfl rfl rfl) ?_
            refine XO.nil ?_
            refine XQ.then_normal ?_
            refine XC.cond rfl (fun h6 => ?_) (fun h6 => ?_)
            · skip
              simp only [cmpInt, beq_iff_eq] at h6
              refine XC.exit ?_
              refine XQ.then_exit ?_
              refine XQ.block_out rfl ?_
              refine XQ.then_exit ?_
              refine XQ.then_exit ?_
              refine XQ.block_exit ?_
              refine XQ.then_normal ?_
              refine XC.region ?_
              refine XO.rd rfl rfl rfl (Reads.move rfl) ?_
              refine XO.rd rfl rfl rfl (Reads.add rfl rfl (by omega)) ?_
              refine XO.rd rfl rfl rfl (Reads.assign rfl) ?_
              refine XO.nil ?_
              refine XQ.back (k + 1, ⟨x, hh, G, S, T, ps, fr, VP, VF⟩) ⟨by simp only; omega, by simp only; omega, hst.later⟩ (by simp only; omega) ⟨rfl, rfl, rfl, rfl, rfl, rfl, rfl, trivial⟩ rfl (List.Perm.refl _)
            · skip
              simp only [cmpInt, beq_eq_false_iff_ne] at h6
              refine XC.skip ?_
              refine XQ.then_normal ?_
              refine XC.seq ?_
              refine XC.region ?_
              refine XO.rd rfl rfl rfl (Reads.move rfl) ?_
              refine XO.rd rfl rfl rfl (Reads.move rfl) ?_
              refine XO.rd rfl rfl rfl (Reads.index_slot (q := k * 4) Tryd.underlying22 z39 rfl rfl (by omega) (hY.isSome (by decide) (by omega)) (by omega)) ?_
              refine XO.rd rfl rfl rfl (Reads.index_arr_slot (q := k * 4 + 2) Tryd.underlying39 z3 rfl rfl (by decide) (hY.addr (by decide) (by omega)) (by omega)) ?_
              refine XO.rd rfl rfl rfl (Reads.load_at k3 rfl (Arr.q4 hY hk3 2 _ rfl)) ?_
              refine XO.rd rfl rfl rfl (Reads.move rfl) ?_
              refine XO.rd rfl rfl rfl (Reads.len_slice Tryd.underlying37 rfl) ?_
              refine XO.callp rfl rfl en18 (pickL_any ops[k].c ((VP.len : Nat) : Int) _ hq.c (by omega)) ⟨rfl, rfl, trivial⟩ ?_
              have hpr := pickI_range (c := ops[k].c) (n := ((VP.len : Nat) : Int)) (by omega)
              obtain ⟨kk, hjj⟩ : ∃ kk : Nat, pickI ops[k].c ((VP.len : Nat) : Int) = kk := ⟨(pickI ops[k].c ((VP.len : Nat) : Int)).toNat, by omega⟩
              have hkk : kk < ps.length := by omega
              have hfl := hon.len
              have hkf : kk < fr.length := by omega
              have hsk := hon.pool kk hkk hkf
              have hfk := hsk.form
              have hfs0 := hfk.s0
              have hfs1 := hfk.s1
              have hfa0 := hfk.a0
              have hfa1 := hfk.a1
              have hfb := hfk.body
              have hkin : ps[kk].In := ⟨by omega, by omega, by omega⟩
              rw [hjj]
              refine XO.rd rfl rfl rfl (Reads.assign rfl) ?_
              refine XO.nil ?_
              refine XQ.then_normal ?_
              refine XC.seq ?_
              refine XC.region ?_
              refine XO.rd rfl rfl rfl (Reads.move rfl) ?_
              refine XO.rd rfl rfl rfl (Reads.move rfl) ?_
              refine XO.rd rfl rfl rfl (Reads.index_slot (q := kk * 4) Tryd.underlying37 z24 rfl rfl (by omega) (vec_isSomes (k := kk * 4 + 0) hPv (pktC_at _ hkk 0 _ rfl)) (by omega)) ?_
              refine XO.rd rfl rfl rfl (Reads.load_agg_vecs (V := VP) (vs := ps[kk].cells) k24 z24 rfl hPv (e := 24) (List.mem_of_getElem? (i := 12) rfl) (Nat.succ_pos _) (pktC_at _ hkk)) ?_
              refine XO.alloc (cs := #[.int .i64 0, .int .i64 0, .string ⟨#[]⟩, .string ⟨#[]⟩]) rfl rfl zo24 rfl (fun b17 => ?_)
              refine XO.store_agg (vs := ps[kk].cells) 0 rfl z24 rfl rfl (by intro v hv; simp at hv; rcases hv with rfl | rfl | rfl | rfl <;> rfl) rfl (Nat.le_refl 4) ?_
              refine XO.own_eq (congrArg (fun c => some (b17, Obj.cells c 24 (0, 0)) :: _) (show _ = ps[kk].cells.toArray from rfl)) ?_
              refine XO.nil ?_
              refine XQ.then_normal ?_
              refine XC.seq ?_
              refine XC.seq ?_
              refine XC.region ?_
              refine XO.rd rfl rfl rfl (Reads.move rfl) ?_
              refine XO.rd rfl rfl rfl (Reads.move rfl) ?_
              refine XO.rd rfl rfl rfl (Reads.index_slot (q := k * 4) Tryd.underlying22 z39 rfl rfl (by omega) (hY.isSome (by decide) (by omega)) (by omega)) ?_
              refine XO.rd rfl rfl rfl (Reads.index_arr_slot (q := k * 4 + 3) Tryd.underlying39 z3 rfl rfl (by decide) (hY.addr (by decide) (by omega)) (by omega)) ?_
              refine XO.rd rfl rfl rfl (Reads.load_at k3 rfl (Arr.q4 hY hk3 3 _ rfl)) ?_
              refine XO.callp rfl rfl en18 (pickL_any ops[k].d 6 _ hq.d (by decide)) ⟨rfl, rfl, trivial⟩ ?_
              refine XO.rd rfl rfl rfl (Reads.cmp rfl rfl rfl) ?_
              refine XO.nil ?_
              refine XQ.then_normal ?_
              refine XC.cond rfl (fun h7 => ?_) (fun h7 => ?_)
              · skip
                simp only [cmpInt, beq_iff_eq] at h7
                refine XC.draw m_mixed (some 13) (.pure 0 (.pure 1 (.pure 2 (.pure 3 (.pure 4 (.pure 5 (.pure 6 (.pure 7 (.pure 8 (.pure 9 (.pure 10 (.pure 11 (.eff 12 (.eff 13 (.done))))))))))))))) [some (b17, .cells ps[kk].cells.toArray 24 (0, 0))] (by kernel_rfl) (List.Sublist.cons_cons _ (List.nil_sublist _)) ?_
                refine XR.rd rfl rfl rfl (Reads.load_whole (c := ps[kk].cells.toArray) k24 z24 rfl (WholeAt.of 0 rfl) rfl) ?_
                refine XR.rd rfl rfl rfl (Reads.move rfl) ?_
                refine XR.rd rfl rfl rfl (Reads.move rfl) ?_
                refine XR.rd rfl rfl rfl (Reads.index_slot (q := k * 4) Tryd.underlying22 z39 rfl rfl (by omega) (hY.isSome (by decide) (by omega)) (by omega)) ?_
                refine XR.rd rfl rfl rfl (Reads.index_arr_slot (q := k * 4 + 3) Tryd.underlying39 z3 rfl rfl (by decide) (hY.addr (by decide) (by omega)) (by omega)) ?_
                refine XR.rd rfl rfl rfl (Reads.load_at k3 rfl (Arr.q4 hY hk3 3 _ rfl)) ?_
                refine XR.rd rfl rfl rfl (Reads.tdiv rfl rfl hq.d (by decide)) ?_
                refine XR.rd rfl rfl rfl (Reads.move rfl) ?_
                refine XR.rd rfl rfl rfl (Reads.move rfl) ?_
                refine XR.rd rfl rfl rfl (Reads.index_slot (q := k * 4) Tryd.underlying22 z39 rfl rfl (by omega) (hY.isSome (by decide) (by omega)) (by omega)) ?_
                refine XR.rd rfl rfl rfl (Reads.index_arr_slot (q := k * 4 + 2) Tryd.underlying39 z3 rfl rfl (by decide) (hY.addr (by decide) (by omega)) (by omega)) ?_
                refine XR.rd rfl rfl rfl (Reads.load_at k3 rfl (Arr.q4 hY hk3 2 _ rfl)) ?_
                refine XR.callp rfl rfl rfl en25 (bent_any ps[kk] (ops[k].d.tdiv 6) ops[k].c _ hkin (in64_tdiv hq.d (by decide)) hq.c) ⟨rfl, rfl, rfl, trivial⟩ (List.Sublist.cons_cons _ (List.nil_sublist _)) ?_
                refine XR.store_agg (vs := (bentF ps[kk] (ops[k].d.tdiv 6) ops[k].c).cells) 0 rfl rfl z24 rfl rfl (by intro v hv; simp at hv; rcases hv with rfl | rfl | rfl | rfl <;> rfl) rfl (Nat.le_refl 4) (.inl rfl) ?_
                refine XR.own_eq (congrArg (fun c => some (b17, Obj.cells c 24 (0, 0)) :: _) (show _ = (bentF ps[kk] (ops[k].d.tdiv 6) ops[k].c).cells.toArray from rfl)) ?_
                obtain ⟨P, hPd⟩ : ∃ P, P = (bentF ps[kk] (ops[k].d.tdiv 6) ops[k].c) := ⟨_, rfl⟩
                have hPin : P.In := hPd ▸ bent_in hfk hq.c
                have hPsl : P.sl = ps[kk].sl ∨ ∃ c, P.sl = keyB c := hPd ▸ bent_sl4
                rw [← hPd]
                refine XR.nil ?_
                refine XQ.then_normal ?_
                refine XC.seq ?_
                refine XC.weaken (E' := [(0, _), (6, _), (7, _), (8, _), (9, _), (10, _), (11, _), (12, _), (16, _), (17, _)]) ⟨rfl, rfl, rfl, rfl, rfl, rfl, rfl, rfl, rfl, rfl, trivial⟩ ?_
                refine XC.draw m_mixed none (.pure 0 (.pure 1 (.pure 2 (.pure 3 (.pure 4 (.eff 5 (.pure 6 (.pure 7 (.pure 8 (.pure 9 (.pure 10 (.done)))))))))))) [some (b17, .cells P.cells.toArray 24 (0, 0))] (by kernel_rfl) (List.Sublist.cons_cons _ (List.nil_sublist _)) ?_
                refine XR.rd rfl rfl rfl (Reads.move rfl) ?_
                refine XR.rd rfl rfl rfl (Reads.move rfl) ?_
                refine XR.rd rfl rfl rfl (Reads.index_slot (q := n) Tryd.underlying30 z25 rfl rfl (by omega) (hP.isSome (by decide) (Nat.succ_pos 1)) (by omega)) ?_
                refine XR.rd rfl rfl rfl (Reads.load_at k25 rfl (Arr.ptr hP hn)) ?_
                refine XR.rd rfl rfl rfl (Reads.load_whole (c := P.cells.toArray) k24 z24 rfl (WholeAt.of 0 rfl) rfl) ?_
                obtain ⟨y1, ms1, e1, hin1⟩ : ∃ y ms e, inF (x n) P = (y, ms, e) := ⟨_, _, _, rfl⟩
                refine XR.callo (vs := [_, _]) (L1 := twoL bk x hh) rfl rfl rfl rfl en26 ⟨rfl, rfl, trivial⟩ (in_two hn hin1 hEs hPin hG) (perm_take [1, 1, 1, 1, 1, 1]) ?_
                rintro v I' L' _ ⟨V3, h', rfl, hI', rfl, hV3, hV3l, hE'⟩
                replace hI' := hI'.symm
                subst hI'
                refine ⟨.inr (List.Sublist.cons _ (List.Sublist.cons _ (List.Sublist.cons _ (List.Sublist.cons _ (List.Sublist.cons _ (List.Sublist.cons _ (List.Sublist.cons _ (List.Sublist.cons_cons _ (List.nil_sublist _))))))))), ?_⟩
                refine XR.own_eq (L' := (V3.ent 9 :: (twoL bk (upd x n y1) h' ++ (some (b17, .cells P.cells.toArray 24 (0, 0)) :: (avL b7 51 9 S ++ (avL b8 51 9 T ++ (VP.ent 24 :: (VF.ent 3 :: Lf)))))))) rfl ?_
                refine XR.rd rfl rfl rfl (Reads.move rfl) ?_
                refine XR.rd rfl rfl rfl (Reads.extract rfl rfl) ?_
                refine XR.rd rfl rfl rfl (Reads.extract rfl rfl) ?_
                refine XR.rd rfl rfl rfl (Reads.assign rfl) ?_
                refine XR.rd rfl rfl rfl (Reads.assign rfl) ?_
                refine XR.nil ?_
                refine XQ.then_normal ?_
                refine XC.seq ?_
                refine XC.seq ?_
                refine XC.region ?_
                refine XO.rd rfl rfl rfl (Reads.move rfl) ?_
                refine XO.rd rfl rfl rfl (Reads.cmp rfl rfl rfl) ?_
                refine XO.nil ?_
                refine XQ.then_normal ?_
                refine XC.cond rfl (fun h8 => ?_) (fun h8 => ?_)
                · skip
                  simp only [cmpInt, bne_iff_ne, ne_eq] at h8
                  have he1 := h8
                  obtain ⟨hy1, hms1⟩ := in_err hin1 he1
                  subst hy1
                  subst hms1
                  rw [upd_same] at hE'
                  simp only [List.length_nil] at hV3l
                  refine XC.seq ?_
                  refine XC.seq ?_
                  refine XC.draw m_mixed none (.pure 0 (.pure 1 (.pure 2 (.pure 3 (.pure 4 (.pure 5 (.pure 6 (.pure 7 (.pure 8 (.pure 9 (.pure 10 (.pure 11 (.pure 12 (.pure 13 (.pure 14 (.pure 15 (.pure 16 (.pure 17 (.pure 18 (.done)))))))))))))))))))) _ (by kernel_rfl) (List.Sublist.refl _) ?_
                  refine XR.rd rfl rfl rfl (Reads.move rfl) ?_
                  refine XR.rd rfl rfl rfl (Reads.len_slice Tryd.underlying44 rfl) ?_
                  refine XR.rd rfl rfl rfl (Reads.cmp_no rfl rfl rfl (by simp only [cmpInt, decide_eq_false_iff_not, beq_eq_false_iff_ne, bne_eq_false_iff_eq] <;> omega)) ?_
                  refine XR.rd rfl rfl rfl (Reads.move rfl) ?_
                  refine XR.rd rfl (wg rfl rfl rfl) rfl (Reads.load_whole (c := P.cells.toArray) k24 z24 rfl (WholeAt.of 7 rfl) rfl) ?_
                  refine XR.rd rfl (wg rfl rfl rfl) rfl (Reads.move rfl) ?_
                  refine XR.rd rfl (wg rfl rfl rfl) rfl (Reads.move rfl) ?_
                  refine XR.rd rfl (wg rfl rfl rfl) rfl (Reads.index_slot (q := kk * 4) Tryd.underlying37 z24 rfl rfl (by omega) (vec_isSomes (k := kk * 4 + 0) hPv (pktC_at _ hkk 0 _ rfl)) (by omega)) ?_
                  refine XR.rd rfl (wg rfl rfl rfl) rfl (Reads.load_agg_vecs (V := VP) (vs := ps[kk].cells) k24 z24 rfl hPv (e := 24) (List.mem_of_getElem? (i := 14) rfl) (Nat.succ_pos _) (pktC_at _ hkk)) ?_
                  refine XR.rd rfl (wg rfl rfl rfl) rfl (Reads.pkt_eq (p := P) (q := ps[kk]) rfl rfl) ?_
                  refine XR.rd rfl (wg rfl rfl rfl) rfl (Reads.move rfl) ?_
                  refine XR.split (d := 116) rfl (fun h9 => ?_) (fun h9 => ?_)
                  · skip
                    simp only [decide_eq_true_eq] at h9
                    have hfn := hst.err hn hkk hkf hin1 he1 h9
                    simp only at hfn
                    refine XR.rd rfl (wg rfl rfl rfl) rfl (Reads.move rfl) ?_
                    refine XR.rd rfl (wg rfl rfl rfl) rfl (Reads.move rfl) ?_
                    refine XR.rd rfl (wg rfl rfl rfl) rfl (Reads.index_slot (q := kk) Tryd.underlying52 z3 rfl rfl (by omega) (vec_isSomes (k := kk) hFv (intC_get hkf)) (by omega)) ?_
                    refine XR.rd rfl (wg rfl rfl rfl) rfl (Reads.load_vecs (V := VF) (k := kk) (v := .int .i64 ((fr[kk] : Nat) : Int)) k3 rfl hFv (e := 3) (List.mem_of_getElem? (i := 15) rfl) (intC_get hkf)) ?_
                    refine XR.rd rfl (wg rfl rfl rfl) rfl (Reads.move rfl) ?_
                    refine XR.rd rfl (wg rfl rfl rfl) rfl (Reads.cmp_no rfl rfl rfl (by simp only [cmpInt, decide_eq_false_iff_not, beq_eq_false_iff_ne, bne_eq_false_iff_eq] <;> omega)) ?_
                    refine XR.rd rfl (wg rfl rfl rfl) rfl (Reads.pick_true rfl rfl) ?_
                    refine XR.rd rfl rfl rfl (Reads.pick_false rfl rfl) ?_
                    refine XR.nil ?_
                    refine XQ.then_normal ?_
                    refine XC.cond rfl (fun hx => by cases hx) (fun _ => ?_)
                    refine XC.skip ?_
                    refine XQ.then_normal ?_
                    refine XC.exit ?_
                    refine XQ.then_exit ?_
                    refine XQ.block_out rfl ?_
                    refine XQ.then_exit ?_
                    refine XQ.then_exit ?_
                    refine XQ.block_exit ?_
                    refine XQ.then_normal ?_
                    refine XC.region ?_
                    refine XO.rd rfl rfl rfl (Reads.move rfl) ?_
                    refine XO.rd rfl rfl rfl (Reads.add rfl rfl (by omega)) ?_
                    refine XO.rd rfl rfl rfl (Reads.assign rfl) ?_
                    refine XO.nil ?_
                    refine XQ.dropn 1 ?_
                    refine XQ.perm (perm_take [6]) ?_
                    refine XQ.dropn 1 ?_
                    have hst9 : OnInv k ⟨x, h', G, S, T, ps, fr, VP, VF⟩ := ⟨hon, hE', hSv, hTv, hPv, hFv, hfew, hpool⟩
                    refine XQ.back (k + 1, ⟨x, h', G, S, T, ps, fr, VP, VF⟩) ⟨by simp only; omega, by simp only; omega, hst9.later⟩ (by simp only; omega) ⟨rfl, rfl, rfl, rfl, rfl, rfl, rfl, trivial⟩ rfl (by simp only; rw [upd_same]; exact List.Perm.refl _)
                  · skip
                    refine XR.s rfl (wg rfl rfl rfl) rfl ?_
                    refine XR.s rfl (wg rfl rfl rfl) rfl ?_
                    refine XR.s rfl (wg rfl rfl rfl) rfl ?_
                    refine XR.s rfl (wg rfl rfl rfl) rfl ?_
                    refine XR.s rfl (wg rfl rfl rfl) rfl ?_
                    refine XR.s rfl (wg rfl rfl rfl) rfl ?_
                    refine XR.rd rfl (wg rfl rfl rfl) rfl (Reads.pick_false rfl rfl) ?_
                    refine XR.rd rfl rfl rfl (Reads.pick_false rfl rfl) ?_
                    refine XR.nil ?_
                    refine XQ.then_normal ?_
                    refine XC.cond rfl (fun hx => by cases hx) (fun _ => ?_)
                    refine XC.skip ?_
                    refine XQ.then_normal ?_
                    refine XC.exit ?_
                    refine XQ.then_exit ?_
                    refine XQ.block_out rfl ?_
                    refine XQ.then_exit ?_
                    refine XQ.then_exit ?_
                    refine XQ.block_exit ?_
                    refine XQ.then_normal ?_
                    refine XC.region ?_
                    refine XO.rd rfl rfl rfl (Reads.move rfl) ?_
                    refine XO.rd rfl rfl rfl (Reads.add rfl rfl (by omega)) ?_
                    refine XO.rd rfl rfl rfl (Reads.assign rfl) ?_
                    refine XO.nil ?_
                    refine XQ.dropn 1 ?_
                    refine XQ.perm (perm_take [6]) ?_
                    refine XQ.dropn 1 ?_
                    have hst9 : OnInv k ⟨x, h', G, S, T, ps, fr, VP, VF⟩ := ⟨hon, hE', hSv, hTv, hPv, hFv, hfew, hpool⟩
                    refine XQ.back (k + 1, ⟨x, h', G, S, T, ps, fr, VP, VF⟩) ⟨by simp only; omega, by simp only; omega, hst9.later⟩ (by simp only; omega) ⟨rfl, rfl, rfl, rfl, rfl, rfl, rfl, trivial⟩ rfl (by simp only; rw [upd_same]; exact List.Perm.refl _)
                · skip
                  simp only [cmpInt, bne_eq_false_iff_eq] at h8
                  have he1 : e1 = 0 := h8
                  subst he1
                  have hgen := in_gen hin1
                  rw [hon.sys.other n hn] at hgen
                  refine XC.skip ?_
                  refine XQ.then_normal ?_
                  refine XC.seq ?_
                  refine XC.seq ?_
                  refine XC.draw m_mixed none (.pure 0 (.pure 1 (.pure 2 (.pure 3 (.pure 4 (.pure 5 (.pure 6 (.pure 7 (.pure 8 (.pure 9 (.pure 10 (.pure 11 (.pure 12 (.pure 13 (.done))))))))))))))) _ (by kernel_rfl) (List.Sublist.refl _) ?_
                  refine XR.rd rfl rfl rfl (Reads.load_whole (c := P.cells.toArray) k24 z24 rfl (WholeAt.of 7 rfl) rfl) ?_
                  refine XR.rd rfl rfl rfl (Reads.move rfl) ?_
                  refine XR.rd rfl rfl rfl (Reads.move rfl) ?_
                  refine XR.rd rfl rfl rfl (Reads.index_slot (q := kk * 4) Tryd.underlying37 z24 rfl rfl (by omega) (vec_isSomes (k := kk * 4 + 0) hPv (pktC_at _ hkk 0 _ rfl)) (by omega)) ?_
                  refine XR.rd rfl rfl rfl (Reads.load_agg_vecs (V := VP) (vs := ps[kk].cells) k24 z24 rfl hPv (e := 24) (List.mem_of_getElem? (i := 14) rfl) (Nat.succ_pos _) (pktC_at _ hkk)) ?_
                  refine XR.rd rfl rfl rfl (Reads.pkt_ne (p := P) (q := ps[kk]) rfl rfl) ?_
                  refine XR.rd rfl rfl rfl (Reads.move rfl) ?_
                  refine XR.split (d := 131) rfl (fun h10 => ?_) (fun h10 => ?_)
                  · skip
                    simp only [Bool.not_eq_true', decide_eq_false_iff_not] at h10
                    have h4 : ¬ P = ps[kk] ∨ fr[kk] = n := .inl h10
                    refine XR.s rfl (wg rfl rfl rfl) rfl ?_
                    refine XR.s rfl (wg rfl rfl rfl) rfl ?_
                    refine XR.s rfl (wg rfl rfl rfl) rfl ?_
                    refine XR.s rfl (wg rfl rfl rfl) rfl ?_
                    refine XR.s rfl (wg rfl rfl rfl) rfl ?_
                    refine XR.s rfl (wg rfl rfl rfl) rfl ?_
                    refine XR.rd rfl rfl rfl (Reads.pick_true rfl rfl) ?_
                    refine XR.nil ?_
                    refine XQ.then_normal ?_
                    refine XC.cond rfl (fun _ => ?_) (fun hx => by cases hx)
                    refine XC.seq ?_
                    refine XC.draw m_mixed none (.pure 0 (.pure 1 (.pure 3 (.eff 2 (.eff 4 (.pure 5 (.done))))))) _ (by kernel_rfl) (List.Sublist.refl _) ?_
                    refine XR.rd rfl rfl rfl (Reads.move rfl) ?_
                    refine XR.rd rfl rfl rfl (Reads.sub rfl rfl (by omega)) ?_
                    rw [show (1 : Int) - (n : Int) = ((1 - n : Nat) : Int) by omega]
                    refine XR.rd rfl rfl rfl (Reads.load_whole (c := P.cells.toArray) k24 z24 rfl (WholeAt.of 7 rfl) rfl) ?_
                    refine XR.callp rfl rfl rfl en17 (key_any ((1 - n : Nat) : Int) _ (by omega)) ⟨rfl, trivial⟩ (List.Sublist.refl _) ?_
                    refine XR.call rfl rfl rfl en37 (hashed_any (keyB ((1 - n : Nat) : Int)) P _ hPin (by rw [keyB_size]; decide)) ⟨rfl, rfl, trivial⟩ (List.Sublist.refl _) ?_
                    rintro u Jh1 hleh1 ⟨ah1, rfl, hH1⟩
                    replace hI := Im.le_trans hI hleh1
                    replace hG := hG.mono hleh1
                    replace hY := hY.mono hleh1
                    replace hP := hP.mono hleh1
                    refine XR.rd rfl rfl rfl (Reads.assign rfl) ?_
                    refine XR.nil ?_
                    refine XQ.then_normal ?_
                    refine XC.seq ?_
                    refine XC.region ?_
                    refine XO.rd rfl rfl rfl (Reads.move rfl) ?_
                    refine XO.lit (α := ByteArray) keyS [.string ⟨#[101, 0]⟩, .string ⟨#[101, 1]⟩] [.string ⟨#[101, 0]⟩, .string ⟨#[101, 1]⟩] rfl rfl Tryd.underlying44 el9 rfl (by simp) ⟨rfl, rfl, rfl, rfl, trivial⟩ rfl rfl (by decide) rfl (flat_strs _ keyS) (fun bl J32 hle32 hs32 => ?_)
                    replace hI := Im.le_trans hI hle32
                    replace hG := hG.mono hle32
                    replace hY := hY.mono hle32
                    replace hP := hP.mono hle32
                    replace hH1 := hH1.mono hle32
                    have hK := hs32.arr.1
                    refine XO.callp rfl rfl en38 (rcoll_any _ _ 2 2 (hashF (keyB ((1 - n : Nat) : Int)) P) keyS _ hH1 hK (by show 2 ≤ 100000; decide) (by show 2 ≤ 100000; decide) (hashF_sizes (keyB_size _) hPin) (by intro x hx; simp only [keyS, List.mem_cons, List.not_mem_nil, or_false] at hx; rcases hx with rfl | rfl <;> decide)) ⟨rfl, rfl, trivial⟩ ?_
                    refine XO.rd rfl rfl rfl (Reads.assign rfl) ?_
                    refine XO.nil ?_
                    refine XQ.then_normal ?_
                    refine XC.seq ?_
                    refine XC.seq ?_
                    refine XC.weaken (E' := [(9, _), (10, _), (12, _), (17, _), (20, _), (21, _)]) ⟨rfl, rfl, rfl, rfl, rfl, rfl, trivial⟩ ?_
                    refine XC.region ?_
                    refine XO.rd rfl rfl rfl (Reads.assign rfl) ?_
                    refine XO.nil ?_
                    refine XQ.then_normal ?_
                    refine XC.block ?_
                    refine XC.loop (ι := Nat × Bool × Im) (fun q => [(9, VP.val), (10, VF.val), (12, .int .i64 n), (17, .pointer (some ⟨b17, 0, none⟩)), (20, .slice ah1 2 2), (21, .bool q.2.1), (22, .int .i64 q.1)]) (fun q => q.2.2) (fun q => (V3.ent 9 :: (twoL bk (upd x n y1) h' ++ (some (b17, .cells P.cells.toArray 24 (0, 0)) :: (avL b7 51 9 S ++ (avL b8 51 9 T ++ (VP.ent 24 :: (VF.ent 3 :: Lf)))))))) (fun q => J32.le q.2.2 ∧ q.1 ≤ ps.length ∧ (q.2.1 = false → collF (hashF (keyB ((1 - n : Nat) : Int)) P) keyS = false ∧ ∀ j, (hj : j < ps.length) → (hj' : j < fr.length) → j < q.1 → ¬ (ps[j] = P ∧ ¬ fr[j] = n) ∧ collF (hashF (keyB ((1 - n : Nat) : Int)) P) (hashF (keyB ((fr[j] : Nat) : Int)) ps[j]) = false)) (fun q => ps.length - q.1) (0, collF (hashF (keyB ((1 - n : Nat) : Int)) P) keyS, J32) ⟨Im.le_refl _, Nat.zero_le _, fun hx => ⟨hx, fun _ _ _ hz => absurd hz (Nat.not_lt_zero _)⟩⟩ ⟨rfl, rfl, rfl, rfl, rfl, rfl, rfl, trivial⟩ rfl (List.Perm.refl _) (fun q hq => ?_)
                    obtain ⟨m, b, J33⟩ := q
                    obtain ⟨hJle, hm1, hbf⟩ := hq
                    simp only at hJle hm1 hbf ⊢
                    replace hI := Im.le_trans hI hJle
                    replace hG := hG.mono hJle
                    replace hY := hY.mono hJle
                    replace hP := hP.mono hJle
                    replace hH1 := hH1.mono hJle
                    refine XC.seq ?_
                    refine XC.seq ?_
                    refine XC.region ?_
                    refine XO.rd rfl rfl rfl (Reads.move rfl) ?_
                    refine XO.rd rfl rfl rfl (Reads.move rfl) ?_
                    refine XO.rd rfl rfl rfl (Reads.len_slice Tryd.underlying37 rfl) ?_
                    refine XO.rd rfl rfl rfl (Reads.cmp rfl rfl rfl) ?_
                    refine XO.nil ?_
                    refine XQ.then_normal ?_
                    refine XC.cond rfl (fun h11 => ?_) (fun h11 => ?_)
                    · skip
                      simp only [cmpInt, decide_eq_true_eq] at h11
                      have hm3 : m < ps.length := by omega
                      have hmf : m < fr.length := by omega
                      have hsm := hon.pool m hm3 hmf
                      have hfm := hsm.form
                      have hms0 := hfm.s0
                      have hms1 := hfm.s1
                      have hma0 := hfm.a0
                      have hma1 := hfm.a1
                      have hmb := hfm.body
                      have hf2 := hsm.f2
                      have hmin : ps[m].In := ⟨by omega, by omega, by omega⟩
                      refine XC.skip ?_
                      refine XQ.then_normal ?_
                      refine XC.seq ?_
                      refine XC.block ?_
                      refine XC.draw m_mixed none (.pure 0 (.pure 1 (.pure 2 (.pure 3 (.pure 4 (.pure 5 (.pure 6 (.pure 7 (.pure 8 (.pure 9 (.pure 10 (.pure 11 (.pure 12 (.pure 13 (.pure 14 (.pure 15 (.pure 16 (.pure 17 (.pure 18 (.pure 19 (.pure 20 (.pure 21 (.pure 22 (.pure 24 (.pure 25 (.pure 26 (.pure 27 (.eff 23 (.eff 28 (.eff 29 (.pure 30 (.pure 31 (.done))))))))))))))))))))))))))))))))) _ (by kernel_rfl) (List.Sublist.refl _) ?_
                      refine XR.rd rfl rfl rfl (Reads.move rfl) ?_
                      refine XR.rd rfl rfl rfl (Reads.move rfl) ?_
                      refine XR.split (d := 154) rfl (fun h12 => ?_) (fun h12 => ?_)
                      · skip
                        refine XR.s rfl (wg rfl rfl rfl) rfl ?_
                        refine XR.s rfl (wg rfl rfl rfl) rfl ?_
                        refine XR.s rfl (wg rfl rfl rfl) rfl ?_
                        refine XR.s rfl (wg rfl rfl rfl) rfl ?_
                        refine XR.s rfl (wg rfl rfl rfl) rfl ?_
                        refine XR.s rfl (wg rfl rfl rfl) rfl ?_
                        refine XR.s rfl (wg rfl rfl rfl) rfl ?_
                        refine XR.s rfl (wgu rfl rfl) rfl ?_
                        refine XR.s rfl (wgu rfl rfl) rfl ?_
                        refine XR.s rfl (wgu rfl rfl) rfl ?_
                        refine XR.s rfl (wgu rfl rfl) rfl ?_
                        refine XR.s rfl (wgu rfl rfl) rfl ?_
                        refine XR.s rfl (wgu rfl rfl) rfl ?_
                        refine XR.s rfl (wg rfl rfl rfl) rfl ?_
                        refine XR.rd rfl rfl rfl (Reads.pick_true rfl rfl) ?_
                        refine XR.rd rfl rfl rfl (Reads.move rfl) ?_
                        refine XR.s rfl (wg rfl rfl rfl) rfl ?_
                        refine XR.s rfl (wg rfl rfl rfl) rfl ?_
                        refine XR.s rfl (wg rfl rfl rfl) rfl ?_
                        refine XR.s rfl (wg rfl rfl rfl) rfl ?_
                        refine XR.s rfl (wg rfl rfl rfl) rfl ?_
                        refine XR.s rfl (wg rfl rfl rfl) rfl ?_
                        refine XR.s rfl (wg rfl rfl rfl) rfl ?_
                        refine XR.s rfl (wg rfl rfl rfl) rfl ?_
                        refine XR.s rfl (wg rfl rfl rfl) rfl ?_
                        refine XR.se rfl (wg rfl rfl rfl) rfl (List.Sublist.refl _) ?_
                        refine XR.se rfl (wg rfl rfl rfl) rfl (List.Sublist.refl _) ?_
                        refine XR.se rfl (wg rfl rfl rfl) rfl (List.Sublist.refl _) ?_
                        refine XR.rd rfl rfl rfl (Reads.pick_true rfl rfl) ?_
                        refine XR.rd rfl rfl rfl (Reads.assign rfl) ?_
                        refine XR.nil ?_
                        refine XQ.block_normal ?_
                        refine XQ.then_normal ?_
                        refine XC.region ?_
                        refine XO.rd rfl rfl rfl (Reads.move rfl) ?_
                        refine XO.rd rfl rfl rfl (Reads.add rfl rfl (by omega)) ?_
                        refine XO.rd rfl rfl rfl (Reads.assign rfl) ?_
                        refine XO.nil ?_
                        refine XQ.back (m + 1, true, _) ⟨hJle, by simp only; omega, fun hx => by cases hx⟩ (by simp only; omega) ⟨rfl, rfl, rfl, rfl, rfl, rfl, rfl, trivial⟩ rfl (List.Perm.refl _)
                      · skip
                        have hb0 := h12
                        refine XR.rd rfl (wg rfl rfl rfl) rfl (Reads.move rfl) ?_
                        refine XR.rd rfl (wg rfl rfl rfl) rfl (Reads.move rfl) ?_
                        refine XR.rd rfl (wg rfl rfl rfl) rfl (Reads.index_slot (q := m * 4) Tryd.underlying37 z24 rfl rfl (by omega) (vec_isSomes (k := m * 4 + 0) hPv (pktC_at _ hm3 0 _ rfl)) (by omega)) ?_
                        refine XR.rd rfl (wg rfl rfl rfl) rfl (Reads.load_agg_vecs (V := VP) (vs := ps[m].cells) k24 z24 rfl hPv (e := 24) (List.mem_of_getElem? (i := 14) rfl) (Nat.succ_pos _) (pktC_at _ hm3)) ?_
                        refine XR.rd rfl (wg rfl rfl rfl) rfl (Reads.load_whole (c := P.cells.toArray) k24 z24 rfl (WholeAt.of 7 rfl) rfl) ?_
                        refine XR.rd rfl (wg rfl rfl rfl) rfl (Reads.pkt_eq (p := ps[m]) (q := P) rfl rfl) ?_
                        refine XR.rd rfl (wg rfl rfl rfl) rfl (Reads.move rfl) ?_
                        refine XR.split (d := 161) rfl (fun h13 => ?_) (fun h13 => ?_)
                        · skip
                          simp only [decide_eq_true_eq] at h13
                          refine XR.rd rfl (wg rfl rfl rfl) rfl (Reads.move rfl) ?_
                          refine XR.rd rfl (wg rfl rfl rfl) rfl (Reads.move rfl) ?_
                          refine XR.rd rfl (wg rfl rfl rfl) rfl (Reads.index_slot (q := m) Tryd.underlying52 z3 rfl rfl (by omega) (vec_isSomes (k := m) hFv (intC_get hmf)) (by omega)) ?_
                          refine XR.rd rfl (wg rfl rfl rfl) rfl (Reads.load_vecs (V := VF) (k := m) (v := .int .i64 ((fr[m] : Nat) : Int)) k3 rfl hFv (e := 3) (List.mem_of_getElem? (i := 15) rfl) (intC_get hmf)) ?_
                          refine XR.rd rfl (wg rfl rfl rfl) rfl (Reads.move rfl) ?_
                          refine XR.rd rfl (wg rfl rfl rfl) rfl (Reads.cmp rfl rfl rfl) ?_
                          refine XR.rd rfl (wg rfl rfl rfl) rfl (Reads.pick_true rfl rfl) ?_
                          refine XR.rd rfl rfl rfl (Reads.pick_false rfl rfl) ?_
                          refine XR.rd rfl rfl rfl (Reads.move rfl) ?_
                          refine XR.split (d := 170) rfl (fun h14 => ?_) (fun h14 => ?_)
                          · skip
                            refine XR.s rfl (wg rfl rfl rfl) rfl ?_
                            refine XR.s rfl (wg rfl rfl rfl) rfl ?_
                            refine XR.s rfl (wg rfl rfl rfl) rfl ?_
                            refine XR.s rfl (wg rfl rfl rfl) rfl ?_
                            refine XR.s rfl (wg rfl rfl rfl) rfl ?_
                            refine XR.s rfl (wg rfl rfl rfl) rfl ?_
                            refine XR.s rfl (wg rfl rfl rfl) rfl ?_
                            refine XR.s rfl (wg rfl rfl rfl) rfl ?_
                            refine XR.s rfl (wg rfl rfl rfl) rfl ?_
                            refine XR.se rfl (wg rfl rfl rfl) rfl (List.Sublist.refl _) ?_
                            refine XR.se rfl (wg rfl rfl rfl) rfl (List.Sublist.refl _) ?_
                            refine XR.se rfl (wg rfl rfl rfl) rfl (List.Sublist.refl _) ?_
                            refine XR.rd rfl rfl rfl (Reads.pick_true rfl rfl) ?_
                            refine XR.rd rfl rfl rfl (Reads.assign rfl) ?_
                            refine XR.nil ?_
                            refine XQ.block_normal ?_
                            refine XQ.then_normal ?_
                            refine XC.region ?_
                            refine XO.rd rfl rfl rfl (Reads.move rfl) ?_
                            refine XO.rd rfl rfl rfl (Reads.add rfl rfl (by omega)) ?_
                            refine XO.rd rfl rfl rfl (Reads.assign rfl) ?_
                            refine XO.nil ?_
                            refine XQ.back (m + 1, true, _) ⟨hJle, by simp only; omega, fun hx => by cases hx⟩ (by simp only; omega) ⟨rfl, rfl, rfl, rfl, rfl, rfl, rfl, trivial⟩ rfl (List.Perm.refl _)
                          · skip
                            simp only [cmpInt, bne_eq_false_iff_eq] at h14
                            have hfr : fr[m] = n := by omega
                            refine XR.rd rfl (wg rfl rfl rfl) rfl (Reads.move rfl) ?_
                            refine XR.rd rfl (wg rfl rfl rfl) rfl (Reads.move rfl) ?_
                            refine XR.rd rfl (wg rfl rfl rfl) rfl (Reads.move rfl) ?_
                            refine XR.rd rfl (wg rfl rfl rfl) rfl (Reads.index_slot (q := m) Tryd.underlying52 z3 rfl rfl (by omega) (vec_isSomes (k := m) hFv (intC_get hmf)) (by omega)) ?_
                            refine XR.rd rfl (wg rfl rfl rfl) rfl (Reads.load_vecs (V := VF) (k := m) (v := .int .i64 ((fr[m] : Nat) : Int)) k3 rfl hFv (e := 3) (List.mem_of_getElem? (i := 15) rfl) (intC_get hmf)) ?_
                            refine XR.rd rfl (wg rfl rfl rfl) rfl (Reads.move rfl) ?_
                            refine XR.rd rfl (wg rfl rfl rfl) rfl (Reads.move rfl) ?_
                            refine XR.rd rfl (wg rfl rfl rfl) rfl (Reads.index_slot (q := m * 4) Tryd.underlying37 z24 rfl rfl (by omega) (vec_isSomes (k := m * 4 + 0) hPv (pktC_at _ hm3 0 _ rfl)) (by omega)) ?_
                            refine XR.rd rfl (wg rfl rfl rfl) rfl (Reads.load_agg_vecs (V := VP) (vs := ps[m].cells) k24 z24 rfl hPv (e := 24) (List.mem_of_getElem? (i := 14) rfl) (Nat.succ_pos _) (pktC_at _ hm3)) ?_
                            refine XR.callp rfl (wg rfl rfl rfl) rfl en17 (key_any ((fr[m] : Nat) : Int) _ (by omega)) ⟨rfl, trivial⟩ (List.Sublist.refl _) ?_
                            refine XR.call rfl (wg rfl rfl rfl) rfl en37 (hashed_any (keyB ((fr[m] : Nat) : Int)) ps[m] _ hmin (by rw [keyB_size]; decide)) ⟨rfl, rfl, trivial⟩ (List.Sublist.refl _) ?_
                            rintro u Jh2 hleh2 ⟨ah2, rfl, hH2⟩
                            replace hI := Im.le_trans hI hleh2
                            replace hG := hG.mono hleh2
                            replace hY := hY.mono hleh2
                            replace hP := hP.mono hleh2
                            replace hH1 := hH1.mono hleh2
                            refine XR.callp rfl (wg rfl rfl rfl) rfl en38 (rcoll_any _ _ 2 2 (hashF (keyB ((1 - n : Nat) : Int)) P) (hashF (keyB ((fr[m] : Nat) : Int)) ps[m]) _ hH1 hH2 (by show 2 ≤ 100000; decide) (by show 2 ≤ 100000; decide) (hashF_sizes (keyB_size _) hPin) (hashF_sizes (keyB_size _) hmin)) ⟨rfl, rfl, trivial⟩ (List.Sublist.refl _) ?_
                            refine XR.rd rfl rfl rfl (Reads.pick_false rfl rfl) ?_
                            refine XR.rd rfl rfl rfl (Reads.assign rfl) ?_
                            refine XR.nil ?_
                            refine XQ.block_normal ?_
                            refine XQ.then_normal ?_
                            refine XC.region ?_
                            refine XO.rd rfl rfl rfl (Reads.move rfl) ?_
                            refine XO.rd rfl rfl rfl (Reads.add rfl rfl (by omega)) ?_
                            refine XO.rd rfl rfl rfl (Reads.assign rfl) ?_
                            refine XO.nil ?_
                            refine XQ.back (m + 1, collF (hashF (keyB ((1 - n : Nat) : Int)) P) (hashF (keyB ((fr[m] : Nat) : Int)) ps[m]), _) ⟨Im.le_trans hJle hleh2, by simp only; omega, fun hx => ⟨(hbf hb0).1, fun j hj hj' hjm => ?_⟩⟩ (by simp only; omega) ⟨rfl, rfl, rfl, rfl, rfl, rfl, rfl, trivial⟩ rfl (List.Perm.refl _)
                            rcases Nat.lt_succ_iff_lt_or_eq.1 hjm with h9 | rfl
                            · exact (hbf hb0).2 j hj hj' h9
                            · exact ⟨by rintro ⟨g1, g2⟩; first | exact g2 (by omega) | exact absurd g1 (by assumption), hx⟩
                        · skip
                          simp only [decide_eq_false_iff_not] at h13
                          refine XR.s rfl (wg rfl rfl rfl) rfl ?_
                          refine XR.s rfl (wg rfl rfl rfl) rfl ?_
                          refine XR.s rfl (wg rfl rfl rfl) rfl ?_
                          refine XR.s rfl (wg rfl rfl rfl) rfl ?_
                          refine XR.s rfl (wg rfl rfl rfl) rfl ?_
                          refine XR.s rfl (wg rfl rfl rfl) rfl ?_
                          refine XR.rd rfl (wg rfl rfl rfl) rfl (Reads.pick_false rfl rfl) ?_
                          refine XR.rd rfl rfl rfl (Reads.pick_false rfl rfl) ?_
                          refine XR.rd rfl rfl rfl (Reads.move rfl) ?_
                          refine XR.rd rfl (wg rfl rfl rfl) rfl (Reads.move rfl) ?_
                          refine XR.rd rfl (wg rfl rfl rfl) rfl (Reads.move rfl) ?_
                          refine XR.rd rfl (wg rfl rfl rfl) rfl (Reads.move rfl) ?_
                          refine XR.rd rfl (wg rfl rfl rfl) rfl (Reads.index_slot (q := m) Tryd.underlying52 z3 rfl rfl (by omega) (vec_isSomes (k := m) hFv (intC_get hmf)) (by omega)) ?_
                          refine XR.rd rfl (wg rfl rfl rfl) rfl (Reads.load_vecs (V := VF) (k := m) (v := .int .i64 ((fr[m] : Nat) : Int)) k3 rfl hFv (e := 3) (List.mem_of_getElem? (i := 15) rfl) (intC_get hmf)) ?_
                          refine XR.rd rfl (wg rfl rfl rfl) rfl (Reads.move rfl) ?_
                          refine XR.rd rfl (wg rfl rfl rfl) rfl (Reads.move rfl) ?_
                          refine XR.rd rfl (wg rfl rfl rfl) rfl (Reads.index_slot (q := m * 4) Tryd.underlying37 z24 rfl rfl (by omega) (vec_isSomes (k := m * 4 + 0) hPv (pktC_at _ hm3 0 _ rfl)) (by omega)) ?_
                          refine XR.rd rfl (wg rfl rfl rfl) rfl (Reads.load_agg_vecs (V := VP) (vs := ps[m].cells) k24 z24 rfl hPv (e := 24) (List.mem_of_getElem? (i := 14) rfl) (Nat.succ_pos _) (pktC_at _ hm3)) ?_
                          refine XR.callp rfl (wg rfl rfl rfl) rfl en17 (key_any ((fr[m] : Nat) : Int) _ (by omega)) ⟨rfl, trivial⟩ (List.Sublist.refl _) ?_
                          refine XR.call rfl (wg rfl rfl rfl) rfl en37 (hashed_any (keyB ((fr[m] : Nat) : Int)) ps[m] _ hmin (by rw [keyB_size]; decide)) ⟨rfl, rfl, trivial⟩ (List.Sublist.refl _) ?_
                          rintro u Jh2 hleh2 ⟨ah2, rfl, hH2⟩
                          replace hI := Im.le_trans hI hleh2
                          replace hG := hG.mono hleh2
                          replace hY := hY.mono hleh2
                          replace hP := hP.mono hleh2
                          replace hH1 := hH1.mono hleh2
                          refine XR.callp rfl (wg rfl rfl rfl) rfl en38 (rcoll_any _ _ 2 2 (hashF (keyB ((1 - n : Nat) : Int)) P) (hashF (keyB ((fr[m] : Nat) : Int)) ps[m]) _ hH1 hH2 (by show 2 ≤ 100000; decide) (by show 2 ≤ 100000; decide) (hashF_sizes (keyB_size _) hPin) (hashF_sizes (keyB_size _) hmin)) ⟨rfl, rfl, trivial⟩ (List.Sublist.refl _) ?_
                          refine XR.rd rfl rfl rfl (Reads.pick_false rfl rfl) ?_
                          refine XR.rd rfl rfl rfl (Reads.assign rfl) ?_
                          refine XR.nil ?_
                          refine XQ.block_normal ?_
                          refine XQ.then_normal ?_
                          refine XC.region ?_
                          refine XO.rd rfl rfl rfl (Reads.move rfl) ?_
                          refine XO.rd rfl rfl rfl (Reads.add rfl rfl (by omega)) ?_
                          refine XO.rd rfl rfl rfl (Reads.assign rfl) ?_
                          refine XO.nil ?_
                          refine XQ.back (m + 1, collF (hashF (keyB ((1 - n : Nat) : Int)) P) (hashF (keyB ((fr[m] : Nat) : Int)) ps[m]), _) ⟨Im.le_trans hJle hleh2, by simp only; omega, fun hx => ⟨(hbf hb0).1, fun j hj hj' hjm => ?_⟩⟩ (by simp only; omega) ⟨rfl, rfl, rfl, rfl, rfl, rfl, rfl, trivial⟩ rfl (List.Perm.refl _)
                          rcases Nat.lt_succ_iff_lt_or_eq.1 hjm with h9 | rfl
                          · exact (hbf hb0).2 j hj hj' h9
                          · exact ⟨by rintro ⟨g1, g2⟩; first | exact g2 (by omega) | exact absurd g1 (by assumption), hx⟩
                    · skip
                      simp only [cmpInt, decide_eq_false_iff_not] at h11
                      have hbt : b = true := found_true hn hkk hkf hsk hgen hPsl h4 (fun hb0 => ⟨(hbf hb0).1, fun j hj hj' => (hbf hb0).2 j hj hj' (by omega)⟩)
                      refine XC.exit ?_
                      refine XQ.then_exit ?_
                      refine XQ.then_exit ?_
                      refine XQ.block_exit ?_
                      refine XQ.then_normal ?_
                      refine XC.seq ?_
                      refine XC.region ?_
                      refine XO.rd rfl rfl rfl (Reads.move rfl) ?_
                      refine XO.rd rfl rfl rfl (Reads.assign rfl) ?_
                      refine XO.nil ?_
                      refine XQ.then_normal ?_
                      refine XC.ret ?_
                      refine XQ.then_ret ?_
                      refine XQ.block_ret ?_
                      refine XQ.then_ret ?_
                      refine XQ.then_ret ?_
                      refine XQ.block_ret ?_
                      refine XQ.then_ret ?_
                      refine XQ.then_ret ?_
                      refine XQ.block_ret ?_
                      refine XQ.then_ret ?_
                      first | (refine XQ.dropn 16 ?_; refine XQ.done1 (L := []) rfl rfl hI ?_; exact ⟨rfl, congrArg Value.bool hbt⟩) | (refine XQ.dropn 14 ?_; refine XQ.done1 (L := []) rfl rfl hI ?_; exact ⟨rfl, rfl⟩)
                  · skip
                    simp only [Bool.not_eq_false', decide_eq_true_eq] at h10
                    have hPe := h10
                    refine XR.rd rfl (wg rfl rfl rfl) rfl (Reads.move rfl) ?_
                    refine XR.rd rfl (wg rfl rfl rfl) rfl (Reads.move rfl) ?_
                    refine XR.rd rfl (wg rfl rfl rfl) rfl (Reads.index_slot (q := kk) Tryd.underlying52 z3 rfl rfl (by omega) (vec_isSomes (k := kk) hFv (intC_get hkf)) (by omega)) ?_
                    refine XR.rd rfl (wg rfl rfl rfl) rfl (Reads.load_vecs (V := VF) (k := kk) (v := .int .i64 ((fr[kk] : Nat) : Int)) k3 rfl hFv (e := 3) (List.mem_of_getElem? (i := 15) rfl) (intC_get hkf)) ?_
                    refine XR.rd rfl (wg rfl rfl rfl) rfl (Reads.move rfl) ?_
                    refine XR.rd rfl (wg rfl rfl rfl) rfl (Reads.cmp rfl rfl rfl) ?_
                    refine XR.rd rfl rfl rfl (Reads.pick_false rfl rfl) ?_
                    refine XR.nil ?_
                    refine XQ.then_normal ?_
                    refine XC.cond rfl (fun h15 => ?_) (fun h15 => ?_)
                    · skip
                      simp only [cmpInt, beq_iff_eq] at h15
                      have h4 : ¬ P = ps[kk] ∨ fr[kk] = n := .inr (by omega)
                      refine XC.seq ?_
                      refine XC.draw m_mixed none (.pure 0 (.pure 1 (.pure 3 (.eff 2 (.eff 4 (.pure 5 (.done))))))) _ (by kernel_rfl) (List.Sublist.refl _) ?_
                      refine XR.rd rfl rfl rfl (Reads.move rfl) ?_
                      refine XR.rd rfl rfl rfl (Reads.sub rfl rfl (by omega)) ?_
                      rw [show (1 : Int) - (n : Int) = ((1 - n : Nat) : Int) by omega]
                      refine XR.rd rfl rfl rfl (Reads.load_whole (c := P.cells.toArray) k24 z24 rfl (WholeAt.of 7 rfl) rfl) ?_
                      refine XR.callp rfl rfl rfl en17 (key_any ((1 - n : Nat) : Int) _ (by omega)) ⟨rfl, trivial⟩ (List.Sublist.refl _) ?_
                      refine XR.call rfl rfl rfl en37 (hashed_any (keyB ((1 - n : Nat) : Int)) P _ hPin (by rw [keyB_size]; decide)) ⟨rfl, rfl, trivial⟩ (List.Sublist.refl _) ?_
                      rintro u Jh1 hleh1 ⟨ah1, rfl, hH1⟩
                      replace hI := Im.le_trans hI hleh1
                      replace hG := hG.mono hleh1
                      replace hY := hY.mono hleh1
                      replace hP := hP.mono hleh1
                      refine XR.rd rfl rfl rfl (Reads.assign rfl) ?_
                      refine XR.nil ?_
                      refine XQ.then_normal ?_
                      refine XC.seq ?_
                      refine XC.region ?_
                      refine XO.rd rfl rfl rfl (Reads.move rfl) ?_
                      refine XO.lit (α := ByteArray) keyS [.string ⟨#[101, 0]⟩, .string ⟨#[101, 1]⟩] [.string ⟨#[101, 0]⟩, .string ⟨#[101, 1]⟩] rfl rfl Tryd.underlying44 el9 rfl (by simp) ⟨rfl, rfl, rfl, rfl, trivial⟩ rfl rfl (by decide) rfl (flat_strs _ keyS) (fun bl J32 hle32 hs32 => ?_)
                      replace hI := Im.le_trans hI hle32
                      replace hG := hG.mono hle32
                      replace hY := hY.mono hle32
                      replace hP := hP.mono hle32
                      replace hH1 := hH1.mono hle32
                      have hK := hs32.arr.1
                      refine XO.callp rfl rfl en38 (rcoll_any _ _ 2 2 (hashF (keyB ((1 - n : Nat) : Int)) P) keyS _ hH1 hK (by show 2 ≤ 100000; decide) (by show 2 ≤ 100000; decide) (hashF_sizes (keyB_size _) hPin) (by intro x hx; simp only [keyS, List.mem_cons, List.not_mem_nil, or_false] at hx; rcases hx with rfl | rfl <;> decide)) ⟨rfl, rfl, trivial⟩ ?_
                      refine XO.rd rfl rfl rfl (Reads.assign rfl) ?_
                      refine XO.nil ?_
                      refine XQ.then_normal ?_
                      refine XC.seq ?_
                      refine XC.seq ?_
                      refine XC.weaken (E' := [(9, _), (10, _), (12, _), (17, _), (20, _), (21, _)]) ⟨rfl, rfl, rfl, rfl, rfl, rfl, trivial⟩ ?_
                      refine XC.region ?_
                      refine XO.rd rfl rfl rfl (Reads.assign rfl) ?_
                      refine XO.nil ?_
                      refine XQ.then_normal ?_
                      refine XC.block ?_
                      refine XC.loop (ι := Nat × Bool × Im) (fun q => [(9, VP.val), (10, VF.val), (12, .int .i64 n), (17, .pointer (some ⟨b17, 0, none⟩)), (20, .slice ah1 2 2), (21, .bool q.2.1), (22, .int .i64 q.1)]) (fun q => q.2.2) (fun q => (V3.ent 9 :: (twoL bk (upd x n y1) h' ++ (some (b17, .cells P.cells.toArray 24 (0, 0)) :: (avL b7 51 9 S ++ (avL b8 51 9 T ++ (VP.ent 24 :: (VF.ent 3 :: Lf)))))))) (fun q => J32.le q.2.2 ∧ q.1 ≤ ps.length ∧ (q.2.1 = false → collF (hashF (keyB ((1 - n : Nat) : Int)) P) keyS = false ∧ ∀ j, (hj : j < ps.length) → (hj' : j < fr.length) → j < q.1 → ¬ (ps[j] = P ∧ ¬ fr[j] = n) ∧ collF (hashF (keyB ((1 - n : Nat) : Int)) P) (hashF (keyB ((fr[j] : Nat) : Int)) ps[j]) = false)) (fun q => ps.length - q.1) (0, collF (hashF (keyB ((1 - n : Nat) : Int)) P) keyS, J32) ⟨Im.le_refl _, Nat.zero_le _, fun hx => ⟨hx, fun _ _ _ hz => absurd hz (Nat.not_lt_zero _)⟩⟩ ⟨rfl, rfl, rfl, rfl, rfl, rfl, rfl, trivial⟩ rfl (List.Perm.refl _) (fun q hq => ?_)
                      obtain ⟨m, b, J33⟩ := q
                      obtain ⟨hJle, hm1, hbf⟩ := hq
                      simp only at hJle hm1 hbf ⊢
                      replace hI := Im.le_trans hI hJle
                      replace hG := hG.mono hJle
                      replace hY := hY.mono hJle
                      replace hP := hP.mono hJle
                      replace hH1 := hH1.mono hJle
                      refine XC.seq ?_
                      refine XC.seq ?_
                      refine XC.region ?_
                      refine XO.rd rfl rfl rfl (Reads.move rfl) ?_
                      refine XO.rd rfl rfl rfl (Reads.move rfl) ?_
                      refine XO.rd rfl rfl rfl (Reads.len_slice Tryd.underlying37 rfl) ?_
                      refine XO.rd rfl rfl rfl (Reads.cmp rfl rfl rfl) ?_
                      refine XO.nil ?_
                      refine XQ.then_normal ?_
                      refine XC.cond rfl (fun h16 => ?_) (fun h16 => ?_)
                      · skip
                        simp only [cmpInt, decide_eq_true_eq] at h16
                        have hm3 : m < ps.length := by omega
                        have hmf : m < fr.length := by omega
                        have hsm := hon.pool m hm3 hmf
                        have hfm := hsm.form
                        have hms0 := hfm.s0
                        have hms1 := hfm.s1
                        have hma0 := hfm.a0
                        have hma1 := hfm.a1
                        have hmb := hfm.body
                        have hf2 := hsm.f2
                        have hmin : ps[m].In := ⟨by omega, by omega, by omega⟩
                        refine XC.skip ?_
                        refine XQ.then_normal ?_
                        refine XC.seq ?_
                        refine XC.block ?_
                        refine XC.draw m_mixed none (.pure 0 (.pure 1 (.pure 2 (.pure 3 (.pure 4 (.pure 5 (.pure 6 (.pure 7 (.pure 8 (.pure 9 (.pure 10 (.pure 11 (.pure 12 (.pure 13 (.pure 14 (.pure 15 (.pure 16 (.pure 17 (.pure 18 (.pure 19 (.pure 20 (.pure 21 (.pure 22 (.pure 24 (.pure 25 (.pure 26 (.pure 27 (.eff 23 (.eff 28 (.eff 29 (.pure 30 (.pure 31 (.done))))))))))))))))))))))))))))))))) _ (by kernel_rfl) (List.Sublist.refl _) ?_
                        refine XR.rd rfl rfl rfl (Reads.move rfl) ?_
                        refine XR.rd rfl rfl rfl (Reads.move rfl) ?_
                        refine XR.split (d := 154) rfl (fun h17 => ?_) (fun h17 => ?_)
                        · skip
                          refine XR.s rfl (wg rfl rfl rfl) rfl ?_
                          refine XR.s rfl (wg rfl rfl rfl) rfl ?_
                          refine XR.s rfl (wg rfl rfl rfl) rfl ?_
                          refine XR.s rfl (wg rfl rfl rfl) rfl ?_
                          refine XR.s rfl (wg rfl rfl rfl) rfl ?_
                          refine XR.s rfl (wg rfl rfl rfl) rfl ?_
                          refine XR.s rfl (wg rfl rfl rfl) rfl ?_
                          refine XR.s rfl (wgu rfl rfl) rfl ?_
                          refine XR.s rfl (wgu rfl rfl) rfl ?_
                          refine XR.s rfl (wgu rfl rfl) rfl ?_
                          refine XR.s rfl (wgu rfl rfl) rfl ?_
                          refine XR.s rfl (wgu rfl rfl) rfl ?_
                          refine XR.s rfl (wgu rfl rfl) rfl ?_
                          refine XR.s rfl (wg rfl rfl rfl) rfl ?_
                          refine XR.rd rfl rfl rfl (Reads.pick_true rfl rfl) ?_
                          refine XR.rd rfl rfl rfl (Reads.move rfl) ?_
                          refine XR.s rfl (wg rfl rfl rfl) rfl ?_
                          refine XR.s rfl (wg rfl rfl rfl) rfl ?_
                          refine XR.s rfl (wg rfl rfl rfl) rfl ?_
                          refine XR.s rfl (wg rfl rfl rfl) rfl ?_
                          refine XR.s rfl (wg rfl rfl rfl) rfl ?_
                          refine XR.s rfl (wg rfl rfl rfl) rfl ?_
                          refine XR.s rfl (wg rfl rfl rfl) rfl ?_
                          refine XR.s rfl (wg rfl rfl rfl) rfl ?_
                          refine XR.s rfl (wg rfl rfl rfl) rfl ?_
                          refine XR.se rfl (wg rfl rfl rfl) rfl (List.Sublist.refl _) ?_
                          refine XR.se rfl (wg rfl rfl rfl) rfl (List.Sublist.refl _) ?_
                          refine XR.se rfl (wg rfl rfl rfl) rfl (List.Sublist.refl _) ?_
                          refine XR.rd rfl rfl rfl (Reads.pick_true rfl rfl) ?_
                          refine XR.rd rfl rfl rfl (Reads.assign rfl) ?_
                          refine XR.nil ?_
                          refine XQ.block_normal ?_
                          refine XQ.then_normal ?_
                          refine XC.region ?_
                          refine XO.rd rfl rfl rfl (Reads.move rfl) ?_
                          refine XO.rd rfl rfl rfl (Reads.add rfl rfl (by omega)) ?_
                          refine XO.rd rfl rfl rfl (Reads.assign rfl) ?_
                          refine XO.nil ?_
                          refine XQ.back (m + 1, true, _) ⟨hJle, by simp only; omega, fun hx => by cases hx⟩ (by simp only; omega) ⟨rfl, rfl, rfl, rfl, rfl, rfl, rfl, trivial⟩ rfl (List.Perm.refl _)
                        · skip
                          have hb0 := h17
                          refine XR.rd rfl (wg rfl rfl rfl) rfl (Reads.move rfl) ?_
                          refine XR.rd rfl (wg rfl rfl rfl) rfl (Reads.move rfl) ?_
                          refine XR.rd rfl (wg rfl rfl rfl) rfl (Reads.index_slot (q := m * 4) Tryd.underlying37 z24 rfl rfl (by omega) (vec_isSomes (k := m * 4 + 0) hPv (pktC_at _ hm3 0 _ rfl)) (by omega)) ?_
                          refine XR.rd rfl (wg rfl rfl rfl) rfl (Reads.load_agg_vecs (V := VP) (vs := ps[m].cells) k24 z24 rfl hPv (e := 24) (List.mem_of_getElem? (i := 14) rfl) (Nat.succ_pos _) (pktC_at _ hm3)) ?_
                          refine XR.rd rfl (wg rfl rfl rfl) rfl (Reads.load_whole (c := P.cells.toArray) k24 z24 rfl (WholeAt.of 7 rfl) rfl) ?_
                          refine XR.rd rfl (wg rfl rfl rfl) rfl (Reads.pkt_eq (p := ps[m]) (q := P) rfl rfl) ?_
                          refine XR.rd rfl (wg rfl rfl rfl) rfl (Reads.move rfl) ?_
                          refine XR.split (d := 161) rfl (fun h18 => ?_) (fun h18 => ?_)
                          · skip
                            simp only [decide_eq_true_eq] at h18
                            refine XR.rd rfl (wg rfl rfl rfl) rfl (Reads.move rfl) ?_
                            refine XR.rd rfl (wg rfl rfl rfl) rfl (Reads.move rfl) ?_
                            refine XR.rd rfl (wg rfl rfl rfl) rfl (Reads.index_slot (q := m) Tryd.underlying52 z3 rfl rfl (by omega) (vec_isSomes (k := m) hFv (intC_get hmf)) (by omega)) ?_
                            refine XR.rd rfl (wg rfl rfl rfl) rfl (Reads.load_vecs (V := VF) (k := m) (v := .int .i64 ((fr[m] : Nat) : Int)) k3 rfl hFv (e := 3) (List.mem_of_getElem? (i := 15) rfl) (intC_get hmf)) ?_
                            refine XR.rd rfl (wg rfl rfl rfl) rfl (Reads.move rfl) ?_
                            refine XR.rd rfl (wg rfl rfl rfl) rfl (Reads.cmp rfl rfl rfl) ?_
                            refine XR.rd rfl (wg rfl rfl rfl) rfl (Reads.pick_true rfl rfl) ?_
                            refine XR.rd rfl rfl rfl (Reads.pick_false rfl rfl) ?_
                            refine XR.rd rfl rfl rfl (Reads.move rfl) ?_
                            refine XR.split (d := 170) rfl (fun h19 => ?_) (fun h19 => ?_)
                            · skip
                              refine XR.s rfl (wg rfl rfl rfl) rfl ?_
                              refine XR.s rfl (wg rfl rfl rfl) rfl ?_
                              refine XR.s rfl (wg rfl rfl rfl) rfl ?_
                              refine XR.s rfl (wg rfl rfl rfl) rfl ?_
                              refine XR.s rfl (wg rfl rfl rfl) rfl ?_
                              refine XR.s rfl (wg rfl rfl rfl) rfl ?_
                              refine XR.s rfl (wg rfl rfl rfl) rfl ?_
                              refine XR.s rfl (wg rfl rfl rfl) rfl ?_
                              refine XR.s rfl (wg rfl rfl rfl) rfl ?_
                              refine XR.se rfl (wg rfl rfl rfl) rfl (List.Sublist.refl _) ?_
                              refine XR.se rfl (wg rfl rfl rfl) rfl (List.Sublist.refl _) ?_
                              refine XR.se rfl (wg rfl rfl rfl) rfl (List.Sublist.refl _) ?_
                              refine XR.rd rfl rfl rfl (Reads.pick_true rfl rfl) ?_
                              refine XR.rd rfl rfl rfl (Reads.assign rfl) ?_
                              refine XR.nil ?_
                              refine XQ.block_normal ?_
                              refine XQ.then_normal ?_
                              refine XC.region ?_
                              refine XO.rd rfl rfl rfl (Reads.move rfl) ?_
                              refine XO.rd rfl rfl rfl (Reads.add rfl rfl (by omega)) ?_
                              refine XO.rd rfl rfl rfl (Reads.assign rfl) ?_
                              refine XO.nil ?_
                              refine XQ.back (m + 1, true, _) ⟨hJle, by simp only; omega, fun hx => by cases hx⟩ (by simp only; omega) ⟨rfl, rfl, rfl, rfl, rfl, rfl, rfl, trivial⟩ rfl (List.Perm.refl _)
                            · skip
                              simp only [cmpInt, bne_eq_false_iff_eq] at h19
                              have hfr : fr[m] = n := by omega
                              refine XR.rd rfl (wg rfl rfl rfl) rfl (Reads.move rfl) ?_
                              refine XR.rd rfl (wg rfl rfl rfl) rfl (Reads.move rfl) ?_
                              refine XR.rd rfl (wg rfl rfl rfl) rfl (Reads.move rfl) ?_
                              refine XR.rd rfl (wg rfl rfl rfl) rfl (Reads.index_slot (q := m) Tryd.underlying52 z3 rfl rfl (by omega) (vec_isSomes (k := m) hFv (intC_get hmf)) (by omega)) ?_
                              refine XR.rd rfl (wg rfl rfl rfl) rfl (Reads.load_vecs (V := VF) (k := m) (v := .int .i64 ((fr[m] : Nat) : Int)) k3 rfl hFv (e := 3) (List.mem_of_getElem? (i := 15) rfl) (intC_get hmf)) ?_
                              refine XR.rd rfl (wg rfl rfl rfl) rfl (Reads.move rfl) ?_
                              refine XR.rd rfl (wg rfl rfl rfl) rfl (Reads.move rfl) ?_
                              refine XR.rd rfl (wg rfl rfl rfl) rfl (Reads.index_slot (q := m * 4) Tryd.underlying37 z24 rfl rfl (by omega) (vec_isSomes (k := m * 4 + 0) hPv (pktC_at _ hm3 0 _ rfl)) (by omega)) ?_
                              refine XR.rd rfl (wg rfl rfl rfl) rfl (Reads.load_agg_vecs (V := VP) (vs := ps[m].cells) k24 z24 rfl hPv (e := 24) (List.mem_of_getElem? (i := 14) rfl) (Nat.succ_pos _) (pktC_at _ hm3)) ?_
                              refine XR.callp rfl (wg rfl rfl rfl) rfl en17 (key_any ((fr[m] : Nat) : Int) _ (by omega)) ⟨rfl, trivial⟩ (List.Sublist.refl _) ?_
                              refine XR.call rfl (wg rfl rfl rfl) rfl en37 (hashed_any (keyB ((fr[m] : Nat) : Int)) ps[m] _ hmin (by rw [keyB_size]; decide)) ⟨rfl, rfl, trivial⟩ (List.Sublist.refl _) ?_
                              rintro u Jh2 hleh2 ⟨ah2, rfl, hH2⟩
                              replace hI := Im.le_trans hI hleh2
                              replace hG := hG.mono hleh2
                              replace hY := hY.mono hleh2
                              replace hP := hP.mono hleh2
                              replace hH1 := hH1.mono hleh2
                              refine XR.callp rfl (wg rfl rfl rfl) rfl en38 (rcoll_any _ _ 2 2 (hashF (keyB ((1 - n : Nat) : Int)) P) (hashF (keyB ((fr[m] : Nat) : Int)) ps[m]) _ hH1 hH2 (by show 2 ≤ 100000; decide) (by show 2 ≤ 100000; decide) (hashF_sizes (keyB_size _) hPin) (hashF_sizes (keyB_size _) hmin)) ⟨rfl, rfl, trivial⟩ (List.Sublist.refl _) ?_
                              refine XR.rd rfl rfl rfl (Reads.pick_false rfl rfl) ?_
                              refine XR.rd rfl rfl rfl (Reads.assign rfl) ?_
                              refine XR.nil ?_
                              refine XQ.block_normal ?_
                              refine XQ.then_normal ?_
                              refine XC.region ?_
                              refine XO.rd rfl rfl rfl (Reads.move rfl) ?_
                              refine XO.rd rfl rfl rfl (Reads.add rfl rfl (by omega)) ?_
                              refine XO.rd rfl rfl rfl (Reads.assign rfl) ?_
                              refine XO.nil ?_
                              refine XQ.back (m + 1, collF (hashF (keyB ((1 - n : Nat) : Int)) P) (hashF (keyB ((fr[m] : Nat) : Int)) ps[m]), _) ⟨Im.le_trans hJle hleh2, by simp only; omega, fun hx => ⟨(hbf hb0).1, fun j hj hj' hjm => ?_⟩⟩ (by simp only; omega) ⟨rfl, rfl, rfl, rfl, rfl, rfl, rfl, trivial⟩ rfl (List.Perm.refl _)
                              rcases Nat.lt_succ_iff_lt_or_eq.1 hjm with h9 | rfl
                              · exact (hbf hb0).2 j hj hj' h9
                              · exact ⟨by rintro ⟨g1, g2⟩; first | exact g2 (by omega) | exact absurd g1 (by assumption), hx⟩
                          · skip
                            simp only [decide_eq_false_iff_not] at h18
                            refine XR.s rfl (wg rfl rfl rfl) rfl ?_
                            refine XR.s rfl (wg rfl rfl rfl) rfl ?_
                            refine XR.s rfl (wg rfl rfl rfl) rfl ?_
                            refine XR.s rfl (wg rfl rfl rfl) rfl ?_
                            refine XR.s rfl (wg rfl rfl rfl) rfl ?_
                            refine XR.s rfl (wg rfl rfl rfl) rfl ?_
                            refine XR.rd rfl (wg rfl rfl rfl) rfl (Reads.pick_false rfl rfl) ?_
                            refine XR.rd rfl rfl rfl (Reads.pick_false rfl rfl) ?_
                            refine XR.rd rfl rfl rfl (Reads.move rfl) ?_
                            refine XR.rd rfl (wg rfl rfl rfl) rfl (Reads.move rfl) ?_
                            refine XR.rd rfl (wg rfl rfl rfl) rfl (Reads.move rfl) ?_
                            refine XR.rd rfl (wg rfl rfl rfl) rfl (Reads.move rfl) ?_
                            refine XR.rd rfl (wg rfl rfl rfl) rfl (Reads.index_slot (q := m) Tryd.underlying52 z3 rfl rfl (by omega) (vec_isSomes (k := m) hFv (intC_get hmf)) (by omega)) ?_
                            refine XR.rd rfl (wg rfl rfl rfl) rfl (Reads.load_vecs (V := VF) (k := m) (v := .int .i64 ((fr[m] : Nat) : Int)) k3 rfl hFv (e := 3) (List.mem_of_getElem? (i := 15) rfl) (intC_get hmf)) ?_
                            refine XR.rd rfl (wg rfl rfl rfl) rfl (Reads.move rfl) ?_
                            refine XR.rd rfl (wg rfl rfl rfl) rfl (Reads.move rfl) ?_
                            refine XR.rd rfl (wg rfl rfl rfl) rfl (Reads.index_slot (q := m * 4) Tryd.underlying37 z24 rfl rfl (by omega) (vec_isSomes (k := m * 4 + 0) hPv (pktC_at _ hm3 0 _ rfl)) (by omega)) ?_
                            refine XR.rd rfl (wg rfl rfl rfl) rfl (Reads.load_agg_vecs (V := VP) (vs := ps[m].cells) k24 z24 rfl hPv (e := 24) (List.mem_of_getElem? (i := 14) rfl) (Nat.succ_pos _) (pktC_at _ hm3)) ?_
                            refine XR.callp rfl (wg rfl rfl rfl) rfl en17 (key_any ((fr[m] : Nat) : Int) _ (by omega)) ⟨rfl, trivial⟩ (List.Sublist.refl _) ?_
                            refine XR.call rfl (wg rfl rfl rfl) rfl en37 (hashed_any (keyB ((fr[m] : Nat) : Int)) ps[m] _ hmin (by rw [keyB_size]; decide)) ⟨rfl, rfl, trivial⟩ (List.Sublist.refl _) ?_
                            rintro u Jh2 hleh2 ⟨ah2, rfl, hH2⟩
                            replace hI := Im.le_trans hI hleh2
                            replace hG := hG.mono hleh2
                            replace hY := hY.mono hleh2
                            replace hP := hP.mono hleh2
                            replace hH1 := hH1.mono hleh2
                            refine XR.callp rfl (wg rfl rfl rfl) rfl en38 (rcoll_any _ _ 2 2 (hashF (keyB ((1 - n : Nat) : Int)) P) (hashF (keyB ((fr[m] : Nat) : Int)) ps[m]) _ hH1 hH2 (by show 2 ≤ 100000; decide) (by show 2 ≤ 100000; decide) (hashF_sizes (keyB_size _) hPin) (hashF_sizes (keyB_size _) hmin)) ⟨rfl, rfl, trivial⟩ (List.Sublist.refl _) ?_
                            refine XR.rd rfl rfl rfl (Reads.pick_false rfl rfl) ?_
                            refine XR.rd rfl rfl rfl (Reads.assign rfl) ?_
                            refine XR.nil ?_
                            refine XQ.block_normal ?_
                            refine XQ.then_normal ?_
                            refine XC.region ?_
                            refine XO.rd rfl rfl rfl (Reads.move rfl) ?_
                            refine XO.rd rfl rfl rfl (Reads.add rfl rfl (by omega)) ?_
                            refine XO.rd rfl rfl rfl (Reads.assign rfl) ?_
                            refine XO.nil ?_
                            refine XQ.back (m + 1, collF (hashF (keyB ((1 - n : Nat) : Int)) P) (hashF (keyB ((fr[m] : Nat) : Int)) ps[m]), _) ⟨Im.le_trans hJle hleh2, by simp only; omega, fun hx => ⟨(hbf hb0).1, fun j hj hj' hjm => ?_⟩⟩ (by simp only; omega) ⟨rfl, rfl, rfl, rfl, rfl, rfl, rfl, trivial⟩ rfl (List.Perm.refl _)
                            rcases Nat.lt_succ_iff_lt_or_eq.1 hjm with h9 | rfl
                            · exact (hbf hb0).2 j hj hj' h9
                            · exact ⟨by rintro ⟨g1, g2⟩; first | exact g2 (by omega) | exact absurd g1 (by assumption), hx⟩
                      · skip
                        simp only [cmpInt, decide_eq_false_iff_not] at h16
                        have hbt : b = true := found_true hn hkk hkf hsk hgen hPsl h4 (fun hb0 => ⟨(hbf hb0).1, fun j hj hj' => (hbf hb0).2 j hj hj' (by omega)⟩)
                        refine XC.exit ?_
                        refine XQ.then_exit ?_
                        refine XQ.then_exit ?_
                        refine XQ.block_exit ?_
                        refine XQ.then_normal ?_
                        refine XC.seq ?_
                        refine XC.region ?_
                        refine XO.rd rfl rfl rfl (Reads.move rfl) ?_
                        refine XO.rd rfl rfl rfl (Reads.assign rfl) ?_
                        refine XO.nil ?_
                        refine XQ.then_normal ?_
                        refine XC.ret ?_
                        refine XQ.then_ret ?_
                        refine XQ.block_ret ?_
                        refine XQ.then_ret ?_
                        refine XQ.then_ret ?_
                        refine XQ.block_ret ?_
                        refine XQ.then_ret ?_
                        refine XQ.then_ret ?_
                        refine XQ.block_ret ?_
                        refine XQ.then_ret ?_
                        first | (refine XQ.dropn 16 ?_; refine XQ.done1 (L := []) rfl rfl hI ?_; exact ⟨rfl, congrArg Value.bool hbt⟩) | (refine XQ.dropn 14 ?_; refine XQ.done1 (L := []) rfl rfl hI ?_; exact ⟨rfl, rfl⟩)
                    · skip
                      simp only [cmpInt, beq_eq_false_iff_ne] at h15
                      have hf1 : fr[kk] = 1 - n := by have := hsk.f2; omega
                      have hsent : Sent x P (1 - n) := by have h9 := hsk; rw [hf1, ← hPe] at h9; exact h9
                      refine XC.skip ?_
                      refine XQ.then_normal ?_
                      refine XC.region ?_
                      refine XO.perm (perm_take [0, 10, 10, 10]) ?_
                      refine XO.own_eq (L' := (V3.ent 9 :: (avL b8 51 9 T ++ (twoL bk (upd x n y1) h' ++ (some (b17, .cells P.cells.toArray 24 (0, 0)) :: (avL b7 51 9 S ++ (VP.ent 24 :: (VF.ent 3 :: Lf)))))))) rfl ?_
                      refine XO.rd rfl rfl rfl (Reads.move rfl) ?_
                      refine XO.rd rfl rfl rfl (Reads.move rfl) ?_
                      refine XO.rd rfl rfl rfl (Reads.index_arr_own (q := n) Tryd.underlying51 z44 rfl rfl (by omega) (by omega)) ?_
                      refine XO.rd rfl rfl rfl (Reads.load_own (v := (T n).val) k44 rfl (OwnAt.of 1 rfl (av_get hn))) ?_
                      refine XO.rd rfl rfl rfl (Reads.move rfl) ?_
                      have hTl := (hTv n hn).len
                      rw [strC_len, Nat.mul_one] at hTl
                      have hgl := hst.in_len hn hsent hin1
                      simp only at hgl
                      refine XO.append (V := T n) (news := strC ms1) (n + 2) rfl rfl Tryd.underlying44 el9 rfl rfl (hTv n hn) (av_ent hn) (.slice Tryd.underlying44 (hV3.readable (e := 9) (List.Mem.head _)) (by rw [strC_len, hV3l, Nat.mul_one]) (strC_one _)) (by omega) (by omega) ?_
                      intro V' hV' hV'l
                      refine XO.own_eq (av_app hn) ?_
                      refine XO.rd rfl rfl rfl (Reads.index_arr_own (q := n) Tryd.underlying51 z44 rfl rfl (by omega) (by omega)) ?_
                      refine XO.store 1 rfl z44 rfl rfl rfl rfl (by show n < 2; omega) ?_
                      refine XO.own_eq (L' := (V3.ent 9 :: (avL b8 51 9 (upd T n V') ++ (twoL bk (upd x n y1) h' ++ (some (b17, .cells P.cells.toArray 24 (0, 0)) :: (avL b7 51 9 S ++ (VP.ent 24 :: (VF.ent 3 :: Lf)))))))) (congrArg (fun c => V3.ent 9 :: some (b8, Obj.cells c 51 (0, 0)) :: (upd T n V' 0).ent 9 :: (upd T n V' 1).ent 9 :: (twoL bk (upd x n y1) h' ++ (some (b17, .cells P.cells.toArray 24 (0, 0)) :: (avL b7 51 9 S ++ (VP.ent 24 :: (VF.ent 3 :: Lf)))))) (av_store hn)) ?_
                      refine XO.dropn 1 ?_
                      refine XO.perm (perm_take [9]) ?_
                      refine XO.dropn 1 ?_
                      refine XO.perm (perm_take [3, 3, 3, 3, 3, 3, 3, 3, 3]) ?_
                      refine XO.own_eq (L' := (twoL bk (upd x n y1) h' ++ (avL b7 51 9 S ++ (avL b8 51 9 (upd T n V') ++ (VP.ent 24 :: (VF.ent 3 :: Lf)))))) rfl ?_
                      refine XO.nil ?_
                      refine XQ.block_normal ?_
                      refine XQ.joined ⟨upd x n y1, h', upd G n (G n ++ ms1), S, upd T n V', ps, fr, VP, VF⟩ (hst.in_ hn hsent hin1 hE' hV') ⟨rfl, rfl, rfl, rfl, rfl, rfl, rfl, trivial⟩ rfl (List.Perm.refl _)
              · skip
                simp only [cmpInt, beq_eq_false_iff_ne] at h7
                obtain ⟨P, hPd⟩ : ∃ P, P = ps[kk] := ⟨_, rfl⟩
                have hPin : P.In := hPd ▸ hkin
                have hPsl : P.sl = ps[kk].sl ∨ ∃ c, P.sl = keyB c := .inl (by rw [hPd])
                rw [← hPd]
                refine XC.skip ?_
                refine XQ.then_normal ?_
                refine XC.seq ?_
                refine XC.draw m_mixed none (.pure 0 (.pure 1 (.pure 2 (.pure 3 (.pure 4 (.eff 5 (.pure 6 (.pure 7 (.pure 8 (.pure 9 (.pure 10 (.done)))))))))))) [some (b17, .cells P.cells.toArray 24 (0, 0))] (by kernel_rfl) (List.Sublist.cons_cons _ (List.nil_sublist _)) ?_
                refine XR.rd rfl rfl rfl (Reads.move rfl) ?_
                refine XR.rd rfl rfl rfl (Reads.move rfl) ?_
                refine XR.rd rfl rfl rfl (Reads.index_slot (q := n) Tryd.underlying30 z25 rfl rfl (by omega) (hP.isSome (by decide) (Nat.succ_pos 1)) (by omega)) ?_
                refine XR.rd rfl rfl rfl (Reads.load_at k25 rfl (Arr.ptr hP hn)) ?_
                refine XR.rd rfl rfl rfl (Reads.load_whole (c := P.cells.toArray) k24 z24 rfl (WholeAt.of 0 rfl) rfl) ?_
                obtain ⟨y1, ms1, e1, hin1⟩ : ∃ y ms e, inF (x n) P = (y, ms, e) := ⟨_, _, _, rfl⟩
                refine XR.callo (vs := [_, _]) (L1 := twoL bk x hh) rfl rfl rfl rfl en26 ⟨rfl, rfl, trivial⟩ (in_two hn hin1 hEs hPin hG) (perm_take [1, 1, 1, 1, 1, 1]) ?_
                rintro v I' L' _ ⟨V3, h', rfl, hI', rfl, hV3, hV3l, hE'⟩
                replace hI' := hI'.symm
                subst hI'
                refine ⟨.inr (List.Sublist.cons _ (List.Sublist.cons _ (List.Sublist.cons _ (List.Sublist.cons _ (List.Sublist.cons _ (List.Sublist.cons _ (List.Sublist.cons _ (List.Sublist.cons_cons _ (List.nil_sublist _))))))))), ?_⟩
                refine XR.own_eq (L' := (V3.ent 9 :: (twoL bk (upd x n y1) h' ++ (some (b17, .cells P.cells.toArray 24 (0, 0)) :: (avL b7 51 9 S ++ (avL b8 51 9 T ++ (VP.ent 24 :: (VF.ent 3 :: Lf)))))))) rfl ?_
                refine XR.rd rfl rfl rfl (Reads.move rfl) ?_
                refine XR.rd rfl rfl rfl (Reads.extract rfl rfl) ?_
                refine XR.rd rfl rfl rfl (Reads.extract rfl rfl) ?_
                refine XR.rd rfl rfl rfl (Reads.assign rfl) ?_
                refine XR.rd rfl rfl rfl (Reads.assign rfl) ?_
                refine XR.nil ?_
                refine XQ.then_normal ?_
                refine XC.seq ?_
                refine XC.seq ?_
                refine XC.weaken (E' := [(0, _), (6, _), (7, _), (8, _), (9, _), (10, _), (11, _), (12, _), (16, _), (17, _), (18, _), (19, _)]) ⟨rfl, rfl, rfl, rfl, rfl, rfl, rfl, rfl, rfl, rfl, rfl, rfl, trivial⟩ ?_
                refine XC.region ?_
                refine XO.rd rfl rfl rfl (Reads.move rfl) ?_
                refine XO.rd rfl rfl rfl (Reads.cmp rfl rfl rfl) ?_
                refine XO.nil ?_
                refine XQ.then_normal ?_
                refine XC.cond rfl (fun h20 => ?_) (fun h20 => ?_)
                · skip
                  simp only [cmpInt, bne_iff_ne, ne_eq] at h20
                  have he1 := h20
                  obtain ⟨hy1, hms1⟩ := in_err hin1 he1
                  subst hy1
                  subst hms1
                  rw [upd_same] at hE'
                  simp only [List.length_nil] at hV3l
                  refine XC.seq ?_
                  refine XC.seq ?_
                  refine XC.draw m_mixed none (.pure 0 (.pure 1 (.pure 2 (.pure 3 (.pure 4 (.pure 5 (.pure 6 (.pure 7 (.pure 8 (.pure 9 (.pure 10 (.pure 11 (.pure 12 (.pure 13 (.pure 14 (.pure 15 (.pure 16 (.pure 17 (.pure 18 (.done)))))))))))))))))))) _ (by kernel_rfl) (List.Sublist.refl _) ?_
                  refine XR.rd rfl rfl rfl (Reads.move rfl) ?_
                  refine XR.rd rfl rfl rfl (Reads.len_slice Tryd.underlying44 rfl) ?_
                  refine XR.rd rfl rfl rfl (Reads.cmp_no rfl rfl rfl (by simp only [cmpInt, decide_eq_false_iff_not, beq_eq_false_iff_ne, bne_eq_false_iff_eq] <;> omega)) ?_
                  refine XR.rd rfl rfl rfl (Reads.move rfl) ?_
                  refine XR.rd rfl (wg rfl rfl rfl) rfl (Reads.load_whole (c := P.cells.toArray) k24 z24 rfl (WholeAt.of 7 rfl) rfl) ?_
                  refine XR.rd rfl (wg rfl rfl rfl) rfl (Reads.move rfl) ?_
                  refine XR.rd rfl (wg rfl rfl rfl) rfl (Reads.move rfl) ?_
                  refine XR.rd rfl (wg rfl rfl rfl) rfl (Reads.index_slot (q := kk * 4) Tryd.underlying37 z24 rfl rfl (by omega) (vec_isSomes (k := kk * 4 + 0) hPv (pktC_at _ hkk 0 _ rfl)) (by omega)) ?_
                  refine XR.rd rfl (wg rfl rfl rfl) rfl (Reads.load_agg_vecs (V := VP) (vs := ps[kk].cells) k24 z24 rfl hPv (e := 24) (List.mem_of_getElem? (i := 14) rfl) (Nat.succ_pos _) (pktC_at _ hkk)) ?_
                  refine XR.rd rfl (wg rfl rfl rfl) rfl (Reads.pkt_eq (p := P) (q := ps[kk]) rfl rfl) ?_
                  refine XR.rd rfl (wg rfl rfl rfl) rfl (Reads.move rfl) ?_
                  refine XR.split (d := 116) rfl (fun h21 => ?_) (fun h21 => ?_)
                  · skip
                    simp only [decide_eq_true_eq] at h21
                    have hfn := hst.err hn hkk hkf hin1 he1 h21
                    simp only at hfn
                    refine XR.rd rfl (wg rfl rfl rfl) rfl (Reads.move rfl) ?_
                    refine XR.rd rfl (wg rfl rfl rfl) rfl (Reads.move rfl) ?_
                    refine XR.rd rfl (wg rfl rfl rfl) rfl (Reads.index_slot (q := kk) Tryd.underlying52 z3 rfl rfl (by omega) (vec_isSomes (k := kk) hFv (intC_get hkf)) (by omega)) ?_
                    refine XR.rd rfl (wg rfl rfl rfl) rfl (Reads.load_vecs (V := VF) (k := kk) (v := .int .i64 ((fr[kk] : Nat) : Int)) k3 rfl hFv (e := 3) (List.mem_of_getElem? (i := 15) rfl) (intC_get hkf)) ?_
                    refine XR.rd rfl (wg rfl rfl rfl) rfl (Reads.move rfl) ?_
                    refine XR.rd rfl (wg rfl rfl rfl) rfl (Reads.cmp_no rfl rfl rfl (by simp only [cmpInt, decide_eq_false_iff_not, beq_eq_false_iff_ne, bne_eq_false_iff_eq] <;> omega)) ?_
                    refine XR.rd rfl (wg rfl rfl rfl) rfl (Reads.pick_true rfl rfl) ?_
                    refine XR.rd rfl rfl rfl (Reads.pick_false rfl rfl) ?_
                    refine XR.nil ?_
                    refine XQ.then_normal ?_
                    refine XC.cond rfl (fun hx => by cases hx) (fun _ => ?_)
                    refine XC.skip ?_
                    refine XQ.then_normal ?_
                    refine XC.exit ?_
                    refine XQ.then_exit ?_
                    refine XQ.block_out rfl ?_
                    refine XQ.then_exit ?_
                    refine XQ.then_exit ?_
                    refine XQ.block_exit ?_
                    refine XQ.then_normal ?_
                    refine XC.region ?_
                    refine XO.rd rfl rfl rfl (Reads.move rfl) ?_
                    refine XO.rd rfl rfl rfl (Reads.add rfl rfl (by omega)) ?_
                    refine XO.rd rfl rfl rfl (Reads.assign rfl) ?_
                    refine XO.nil ?_
                    refine XQ.dropn 1 ?_
                    refine XQ.perm (perm_take [6]) ?_
                    refine XQ.dropn 1 ?_
                    have hst9 : OnInv k ⟨x, h', G, S, T, ps, fr, VP, VF⟩ := ⟨hon, hE', hSv, hTv, hPv, hFv, hfew, hpool⟩
                    refine XQ.back (k + 1, ⟨x, h', G, S, T, ps, fr, VP, VF⟩) ⟨by simp only; omega, by simp only; omega, hst9.later⟩ (by simp only; omega) ⟨rfl, rfl, rfl, rfl, rfl, rfl, rfl, trivial⟩ rfl (by simp only; rw [upd_same]; exact List.Perm.refl _)
                  · skip
                    refine XR.s rfl (wg rfl rfl rfl) rfl ?_
                    refine XR.s rfl (wg rfl rfl rfl) rfl ?_
                    refine XR.s rfl (wg rfl rfl rfl) rfl ?_
                    refine XR.s rfl (wg rfl rfl rfl) rfl ?_
                    refine XR.s rfl (wg rfl rfl rfl) rfl ?_
                    refine XR.s rfl (wg rfl rfl rfl) rfl ?_
                    refine XR.rd rfl (wg rfl rfl rfl) rfl (Reads.pick_false rfl rfl) ?_
                    refine XR.rd rfl rfl rfl (Reads.pick_false rfl rfl) ?_
                    refine XR.nil ?_
                    refine XQ.then_normal ?_
                    refine XC.cond rfl (fun hx => by cases hx) (fun _ => ?_)
                    refine XC.skip ?_
                    refine XQ.then_normal ?_
                    refine XC.exit ?_
                    refine XQ.then_exit ?_
                    refine XQ.block_out rfl ?_
                    refine XQ.then_exit ?_
                    refine XQ.then_exit ?_
                    refine XQ.block_exit ?_
                    refine XQ.then_normal ?_
                    refine XC.region ?_
                    refine XO.rd rfl rfl rfl (Reads.move rfl) ?_
                    refine XO.rd rfl rfl rfl (Reads.add rfl rfl (by omega)) ?_
                    refine XO.rd rfl rfl rfl (Reads.assign rfl) ?_
                    refine XO.nil ?_
                    refine XQ.dropn 1 ?_
                    refine XQ.perm (perm_take [6]) ?_
                    refine XQ.dropn 1 ?_
                    have hst9 : OnInv k ⟨x, h', G, S, T, ps, fr, VP, VF⟩ := ⟨hon, hE', hSv, hTv, hPv, hFv, hfew, hpool⟩
                    refine XQ.back (k + 1, ⟨x, h', G, S, T, ps, fr, VP, VF⟩) ⟨by simp only; omega, by simp only; omega, hst9.later⟩ (by simp only; omega) ⟨rfl, rfl, rfl, rfl, rfl, rfl, rfl, trivial⟩ rfl (by simp only; rw [upd_same]; exact List.Perm.refl _)
                · skip
                  simp only [cmpInt, bne_eq_false_iff_eq] at h20
                  have he1 : e1 = 0 := h20
                  subst he1
                  have hgen := in_gen hin1
                  rw [hon.sys.other n hn] at hgen
                  refine XC.skip ?_
                  refine XQ.then_normal ?_
                  refine XC.seq ?_
                  refine XC.seq ?_
                  refine XC.draw m_mixed none (.pure 0 (.pure 1 (.pure 2 (.pure 3 (.pure 4 (.pure 5 (.pure 6 (.pure 7 (.pure 8 (.pure 9 (.pure 10 (.pure 11 (.pure 12 (.pure 13 (.done))))))))))))))) _ (by kernel_rfl) (List.Sublist.refl _) ?_
                  refine XR.rd rfl rfl rfl (Reads.load_whole (c := P.cells.toArray) k24 z24 rfl (WholeAt.of 7 rfl) rfl) ?_
                  refine XR.rd rfl rfl rfl (Reads.move rfl) ?_
                  refine XR.rd rfl rfl rfl (Reads.move rfl) ?_
                  refine XR.rd rfl rfl rfl (Reads.index_slot (q := kk * 4) Tryd.underlying37 z24 rfl rfl (by omega) (vec_isSomes (k := kk * 4 + 0) hPv (pktC_at _ hkk 0 _ rfl)) (by omega)) ?_
                  refine XR.rd rfl rfl rfl (Reads.load_agg_vecs (V := VP) (vs := ps[kk].cells) k24 z24 rfl hPv (e := 24) (List.mem_of_getElem? (i := 14) rfl) (Nat.succ_pos _) (pktC_at _ hkk)) ?_
                  refine XR.rd rfl rfl rfl (Reads.pkt_ne (p := P) (q := ps[kk]) rfl rfl) ?_
                  refine XR.rd rfl rfl rfl (Reads.move rfl) ?_
                  refine XR.split (d := 131) rfl (fun h22 => ?_) (fun h22 => ?_)
                  · skip
                    simp only [Bool.not_eq_true', decide_eq_false_iff_not] at h22
                    have h4 : ¬ P = ps[kk] ∨ fr[kk] = n := .inl h22
                    refine XR.s rfl (wg rfl rfl rfl) rfl ?_
                    refine XR.s rfl (wg rfl rfl rfl) rfl ?_
                    refine XR.s rfl (wg rfl rfl rfl) rfl ?_
                    refine XR.s rfl (wg rfl rfl rfl) rfl ?_
                    refine XR.s rfl (wg rfl rfl rfl) rfl ?_
                    refine XR.s rfl (wg rfl rfl rfl) rfl ?_
                    refine XR.rd rfl rfl rfl (Reads.pick_true rfl rfl) ?_
                    refine XR.nil ?_
                    refine XQ.then_normal ?_
                    refine XC.cond rfl (fun _ => ?_) (fun hx => by cases hx)
                    refine XC.seq ?_
                    refine XC.draw m_mixed none (.pure 0 (.pure 1 (.pure 3 (.eff 2 (.eff 4 (.pure 5 (.done))))))) _ (by kernel_rfl) (List.Sublist.refl _) ?_
                    refine XR.rd rfl rfl rfl (Reads.move rfl) ?_
                    refine XR.rd rfl rfl rfl (Reads.sub rfl rfl (by omega)) ?_
                    rw [show (1 : Int) - (n : Int) = ((1 - n : Nat) : Int) by omega]
                    refine XR.rd rfl rfl rfl (Reads.load_whole (c := P.cells.toArray) k24 z24 rfl (WholeAt.of 7 rfl) rfl) ?_
                    refine XR.callp rfl rfl rfl en17 (key_any ((1 - n : Nat) : Int) _ (by omega)) ⟨rfl, trivial⟩ (List.Sublist.refl _) ?_
                    refine XR.call rfl rfl rfl en37 (hashed_any (keyB ((1 - n : Nat) : Int)) P _ hPin (by rw [keyB_size]; decide)) ⟨rfl, rfl, trivial⟩ (List.Sublist.refl _) ?_
                    rintro u Jh1 hleh1 ⟨ah1, rfl, hH1⟩
                    replace hI := Im.le_trans hI hleh1
                    replace hG := hG.mono hleh1
                    replace hY := hY.mono hleh1
                    replace hP := hP.mono hleh1
                    refine XR.rd rfl rfl rfl (Reads.assign rfl) ?_
                    refine XR.nil ?_
                    refine XQ.then_normal ?_
                    refine XC.seq ?_
                    refine XC.region ?_
                    refine XO.rd rfl rfl rfl (Reads.move rfl) ?_
                    refine XO.lit (α := ByteArray) keyS [.string ⟨#[101, 0]⟩, .string ⟨#[101, 1]⟩] [.string ⟨#[101, 0]⟩, .string ⟨#[101, 1]⟩] rfl rfl Tryd.underlying44 el9 rfl (by simp) ⟨rfl, rfl, rfl, rfl, trivial⟩ rfl rfl (by decide) rfl (flat_strs _ keyS) (fun bl J32 hle32 hs32 => ?_)
                    replace hI := Im.le_trans hI hle32
                    replace hG := hG.mono hle32
                    replace hY := hY.mono hle32
                    replace hP := hP.mono hle32
                    replace hH1 := hH1.mono hle32
                    have hK := hs32.arr.1
                    refine XO.callp rfl rfl en38 (rcoll_any _ _ 2 2 (hashF (keyB ((1 - n : Nat) : Int)) P) keyS _ hH1 hK (by show 2 ≤ 100000; decide) (by show 2 ≤ 100000; decide) (hashF_sizes (keyB_size _) hPin) (by intro x hx; simp only [keyS, List.mem_cons, List.not_mem_nil, or_false] at hx; rcases hx with rfl | rfl <;> decide)) ⟨rfl, rfl, trivial⟩ ?_
                    refine XO.rd rfl rfl rfl (Reads.assign rfl) ?_
                    refine XO.nil ?_
                    refine XQ.then_normal ?_
                    refine XC.seq ?_
                    refine XC.seq ?_
                    refine XC.region ?_
                    refine XO.rd rfl rfl rfl (Reads.assign rfl) ?_
                    refine XO.nil ?_
                    refine XQ.then_normal ?_
                    refine XC.block ?_
                    refine XC.loop (ι := Nat × Bool × Im) (fun q => [(9, VP.val), (10, VF.val), (12, .int .i64 n), (17, .pointer (some ⟨b17, 0, none⟩)), (20, .slice ah1 2 2), (21, .bool q.2.1), (22, .int .i64 q.1)]) (fun q => q.2.2) (fun q => (V3.ent 9 :: (twoL bk (upd x n y1) h' ++ (some (b17, .cells P.cells.toArray 24 (0, 0)) :: (avL b7 51 9 S ++ (avL b8 51 9 T ++ (VP.ent 24 :: (VF.ent 3 :: Lf)))))))) (fun q => J32.le q.2.2 ∧ q.1 ≤ ps.length ∧ (q.2.1 = false → collF (hashF (keyB ((1 - n : Nat) : Int)) P) keyS = false ∧ ∀ j, (hj : j < ps.length) → (hj' : j < fr.length) → j < q.1 → ¬ (ps[j] = P ∧ ¬ fr[j] = n) ∧ collF (hashF (keyB ((1 - n : Nat) : Int)) P) (hashF (keyB ((fr[j] : Nat) : Int)) ps[j]) = false)) (fun q => ps.length - q.1) (0, collF (hashF (keyB ((1 - n : Nat) : Int)) P) keyS, J32) ⟨Im.le_refl _, Nat.zero_le _, fun hx => ⟨hx, fun _ _ _ hz => absurd hz (Nat.not_lt_zero _)⟩⟩ ⟨rfl, rfl, rfl, rfl, rfl, rfl, rfl, trivial⟩ rfl (List.Perm.refl _) (fun q hq => ?_)
                    obtain ⟨m, b, J33⟩ := q
                    obtain ⟨hJle, hm1, hbf⟩ := hq
                    simp only at hJle hm1 hbf ⊢
                    replace hI := Im.le_trans hI hJle
                    replace hG := hG.mono hJle
                    replace hY := hY.mono hJle
                    replace hP := hP.mono hJle
                    replace hH1 := hH1.mono hJle
                    refine XC.seq ?_
                    refine XC.seq ?_
                    refine XC.region ?_
                    refine XO.rd rfl rfl rfl (Reads.move rfl) ?_
                    refine XO.rd rfl rfl rfl (Reads.move rfl) ?_
                    refine XO.rd rfl rfl rfl (Reads.len_slice Tryd.underlying37 rfl) ?_
                    refine XO.rd rfl rfl rfl (Reads.cmp rfl rfl rfl) ?_
                    refine XO.nil ?_
                    refine XQ.then_normal ?_
                    refine XC.cond rfl (fun h23 => ?_) (fun h23 => ?_)
                    · skip
                      simp only [cmpInt, decide_eq_true_eq] at h23
                      have hm3 : m < ps.length := by omega
                      have hmf : m < fr.length := by omega
                      have hsm := hon.pool m hm3 hmf
                      have hfm := hsm.form
                      have hms0 := hfm.s0
                      have hms1 := hfm.s1
                      have hma0 := hfm.a0
                      have hma1 := hfm.a1
                      have hmb := hfm.body
                      have hf2 := hsm.f2
                      have hmin : ps[m].In := ⟨by omega, by omega, by omega⟩
                      refine XC.skip ?_
                      refine XQ.then_normal ?_
                      refine XC.seq ?_
                      refine XC.block ?_
                      refine XC.draw m_mixed none (.pure 0 (.pure 1 (.pure 2 (.pure 3 (.pure 4 (.pure 5 (.pure 6 (.pure 7 (.pure 8 (.pure 9 (.pure 10 (.pure 11 (.pure 12 (.pure 13 (.pure 14 (.pure 15 (.pure 16 (.pure 17 (.pure 18 (.pure 19 (.pure 20 (.pure 21 (.pure 22 (.pure 24 (.pure 25 (.pure 26 (.pure 27 (.eff 23 (.eff 28 (.eff 29 (.pure 30 (.pure 31 (.done))))))))))))))))))))))))))))))))) _ (by kernel_rfl) (List.Sublist.refl _) ?_
                      refine XR.rd rfl rfl rfl (Reads.move rfl) ?_
                      refine XR.rd rfl rfl rfl (Reads.move rfl) ?_
                      refine XR.split (d := 154) rfl (fun h24 => ?_) (fun h24 => ?_)
                      · skip
                        refine XR.s rfl (wg rfl rfl rfl) rfl ?_
                        refine XR.s rfl (wg rfl rfl rfl) rfl ?_
                        refine XR.s rfl (wg rfl rfl rfl) rfl ?_
                        refine XR.s rfl (wg rfl rfl rfl) rfl ?_
                        refine XR.s rfl (wg rfl rfl rfl) rfl ?_
                        refine XR.s rfl (wg rfl rfl rfl) rfl ?_
                        refine XR.s rfl (wg rfl rfl rfl) rfl ?_
                        refine XR.s rfl (wgu rfl rfl) rfl ?_
                        refine XR.s rfl (wgu rfl rfl) rfl ?_
                        refine XR.s rfl (wgu rfl rfl) rfl ?_
                        refine XR.s rfl (wgu rfl rfl) rfl ?_
                        refine XR.s rfl (wgu rfl rfl) rfl ?_
                        refine XR.s rfl (wgu rfl rfl) rfl ?_
                        refine XR.s rfl (wg rfl rfl rfl) rfl ?_
                        refine XR.rd rfl rfl rfl (Reads.pick_true rfl rfl) ?_
                        refine XR.rd rfl rfl rfl (Reads.move rfl) ?_
                        refine XR.s rfl (wg rfl rfl rfl) rfl ?_
                        refine XR.s rfl (wg rfl rfl rfl) rfl ?_
                        refine XR.s rfl (wg rfl rfl rfl) rfl ?_
                        refine XR.s rfl (wg rfl rfl rfl) rfl ?_
                        refine XR.s rfl (wg rfl rfl rfl) rfl ?_
                        refine XR.s rfl (wg rfl rfl rfl) rfl ?_
                        refine XR.s rfl (wg rfl rfl rfl) rfl ?_
                        refine XR.s rfl (wg rfl rfl rfl) rfl ?_
                        refine XR.s rfl (wg rfl rfl rfl) rfl ?_
                        refine XR.se rfl (wg rfl rfl rfl) rfl (List.Sublist.refl _) ?_
                        refine XR.se rfl (wg rfl rfl rfl) rfl (List.Sublist.refl _) ?_
                        refine XR.se rfl (wg rfl rfl rfl) rfl (List.Sublist.refl _) ?_
                        refine XR.rd rfl rfl rfl (Reads.pick_true rfl rfl) ?_
                        refine XR.rd rfl rfl rfl (Reads.assign rfl) ?_
                        refine XR.nil ?_
                        refine XQ.block_normal ?_
                        refine XQ.then_normal ?_
                        refine XC.weaken (E' := [(9, _), (10, _), (12, _), (17, _), (20, _), (21, _), (22, _)]) ⟨rfl, rfl, rfl, rfl, rfl, rfl, rfl, trivial⟩ ?_
                        refine XC.region ?_
                        refine XO.rd rfl rfl rfl (Reads.move rfl) ?_
                        refine XO.rd rfl rfl rfl (Reads.add rfl rfl (by omega)) ?_
                        refine XO.rd rfl rfl rfl (Reads.assign rfl) ?_
                        refine XO.nil ?_
                        refine XQ.back (m + 1, true, _) ⟨hJle, by simp only; omega, fun hx => by cases hx⟩ (by simp only; omega) ⟨rfl, rfl, rfl, rfl, rfl, rfl, rfl, trivial⟩ rfl (List.Perm.refl _)
                      · skip
                        have hb0 := h24
                        refine XR.rd rfl (wg rfl rfl rfl) rfl (Reads.move rfl) ?_
                        refine XR.rd rfl (wg rfl rfl rfl) rfl (Reads.move rfl) ?_
                        refine XR.rd rfl (wg rfl rfl rfl) rfl (Reads.index_slot (q := m * 4) Tryd.underlying37 z24 rfl rfl (by omega) (vec_isSomes (k := m * 4 + 0) hPv (pktC_at _ hm3 0 _ rfl)) (by omega)) ?_
                        refine XR.rd rfl (wg rfl rfl rfl) rfl (Reads.load_agg_vecs (V := VP) (vs := ps[m].cells) k24 z24 rfl hPv (e := 24) (List.mem_of_getElem? (i := 14) rfl) (Nat.succ_pos _) (pktC_at _ hm3)) ?_
                        refine XR.rd rfl (wg rfl rfl rfl) rfl (Reads.load_whole (c := P.cells.toArray) k24 z24 rfl (WholeAt.of 7 rfl) rfl) ?_
                        refine XR.rd rfl (wg rfl rfl rfl) rfl (Reads.pkt_eq (p := ps[m]) (q := P) rfl rfl) ?_
                        refine XR.rd rfl (wg rfl rfl rfl) rfl (Reads.move rfl) ?_
                        refine XR.split (d := 161) rfl (fun h25 => ?_) (fun h25 => ?_)
                        · skip
                          simp only [decide_eq_true_eq] at h25
                          refine XR.rd rfl (wg rfl rfl rfl) rfl (Reads.move rfl) ?_
                          refine XR.rd rfl (wg rfl rfl rfl) rfl (Reads.move rfl) ?_
                          refine XR.rd rfl (wg rfl rfl rfl) rfl (Reads.index_slot (q := m) Tryd.underlying52 z3 rfl rfl (by omega) (vec_isSomes (k := m) hFv (intC_get hmf)) (by omega)) ?_
                          refine XR.rd rfl (wg rfl rfl rfl) rfl (Reads.load_vecs (V := VF) (k := m) (v := .int .i64 ((fr[m] : Nat) : Int)) k3 rfl hFv (e := 3) (List.mem_of_getElem? (i := 15) rfl) (intC_get hmf)) ?_
                          refine XR.rd rfl (wg rfl rfl rfl) rfl (Reads.move rfl) ?_
                          refine XR.rd rfl (wg rfl rfl rfl) rfl (Reads.cmp rfl rfl rfl) ?_
                          refine XR.rd rfl (wg rfl rfl rfl) rfl (Reads.pick_true rfl rfl) ?_
                          refine XR.rd rfl rfl rfl (Reads.pick_false rfl rfl) ?_
                          refine XR.rd rfl rfl rfl (Reads.move rfl) ?_
                          refine XR.split (d := 170) rfl (fun h26 => ?_) (fun h26 => ?_)
                          · skip
                            refine XR.s rfl (wg rfl rfl rfl) rfl ?_
                            refine XR.s rfl (wg rfl rfl rfl) rfl ?_
                            refine XR.s rfl (wg rfl rfl rfl) rfl ?_
                            refine XR.s rfl (wg rfl rfl rfl) rfl ?_
                            refine XR.s rfl (wg rfl rfl rfl) rfl ?_
                            refine XR.s rfl (wg rfl rfl rfl) rfl ?_
                            refine XR.s rfl (wg rfl rfl rfl) rfl ?_
                            refine XR.s rfl (wg rfl rfl rfl) rfl ?_
                            refine XR.s rfl (wg rfl rfl rfl) rfl ?_
                            refine XR.se rfl (wg rfl rfl rfl) rfl (List.Sublist.refl _) ?_
                            refine XR.se rfl (wg rfl rfl rfl) rfl (List.Sublist.refl _) ?_
                            refine XR.se rfl (wg rfl rfl rfl) rfl (List.Sublist.refl _) ?_
                            refine XR.rd rfl rfl rfl (Reads.pick_true rfl rfl) ?_
                            refine XR.rd rfl rfl rfl (Reads.assign rfl) ?_
                            refine XR.nil ?_
                            refine XQ.block_normal ?_
                            refine XQ.then_normal ?_
                            refine XC.weaken (E' := [(9, _), (10, _), (12, _), (17, _), (20, _), (21, _), (22, _)]) ⟨rfl, rfl, rfl, rfl, rfl, rfl, rfl, trivial⟩ ?_
                            refine XC.region ?_
                            refine XO.rd rfl rfl rfl (Reads.move rfl) ?_
                            refine XO.rd rfl rfl rfl (Reads.add rfl rfl (by omega)) ?_
                            refine XO.rd rfl rfl rfl (Reads.assign rfl) ?_
                            refine XO.nil ?_
                            refine XQ.back (m + 1, true, _) ⟨hJle, by simp only; omega, fun hx => by cases hx⟩ (by simp only; omega) ⟨rfl, rfl, rfl, rfl, rfl, rfl, rfl, trivial⟩ rfl (List.Perm.refl _)
                          · skip
                            simp only [cmpInt, bne_eq_false_iff_eq] at h26
                            have hfr : fr[m] = n := by omega
                            refine XR.rd rfl (wg rfl rfl rfl) rfl (Reads.move rfl) ?_
                            refine XR.rd rfl (wg rfl rfl rfl) rfl (Reads.move rfl) ?_
                            refine XR.rd rfl (wg rfl rfl rfl) rfl (Reads.move rfl) ?_
                            refine XR.rd rfl (wg rfl rfl rfl) rfl (Reads.index_slot (q := m) Tryd.underlying52 z3 rfl rfl (by omega) (vec_isSomes (k := m) hFv (intC_get hmf)) (by omega)) ?_
                            refine XR.rd rfl (wg rfl rfl rfl) rfl (Reads.load_vecs (V := VF) (k := m) (v := .int .i64 ((fr[m] : Nat) : Int)) k3 rfl hFv (e := 3) (List.mem_of_getElem? (i := 15) rfl) (intC_get hmf)) ?_
                            refine XR.rd rfl (wg rfl rfl rfl) rfl (Reads.move rfl) ?_
                            refine XR.rd rfl (wg rfl rfl rfl) rfl (Reads.move rfl) ?_
                            refine XR.rd rfl (wg rfl rfl rfl) rfl (Reads.index_slot (q := m * 4) Tryd.underlying37 z24 rfl rfl (by omega) (vec_isSomes (k := m * 4 + 0) hPv (pktC_at _ hm3 0 _ rfl)) (by omega)) ?_
                            refine XR.rd rfl (wg rfl rfl rfl) rfl (Reads.load_agg_vecs (V := VP) (vs := ps[m].cells) k24 z24 rfl hPv (e := 24) (List.mem_of_getElem? (i := 14) rfl) (Nat.succ_pos _) (pktC_at _ hm3)) ?_
                            refine XR.callp rfl (wg rfl rfl rfl) rfl en17 (key_any ((fr[m] : Nat) : Int) _ (by omega)) ⟨rfl, trivial⟩ (List.Sublist.refl _) ?_
                            refine XR.call rfl (wg rfl rfl rfl) rfl en37 (hashed_any (keyB ((fr[m] : Nat) : Int)) ps[m] _ hmin (by rw [keyB_size]; decide)) ⟨rfl, rfl, trivial⟩ (List.Sublist.refl _) ?_
                            rintro u Jh2 hleh2 ⟨ah2, rfl, hH2⟩
                            replace hI := Im.le_trans hI hleh2
                            replace hG := hG.mono hleh2
                            replace hY := hY.mono hleh2
                            replace hP := hP.mono hleh2
                            replace hH1 := hH1.mono hleh2
                            refine XR.callp rfl (wg rfl rfl rfl) rfl en38 (rcoll_any _ _ 2 2 (hashF (keyB ((1 - n : Nat) : Int)) P) (hashF (keyB ((fr[m] : Nat) : Int)) ps[m]) _ hH1 hH2 (by show 2 ≤ 100000; decide) (by show 2 ≤ 100000; decide) (hashF_sizes (keyB_size _) hPin) (hashF_sizes (keyB_size _) hmin)) ⟨rfl, rfl, trivial⟩ (List.Sublist.refl _) ?_
                            refine XR.rd rfl rfl rfl (Reads.pick_false rfl rfl) ?_
                            refine XR.rd rfl rfl rfl (Reads.assign rfl) ?_
                            refine XR.nil ?_
                            refine XQ.block_normal ?_
                            refine XQ.then_normal ?_
                            refine XC.weaken (E' := [(9, _), (10, _), (12, _), (17, _), (20, _), (21, _), (22, _)]) ⟨rfl, rfl, rfl, rfl, rfl, rfl, rfl, trivial⟩ ?_
                            refine XC.region ?_
                            refine XO.rd rfl rfl rfl (Reads.move rfl) ?_
                            refine XO.rd rfl rfl rfl (Reads.add rfl rfl (by omega)) ?_
                            refine XO.rd rfl rfl rfl (Reads.assign rfl) ?_
                            refine XO.nil ?_
                            refine XQ.back (m + 1, collF (hashF (keyB ((1 - n : Nat) : Int)) P) (hashF (keyB ((fr[m] : Nat) : Int)) ps[m]), _) ⟨Im.le_trans hJle hleh2, by simp only; omega, fun hx => ⟨(hbf hb0).1, fun j hj hj' hjm => ?_⟩⟩ (by simp only; omega) ⟨rfl, rfl, rfl, rfl, rfl, rfl, rfl, trivial⟩ rfl (List.Perm.refl _)
                            rcases Nat.lt_succ_iff_lt_or_eq.1 hjm with h9 | rfl
                            · exact (hbf hb0).2 j hj hj' h9
                            · exact ⟨by rintro ⟨g1, g2⟩; first | exact g2 (by omega) | exact absurd g1 (by assumption), hx⟩
                        · skip
                          simp only [decide_eq_false_iff_not] at h25
                          refine XR.s rfl (wg rfl rfl rfl) rfl ?_
                          refine XR.s rfl (wg rfl rfl rfl) rfl ?_
                          refine XR.s rfl (wg rfl rfl rfl) rfl ?_
                          refine XR.s rfl (wg rfl rfl rfl) rfl ?_
                          refine XR.s rfl (wg rfl rfl rfl) rfl ?_
                          refine XR.s rfl (wg rfl rfl rfl) rfl ?_
                          refine XR.rd rfl (wg rfl rfl rfl) rfl (Reads.pick_false rfl rfl) ?_
                          refine XR.rd rfl rfl rfl (Reads.pick_false rfl rfl) ?_
                          refine XR.rd rfl rfl rfl (Reads.move rfl) ?_
                          refine XR.rd rfl (wg rfl rfl rfl) rfl (Reads.move rfl) ?_
                          refine XR.rd rfl (wg rfl rfl rfl) rfl (Reads.move rfl) ?_
                          refine XR.rd rfl (wg rfl rfl rfl) rfl (Reads.move rfl) ?_
                          refine XR.rd rfl (wg rfl rfl rfl) rfl (Reads.index_slot (q := m) Tryd.underlying52 z3 rfl rfl (by omega) (vec_isSomes (k := m) hFv (intC_get hmf)) (by omega)) ?_
                          refine XR.rd rfl (wg rfl rfl rfl) rfl (Reads.load_vecs (V := VF) (k := m) (v := .int .i64 ((fr[m] : Nat) : Int)) k3 rfl hFv (e := 3) (List.mem_of_getElem? (i := 15) rfl) (intC_get hmf)) ?_
                          refine XR.rd rfl (wg rfl rfl rfl) rfl (Reads.move rfl) ?_
                          refine XR.rd rfl (wg rfl rfl rfl) rfl (Reads.move rfl) ?_
                          refine XR.rd rfl (wg rfl rfl rfl) rfl (Reads.index_slot (q := m * 4) Tryd.underlying37 z24 rfl rfl (by omega) (vec_isSomes (k := m * 4 + 0) hPv (pktC_at _ hm3 0 _ rfl)) (by omega)) ?_
                          refine XR.rd rfl (wg rfl rfl rfl) rfl (Reads.load_agg_vecs (V := VP) (vs := ps[m].cells) k24 z24 rfl hPv (e := 24) (List.mem_of_getElem? (i := 14) rfl) (Nat.succ_pos _) (pktC_at _ hm3)) ?_
                          refine XR.callp rfl (wg rfl rfl rfl) rfl en17 (key_any ((fr[m] : Nat) : Int) _ (by omega)) ⟨rfl, trivial⟩ (List.Sublist.refl _) ?_
                          refine XR.call rfl (wg rfl rfl rfl) rfl en37 (hashed_any (keyB ((fr[m] : Nat) : Int)) ps[m] _ hmin (by rw [keyB_size]; decide)) ⟨rfl, rfl, trivial⟩ (List.Sublist.refl _) ?_
                          rintro u Jh2 hleh2 ⟨ah2, rfl, hH2⟩
                          replace hI := Im.le_trans hI hleh2
                          replace hG := hG.mono hleh2
                          replace hY := hY.mono hleh2
                          replace hP := hP.mono hleh2
                          replace hH1 := hH1.mono hleh2
                          refine XR.callp rfl (wg rfl rfl rfl) rfl en38 (rcoll_any _ _ 2 2 (hashF (keyB ((1 - n : Nat) : Int)) P) (hashF (keyB ((fr[m] : Nat) : Int)) ps[m]) _ hH1 hH2 (by show 2 ≤ 100000; decide) (by show 2 ≤ 100000; decide) (hashF_sizes (keyB_size _) hPin) (hashF_sizes (keyB_size _) hmin)) ⟨rfl, rfl, trivial⟩ (List.Sublist.refl _) ?_
                          refine XR.rd rfl rfl rfl (Reads.pick_false rfl rfl) ?_
                          refine XR.rd rfl rfl rfl (Reads.assign rfl) ?_
                          refine XR.nil ?_
                          refine XQ.block_normal ?_
                          refine XQ.then_normal ?_
                          refine XC.weaken (E' := [(9, _), (10, _), (12, _), (17, _), (20, _), (21, _), (22, _)]) ⟨rfl, rfl, rfl, rfl, rfl, rfl, rfl, trivial⟩ ?_
                          refine XC.region ?_
                          refine XO.rd rfl rfl rfl (Reads.move rfl) ?_
                          refine XO.rd rfl rfl rfl (Reads.add rfl rfl (by omega)) ?_
                          refine XO.rd rfl rfl rfl (Reads.assign rfl) ?_
                          refine XO.nil ?_
                          refine XQ.back (m + 1, collF (hashF (keyB ((1 - n : Nat) : Int)) P) (hashF (keyB ((fr[m] : Nat) : Int)) ps[m]), _) ⟨Im.le_trans hJle hleh2, by simp only; omega, fun hx => ⟨(hbf hb0).1, fun j hj hj' hjm => ?_⟩⟩ (by simp only; omega) ⟨rfl, rfl, rfl, rfl, rfl, rfl, rfl, trivial⟩ rfl (List.Perm.refl _)
                          rcases Nat.lt_succ_iff_lt_or_eq.1 hjm with h9 | rfl
                          · exact (hbf hb0).2 j hj hj' h9
                          · exact ⟨by rintro ⟨g1, g2⟩; first | exact g2 (by omega) | exact absurd g1 (by assumption), hx⟩
                    · skip
                      simp only [cmpInt, decide_eq_false_iff_not] at h23
                      have hbt : b = true := found_true hn hkk hkf hsk hgen hPsl h4 (fun hb0 => ⟨(hbf hb0).1, fun j hj hj' => (hbf hb0).2 j hj hj' (by omega)⟩)
                      refine XC.exit ?_
                      refine XQ.then_exit ?_
                      refine XQ.then_exit ?_
                      refine XQ.block_exit ?_
                      refine XQ.then_normal ?_
                      refine XC.seq ?_
                      refine XC.region ?_
                      refine XO.rd rfl rfl rfl (Reads.move rfl) ?_
                      refine XO.rd rfl rfl rfl (Reads.assign rfl) ?_
                      refine XO.nil ?_
                      refine XQ.then_normal ?_
                      refine XC.ret ?_
                      refine XQ.then_ret ?_
                      refine XQ.block_ret ?_
                      refine XQ.then_ret ?_
                      refine XQ.then_ret ?_
                      refine XQ.block_ret ?_
                      refine XQ.then_ret ?_
                      refine XQ.then_ret ?_
                      refine XQ.block_ret ?_
                      refine XQ.then_ret ?_
                      first | (refine XQ.dropn 16 ?_; refine XQ.done1 (L := []) rfl rfl hI ?_; exact ⟨rfl, congrArg Value.bool hbt⟩) | (refine XQ.dropn 14 ?_; refine XQ.done1 (L := []) rfl rfl hI ?_; exact ⟨rfl, rfl⟩)
                  · skip
                    simp only [Bool.not_eq_false', decide_eq_true_eq] at h22
                    have hPe := h22
                    refine XR.rd rfl (wg rfl rfl rfl) rfl (Reads.move rfl) ?_
                    refine XR.rd rfl (wg rfl rfl rfl) rfl (Reads.move rfl) ?_
                    refine XR.rd rfl (wg rfl rfl rfl) rfl (Reads.index_slot (q := kk) Tryd.underlying52 z3 rfl rfl (by omega) (vec_isSomes (k := kk) hFv (intC_get hkf)) (by omega)) ?_
                    refine XR.rd rfl (wg rfl rfl rfl) rfl (Reads.load_vecs (V := VF) (k := kk) (v := .int .i64 ((fr[kk] : Nat) : Int)) k3 rfl hFv (e := 3) (List.mem_of_getElem? (i := 15) rfl) (intC_get hkf)) ?_
                    refine XR.rd rfl (wg rfl rfl rfl) rfl (Reads.move rfl) ?_
                    refine XR.rd rfl (wg rfl rfl rfl) rfl (Reads.cmp rfl rfl rfl) ?_
                    refine XR.rd rfl rfl rfl (Reads.pick_false rfl rfl) ?_
                    refine XR.nil ?_
                    refine XQ.then_normal ?_
                    refine XC.cond rfl (fun h27 => ?_) (fun h27 => ?_)
                    · skip
                      simp only [cmpInt, beq_iff_eq] at h27
                      have h4 : ¬ P = ps[kk] ∨ fr[kk] = n := .inr (by omega)
                      refine XC.seq ?_
                      refine XC.draw m_mixed none (.pure 0 (.pure 1 (.pure 3 (.eff 2 (.eff 4 (.pure 5 (.done))))))) _ (by kernel_rfl) (List.Sublist.refl _) ?_
                      refine XR.rd rfl rfl rfl (Reads.move rfl) ?_
                      refine XR.rd rfl rfl rfl (Reads.sub rfl rfl (by omega)) ?_
                      rw [show (1 : Int) - (n : Int) = ((1 - n : Nat) : Int) by omega]
                      refine XR.rd rfl rfl rfl (Reads.load_whole (c := P.cells.toArray) k24 z24 rfl (WholeAt.of 7 rfl) rfl) ?_
                      refine XR.callp rfl rfl rfl en17 (key_any ((1 - n : Nat) : Int) _ (by omega)) ⟨rfl, trivial⟩ (List.Sublist.refl _) ?_
                      refine XR.call rfl rfl rfl en37 (hashed_any (keyB ((1 - n : Nat) : Int)) P _ hPin (by rw [keyB_size]; decide)) ⟨rfl, rfl, trivial⟩ (List.Sublist.refl _) ?_
                      rintro u Jh1 hleh1 ⟨ah1, rfl, hH1⟩
                      replace hI := Im.le_trans hI hleh1
                      replace hG := hG.mono hleh1
                      replace hY := hY.mono hleh1
                      replace hP := hP.mono hleh1
                      refine XR.rd rfl rfl rfl (Reads.assign rfl) ?_
                      refine XR.nil ?_
                      refine XQ.then_normal ?_
                      refine XC.seq ?_
                      refine XC.region ?_
                      refine XO.rd rfl rfl rfl (Reads.move rfl) ?_
                      refine XO.lit (α := ByteArray) keyS [.string ⟨#[101, 0]⟩, .string ⟨#[101, 1]⟩] [.string ⟨#[101, 0]⟩, .string ⟨#[101, 1]⟩] rfl rfl Tryd.underlying44 el9 rfl (by simp) ⟨rfl, rfl, rfl, rfl, trivial⟩ rfl rfl (by decide) rfl (flat_strs _ keyS) (fun bl J32 hle32 hs32 => ?_)
                      replace hI := Im.le_trans hI hle32
                      replace hG := hG.mono hle32
                      replace hY := hY.mono hle32
                      replace hP := hP.mono hle32
                      replace hH1 := hH1.mono hle32
                      have hK := hs32.arr.1
                      refine XO.callp rfl rfl en38 (rcoll_any _ _ 2 2 (hashF (keyB ((1 - n : Nat) : Int)) P) keyS _ hH1 hK (by show 2 ≤ 100000; decide) (by show 2 ≤ 100000; decide) (hashF_sizes (keyB_size _) hPin) (by intro x hx; simp only [keyS, List.mem_cons, List.not_mem_nil, or_false] at hx; rcases hx with rfl | rfl <;> decide)) ⟨rfl, rfl, trivial⟩ ?_
                      refine XO.rd rfl rfl rfl (Reads.assign rfl) ?_
                      refine XO.nil ?_
                      refine XQ.then_normal ?_
                      refine XC.seq ?_
                      refine XC.seq ?_
                      refine XC.region ?_
                      refine XO.rd rfl rfl rfl (Reads.assign rfl) ?_
                      refine XO.nil ?_
                      refine XQ.then_normal ?_
                      refine XC.block ?_
                      refine XC.loop (ι := Nat × Bool × Im) (fun q => [(9, VP.val), (10, VF.val), (12, .int .i64 n), (17, .pointer (some ⟨b17, 0, none⟩)), (20, .slice ah1 2 2), (21, .bool q.2.1), (22, .int .i64 q.1)]) (fun q => q.2.2) (fun q => (V3.ent 9 :: (twoL bk (upd x n y1) h' ++ (some (b17, .cells P.cells.toArray 24 (0, 0)) :: (avL b7 51 9 S ++ (avL b8 51 9 T ++ (VP.ent 24 :: (VF.ent 3 :: Lf)))))))) (fun q => J32.le q.2.2 ∧ q.1 ≤ ps.length ∧ (q.2.1 = false → collF (hashF (keyB ((1 - n : Nat) : Int)) P) keyS = false ∧ ∀ j, (hj : j < ps.length) → (hj' : j < fr.length) → j < q.1 → ¬ (ps[j] = P ∧ ¬ fr[j] = n) ∧ collF (hashF (keyB ((1 - n : Nat) : Int)) P) (hashF (keyB ((fr[j] : Nat) : Int)) ps[j]) = false)) (fun q => ps.length - q.1) (0, collF (hashF (keyB ((1 - n : Nat) : Int)) P) keyS, J32) ⟨Im.le_refl _, Nat.zero_le _, fun hx => ⟨hx, fun _ _ _ hz => absurd hz (Nat.not_lt_zero _)⟩⟩ ⟨rfl, rfl, rfl, rfl, rfl, rfl, rfl, trivial⟩ rfl (List.Perm.refl _) (fun q hq => ?_)
                      obtain ⟨m, b, J33⟩ := q
                      obtain ⟨hJle, hm1, hbf⟩ := hq
                      simp only at hJle hm1 hbf ⊢
                      replace hI := Im.le_trans hI hJle
                      replace hG := hG.mono hJle
                      replace hY := hY.mono hJle
                      replace hP := hP.mono hJle
                      replace hH1 := hH1.mono hJle
                      refine XC.seq ?_
                      refine XC.seq ?_
                      refine XC.region ?_
                      refine XO.rd rfl rfl rfl (Reads.move rfl) ?_
                      refine XO.rd rfl rfl rfl (Reads.move rfl) ?_
                      refine XO.rd rfl rfl rfl (Reads.len_slice Tryd.underlying37 rfl) ?_
                      refine XO.rd rfl rfl rfl (Reads.cmp rfl rfl rfl) ?_
                      refine XO.nil ?_
                      refine XQ.then_normal ?_
                      refine XC.cond rfl (fun h28 => ?_) (fun h28 => ?_)
                      · skip
                        simp only [cmpInt, decide_eq_true_eq] at h28
                        have hm3 : m < ps.length := by omega
                        have hmf : m < fr.length := by omega
                        have hsm := hon.pool m hm3 hmf
                        have hfm := hsm.form
                        have hms0 := hfm.s0
                        have hms1 := hfm.s1
                        have hma0 := hfm.a0
                        have hma1 := hfm.a1
                        have hmb := hfm.body
                        have hf2 := hsm.f2
                        have hmin : ps[m].In := ⟨by omega, by omega, by omega⟩
                        refine XC.skip ?_
                        refine XQ.then_normal ?_
                        refine XC.seq ?_
                        refine XC.block ?_
                        refine XC.draw m_mixed none (.pure 0 (.pure 1 (.pure 2 (.pure 3 (.pure 4 (.pure 5 (.pure 6 (.pure 7 (.pure 8 (.pure 9 (.pure 10 (.pure 11 (.pure 12 (.pure 13 (.pure 14 (.pure 15 (.pure 16 (.pure 17 (.pure 18 (.pure 19 (.pure 20 (.pure 21 (.pure 22 (.pure 24 (.pure 25 (.pure 26 (.pure 27 (.eff 23 (.eff 28 (.eff 29 (.pure 30 (.pure 31 (.done))))))))))))))))))))))))))))))))) _ (by kernel_rfl) (List.Sublist.refl _) ?_
                        refine XR.rd rfl rfl rfl (Reads.move rfl) ?_
                        refine XR.rd rfl rfl rfl (Reads.move rfl) ?_
                        refine XR.split (d := 154) rfl (fun h29 => ?_) (fun h29 => ?_)
                        · skip
                          refine XR.s rfl (wg rfl rfl rfl) rfl ?_
                          refine XR.s rfl (wg rfl rfl rfl) rfl ?_
                          refine XR.s rfl (wg rfl rfl rfl) rfl ?_
                          refine XR.s rfl (wg rfl rfl rfl) rfl ?_
                          refine XR.s rfl (wg rfl rfl rfl) rfl ?_
                          refine XR.s rfl (wg rfl rfl rfl) rfl ?_
                          refine XR.s rfl (wg rfl rfl rfl) rfl ?_
                          refine XR.s rfl (wgu rfl rfl) rfl ?_
                          refine XR.s rfl (wgu rfl rfl) rfl ?_
                          refine XR.s rfl (wgu rfl rfl) rfl ?_
                          refine XR.s rfl (wgu rfl rfl) rfl ?_
                          refine XR.s rfl (wgu rfl rfl) rfl ?_
                          refine XR.s rfl (wgu rfl rfl) rfl ?_
                          refine XR.s rfl (wg rfl rfl rfl) rfl ?_
                          refine XR.rd rfl rfl rfl (Reads.pick_true rfl rfl) ?_
                          refine XR.rd rfl rfl rfl (Reads.move rfl) ?_
                          refine XR.s rfl (wg rfl rfl rfl) rfl ?_
                          refine XR.s rfl (wg rfl rfl rfl) rfl ?_
                          refine XR.s rfl (wg rfl rfl rfl) rfl ?_
                          refine XR.s rfl (wg rfl rfl rfl) rfl ?_
                          refine XR.s rfl (wg rfl rfl rfl) rfl ?_
                          refine XR.s rfl (wg rfl rfl rfl) rfl ?_
                          refine XR.s rfl (wg rfl rfl rfl) rfl ?_
                          refine XR.s rfl (wg rfl rfl rfl) rfl ?_
                          refine XR.s rfl (wg rfl rfl rfl) rfl ?_
                          refine XR.se rfl (wg rfl rfl rfl) rfl (List.Sublist.refl _) ?_
                          refine XR.se rfl (wg rfl rfl rfl) rfl (List.Sublist.refl _) ?_
                          refine XR.se rfl (wg rfl rfl rfl) rfl (List.Sublist.refl _) ?_
                          refine XR.rd rfl rfl rfl (Reads.pick_true rfl rfl) ?_
                          refine XR.rd rfl rfl rfl (Reads.assign rfl) ?_
                          refine XR.nil ?_
                          refine XQ.block_normal ?_
                          refine XQ.then_normal ?_
                          refine XC.weaken (E' := [(9, _), (10, _), (12, _), (17, _), (20, _), (21, _), (22, _)]) ⟨rfl, rfl, rfl, rfl, rfl, rfl, rfl, trivial⟩ ?_
                          refine XC.region ?_
                          refine XO.rd rfl rfl rfl (Reads.move rfl) ?_
                          refine XO.rd rfl rfl rfl (Reads.add rfl rfl (by omega)) ?_
                          refine XO.rd rfl rfl rfl (Reads.assign rfl) ?_
                          refine XO.nil ?_
                          refine XQ.back (m + 1, true, _) ⟨hJle, by simp only; omega, fun hx => by cases hx⟩ (by simp only; omega) ⟨rfl, rfl, rfl, rfl, rfl, rfl, rfl, trivial⟩ rfl (List.Perm.refl _)
                        · skip
                          have hb0 := h29
                          refine XR.rd rfl (wg rfl rfl rfl) rfl (Reads.move rfl) ?_
                          refine XR.rd rfl (wg rfl rfl rfl) rfl (Reads.move rfl) ?_
                          refine XR.rd rfl (wg rfl rfl rfl) rfl (Reads.index_slot (q := m * 4) Tryd.underlying37 z24 rfl rfl (by omega) (vec_isSomes (k := m * 4 + 0) hPv (pktC_at _ hm3 0 _ rfl)) (by omega)) ?_
                          refine XR.rd rfl (wg rfl rfl rfl) rfl (Reads.load_agg_vecs (V := VP) (vs := ps[m].cells) k24 z24 rfl hPv (e := 24) (List.mem_of_getElem? (i := 14) rfl) (Nat.succ_pos _) (pktC_at _ hm3)) ?_
                          refine XR.rd rfl (wg rfl rfl rfl) rfl (Reads.load_whole (c := P.cells.toArray) k24 z24 rfl (WholeAt.of 7 rfl) rfl) ?_
                          refine XR.rd rfl (wg rfl rfl rfl) rfl (Reads.pkt_eq (p := ps[m]) (q := P) rfl rfl) ?_
                          refine XR.rd rfl (wg rfl rfl rfl) rfl (Reads.move rfl) ?_
                          refine XR.split (d := 161) rfl (fun h30 => ?_) (fun h30 => ?_)
                          · skip
                            simp only [decide_eq_true_eq] at h30
                            refine XR.rd rfl (wg rfl rfl rfl) rfl (Reads.move rfl) ?_
                            refine XR.rd rfl (wg rfl rfl rfl) rfl (Reads.move rfl) ?_
                            refine XR.rd rfl (wg rfl rfl rfl) rfl (Reads.index_slot (q := m) Tryd.underlying52 z3 rfl rfl (by omega) (vec_isSomes (k := m) hFv (intC_get hmf)) (by omega)) ?_
                            refine XR.rd rfl (wg rfl rfl rfl) rfl (Reads.load_vecs (V := VF) (k := m) (v := .int .i64 ((fr[m] : Nat) : Int)) k3 rfl hFv (e := 3) (List.mem_of_getElem? (i := 15) rfl) (intC_get hmf)) ?_
                            refine XR.rd rfl (wg rfl rfl rfl) rfl (Reads.move rfl) ?_
                            refine XR.rd rfl (wg rfl rfl rfl) rfl (Reads.cmp rfl rfl rfl) ?_
                            refine XR.rd rfl (wg rfl rfl rfl) rfl (Reads.pick_true rfl rfl) ?_
                            refine XR.rd rfl rfl rfl (Reads.pick_false rfl rfl) ?_
                            refine XR.rd rfl rfl rfl (Reads.move rfl) ?_
                            refine XR.split (d := 170) rfl (fun h31 => ?_) (fun h31 => ?_)
                            · skip
                              refine XR.s rfl (wg rfl rfl rfl) rfl ?_
                              refine XR.s rfl (wg rfl rfl rfl) rfl ?_
                              refine XR.s rfl (wg rfl rfl rfl) rfl ?_
                              refine XR.s rfl (wg rfl rfl rfl) rfl ?_
                              refine XR.s rfl (wg rfl rfl rfl) rfl ?_
                              refine XR.s rfl (wg rfl rfl rfl) rfl ?_
                              refine XR.s rfl (wg rfl rfl rfl) rfl ?_
                              refine XR.s rfl (wg rfl rfl rfl) rfl ?_
                              refine XR.s rfl (wg rfl rfl rfl) rfl ?_
                              refine XR.se rfl (wg rfl rfl rfl) rfl (List.Sublist.refl _) ?_
                              refine XR.se rfl (wg rfl rfl rfl) rfl (List.Sublist.refl _) ?_
                              refine XR.se rfl (wg rfl rfl rfl) rfl (List.Sublist.refl _) ?_
                              refine XR.rd rfl rfl rfl (Reads.pick_true rfl rfl) ?_
                              refine XR.rd rfl rfl rfl (Reads.assign rfl) ?_
                              refine XR.nil ?_
                              refine XQ.block_normal ?_
                              refine XQ.then_normal ?_
                              refine XC.weaken (E' := [(9, _), (10, _), (12, _), (17, _), (20, _), (21, _), (22, _)]) ⟨rfl, rfl, rfl, rfl, rfl, rfl, rfl, trivial⟩ ?_
                              refine XC.region ?_
                              refine XO.rd rfl rfl rfl (Reads.move rfl) ?_
                              refine XO.rd rfl rfl rfl (Reads.add rfl rfl (by omega)) ?_
                              refine XO.rd rfl rfl rfl (Reads.assign rfl) ?_
                              refine XO.nil ?_
                              refine XQ.back (m + 1, true, _) ⟨hJle, by simp only; omega, fun hx => by cases hx⟩ (by simp only; omega) ⟨rfl, rfl, rfl, rfl, rfl, rfl, rfl, trivial⟩ rfl (List.Perm.refl _)
                            · skip
                              simp only [cmpInt, bne_eq_false_iff_eq] at h31
                              have hfr : fr[m] = n := by omega
                              refine XR.rd rfl (wg rfl rfl rfl) rfl (Reads.move rfl) ?_
                              refine XR.rd rfl (wg rfl rfl rfl) rfl (Reads.move rfl) ?_
                              refine XR.rd rfl (wg rfl rfl rfl) rfl (Reads.move rfl) ?_
                              refine XR.rd rfl (wg rfl rfl rfl) rfl (Reads.index_slot (q := m) Tryd.underlying52 z3 rfl rfl (by omega) (vec_isSomes (k := m) hFv (intC_get hmf)) (by omega)) ?_
                              refine XR.rd rfl (wg rfl rfl rfl) rfl (Reads.load_vecs (V := VF) (k := m) (v := .int .i64 ((fr[m] : Nat) : Int)) k3 rfl hFv (e := 3) (List.mem_of_getElem? (i := 15) rfl) (intC_get hmf)) ?_
                              refine XR.rd rfl (wg rfl rfl rfl) rfl (Reads.move rfl) ?_
                              refine XR.rd rfl (wg rfl rfl rfl) rfl (Reads.move rfl) ?_
                              refine XR.rd rfl (wg rfl rfl rfl) rfl (Reads.index_slot (q := m * 4) Tryd.underlying37 z24 rfl rfl (by omega) (vec_isSomes (k := m * 4 + 0) hPv (pktC_at _ hm3 0 _ rfl)) (by omega)) ?_
                              refine XR.rd rfl (wg rfl rfl rfl) rfl (Reads.load_agg_vecs (V := VP) (vs := ps[m].cells) k24 z24 rfl hPv (e := 24) (List.mem_of_getElem? (i := 14) rfl) (Nat.succ_pos _) (pktC_at _ hm3)) ?_
                              refine XR.callp rfl (wg rfl rfl rfl) rfl en17 (key_any ((fr[m] : Nat) : Int) _ (by omega)) ⟨rfl, trivial⟩ (List.Sublist.refl _) ?_
                              refine XR.call rfl (wg rfl rfl rfl) rfl en37 (hashed_any (keyB ((fr[m] : Nat) : Int)) ps[m] _ hmin (by rw [keyB_size]; decide)) ⟨rfl, rfl, trivial⟩ (List.Sublist.refl _) ?_
                              rintro u Jh2 hleh2 ⟨ah2, rfl, hH2⟩
                              replace hI := Im.le_trans hI hleh2
                              replace hG := hG.mono hleh2
                              replace hY := hY.mono hleh2
                              replace hP := hP.mono hleh2
                              replace hH1 := hH1.mono hleh2
                              refine XR.callp rfl (wg rfl rfl rfl) rfl en38 (rcoll_any _ _ 2 2 (hashF (keyB ((1 - n : Nat) : Int)) P) (hashF (keyB ((fr[m] : Nat) : Int)) ps[m]) _ hH1 hH2 (by show 2 ≤ 100000; decide) (by show 2 ≤ 100000; decide) (hashF_sizes (keyB_size _) hPin) (hashF_sizes (keyB_size _) hmin)) ⟨rfl, rfl, trivial⟩ (List.Sublist.refl _) ?_
                              refine XR.rd rfl rfl rfl (Reads.pick_false rfl rfl) ?_
                              refine XR.rd rfl rfl rfl (Reads.assign rfl) ?_
                              refine XR.nil ?_
                              refine XQ.block_normal ?_
                              refine XQ.then_normal ?_
                              refine XC.weaken (E' := [(9, _), (10, _), (12, _), (17, _), (20, _), (21, _), (22, _)]) ⟨rfl, rfl, rfl, rfl, rfl, rfl, rfl, trivial⟩ ?_
                              refine XC.region ?_
                              refine XO.rd rfl rfl rfl (Reads.move rfl) ?_
                              refine XO.rd rfl rfl rfl (Reads.add rfl rfl (by omega)) ?_
                              refine XO.rd rfl rfl rfl (Reads.assign rfl) ?_
                              refine XO.nil ?_
                              refine XQ.back (m + 1, collF (hashF (keyB ((1 - n : Nat) : Int)) P) (hashF (keyB ((fr[m] : Nat) : Int)) ps[m]), _) ⟨Im.le_trans hJle hleh2, by simp only; omega, fun hx => ⟨(hbf hb0).1, fun j hj hj' hjm => ?_⟩⟩ (by simp only; omega) ⟨rfl, rfl, rfl, rfl, rfl, rfl, rfl, trivial⟩ rfl (List.Perm.refl _)
                              rcases Nat.lt_succ_iff_lt_or_eq.1 hjm with h9 | rfl
                              · exact (hbf hb0).2 j hj hj' h9
                              · exact ⟨by rintro ⟨g1, g2⟩; first | exact g2 (by omega) | exact absurd g1 (by assumption), hx⟩
                          · skip
                            simp only [decide_eq_false_iff_not] at h30
                            refine XR.s rfl (wg rfl rfl rfl) rfl ?_
                            refine XR.s rfl (wg rfl rfl rfl) rfl ?_
                            refine XR.s rfl (wg rfl rfl rfl) rfl ?_
                            refine XR.s rfl (wg rfl rfl rfl) rfl ?_
                            refine XR.s rfl (wg rfl rfl rfl) rfl ?_
                            refine XR.s rfl (wg rfl rfl rfl) rfl ?_
                            refine XR.rd rfl (wg rfl rfl rfl) rfl (Reads.pick_false rfl rfl) ?_
                            refine XR.rd rfl rfl rfl (Reads.pick_false rfl rfl) ?_
                            refine XR.rd rfl rfl rfl (Reads.move rfl) ?_
                            refine XR.rd rfl (wg rfl rfl rfl) rfl (Reads.move rfl) ?_
                            refine XR.rd rfl (wg rfl rfl rfl) rfl (Reads.move rfl) ?_
                            refine XR.rd rfl (wg rfl rfl rfl) rfl (Reads.move rfl) ?_
                            refine XR.rd rfl (wg rfl rfl rfl) rfl (Reads.index_slot (q := m) Tryd.underlying52 z3 rfl rfl (by omega) (vec_isSomes (k := m) hFv (intC_get hmf)) (by omega)) ?_
                            refine XR.rd rfl (wg rfl rfl rfl) rfl (Reads.load_vecs (V := VF) (k := m) (v := .int .i64 ((fr[m] : Nat) : Int)) k3 rfl hFv (e := 3) (List.mem_of_getElem? (i := 15) rfl) (intC_get hmf)) ?_
                            refine XR.rd rfl (wg rfl rfl rfl) rfl (Reads.move rfl) ?_
                            refine XR.rd rfl (wg rfl rfl rfl) rfl (Reads.move rfl) ?_
                            refine XR.rd rfl (wg rfl rfl rfl) rfl (Reads.index_slot (q := m * 4) Tryd.underlying37 z24 rfl rfl (by omega) (vec_isSomes (k := m * 4 + 0) hPv (pktC_at _ hm3 0 _ rfl)) (by omega)) ?_
                            refine XR.rd rfl (wg rfl rfl rfl) rfl (Reads.load_agg_vecs (V := VP) (vs := ps[m].cells) k24 z24 rfl hPv (e := 24) (List.mem_of_getElem? (i := 14) rfl) (Nat.succ_pos _) (pktC_at _ hm3)) ?_
                            refine XR.callp rfl (wg rfl rfl rfl) rfl en17 (key_any ((fr[m] : Nat) : Int) _ (by omega)) ⟨rfl, trivial⟩ (List.Sublist.refl _) ?_
                            refine XR.call rfl (wg rfl rfl rfl) rfl en37 (hashed_any (keyB ((fr[m] : Nat) : Int)) ps[m] _ hmin (by rw [keyB_size]; decide)) ⟨rfl, rfl, trivial⟩ (List.Sublist.refl _) ?_
                            rintro u Jh2 hleh2 ⟨ah2, rfl, hH2⟩
                            replace hI := Im.le_trans hI hleh2
                            replace hG := hG.mono hleh2
                            replace hY := hY.mono hleh2
                            replace hP := hP.mono hleh2
                            replace hH1 := hH1.mono hleh2
                            refine XR.callp rfl (wg rfl rfl rfl) rfl en38 (rcoll_any _ _ 2 2 (hashF (keyB ((1 - n : Nat) : Int)) P) (hashF (keyB ((fr[m] : Nat) : Int)) ps[m]) _ hH1 hH2 (by show 2 ≤ 100000; decide) (by show 2 ≤ 100000; decide) (hashF_sizes (keyB_size _) hPin) (hashF_sizes (keyB_size _) hmin)) ⟨rfl, rfl, trivial⟩ (List.Sublist.refl _) ?_
                            refine XR.rd rfl rfl rfl (Reads.pick_false rfl rfl) ?_
                            refine XR.rd rfl rfl rfl (Reads.assign rfl) ?_
                            refine XR.nil ?_
                            refine XQ.block_normal ?_
                            refine XQ.then_normal ?_
                            refine XC.weaken (E' := [(9, _), (10, _), (12, _), (17, _), (20, _), (21, _), (22, _)]) ⟨rfl, rfl, rfl, rfl, rfl, rfl, rfl, trivial⟩ ?_
                            refine XC.region ?_
                            refine XO.rd rfl rfl rfl (Reads.move rfl) ?_
                            refine XO.rd rfl rfl rfl (Reads.add rfl rfl (by omega)) ?_
                            refine XO.rd rfl rfl rfl (Reads.assign rfl) ?_
                            refine XO.nil ?_
                            refine XQ.back (m + 1, collF (hashF (keyB ((1 - n : Nat) : Int)) P) (hashF (keyB ((fr[m] : Nat) : Int)) ps[m]), _) ⟨Im.le_trans hJle hleh2, by simp only; omega, fun hx => ⟨(hbf hb0).1, fun j hj hj' hjm => ?_⟩⟩ (by simp only; omega) ⟨rfl, rfl, rfl, rfl, rfl, rfl, rfl, trivial⟩ rfl (List.Perm.refl _)
                            rcases Nat.lt_succ_iff_lt_or_eq.1 hjm with h9 | rfl
                            · exact (hbf hb0).2 j hj hj' h9
                            · exact ⟨by rintro ⟨g1, g2⟩; first | exact g2 (by omega) | exact absurd g1 (by assumption), hx⟩
                      · skip
                        simp only [cmpInt, decide_eq_false_iff_not] at h28
                        have hbt : b = true := found_true hn hkk hkf hsk hgen hPsl h4 (fun hb0 => ⟨(hbf hb0).1, fun j hj hj' => (hbf hb0).2 j hj hj' (by omega)⟩)
                        refine XC.exit ?_
                        refine XQ.then_exit ?_
                        refine XQ.then_exit ?_
                        refine XQ.block_exit ?_
                        refine XQ.then_normal ?_
                        refine XC.seq ?_
                        refine XC.region ?_
                        refine XO.rd rfl rfl rfl (Reads.move rfl) ?_
                        refine XO.rd rfl rfl rfl (Reads.assign rfl) ?_
                        refine XO.nil ?_
                        refine XQ.then_normal ?_
                        refine XC.ret ?_
                        refine XQ.then_ret ?_
                        refine XQ.block_ret ?_
                        refine XQ.then_ret ?_
                        refine XQ.then_ret ?_
                        refine XQ.block_ret ?_
                        refine XQ.then_ret ?_
                        refine XQ.then_ret ?_
                        refine XQ.block_ret ?_
                        refine XQ.then_ret ?_
                        first | (refine XQ.dropn 16 ?_; refine XQ.done1 (L := []) rfl rfl hI ?_; exact ⟨rfl, congrArg Value.bool hbt⟩) | (refine XQ.dropn 14 ?_; refine XQ.done1 (L := []) rfl rfl hI ?_; exact ⟨rfl, rfl⟩)
                    · skip
                      simp only [cmpInt, beq_eq_false_iff_ne] at h27
                      have hf1 : fr[kk] = 1 - n := by have := hsk.f2; omega
                      have hsent : Sent x P (1 - n) := by have h9 := hsk; rw [hf1, ← hPe] at h9; exact h9
                      refine XC.skip ?_
                      refine XQ.then_normal ?_
                      refine XC.region ?_
                      refine XO.perm (perm_take [0, 10, 10, 10]) ?_
                      refine XO.own_eq (L' := (V3.ent 9 :: (avL b8 51 9 T ++ (twoL bk (upd x n y1) h' ++ (some (b17, .cells P.cells.toArray 24 (0, 0)) :: (avL b7 51 9 S ++ (VP.ent 24 :: (VF.ent 3 :: Lf)))))))) rfl ?_
                      refine XO.rd rfl rfl rfl (Reads.move rfl) ?_
                      refine XO.rd rfl rfl rfl (Reads.move rfl) ?_
                      refine XO.rd rfl rfl rfl (Reads.index_arr_own (q := n) Tryd.underlying51 z44 rfl rfl (by omega) (by omega)) ?_
                      refine XO.rd rfl rfl rfl (Reads.load_own (v := (T n).val) k44 rfl (OwnAt.of 1 rfl (av_get hn))) ?_
                      refine XO.rd rfl rfl rfl (Reads.move rfl) ?_
                      have hTl := (hTv n hn).len
                      rw [strC_len, Nat.mul_one] at hTl
                      have hgl := hst.in_len hn hsent hin1
                      simp only at hgl
                      refine XO.append (V := T n) (news := strC ms1) (n + 2) rfl rfl Tryd.underlying44 el9 rfl rfl (hTv n hn) (av_ent hn) (.slice Tryd.underlying44 (hV3.readable (e := 9) (List.Mem.head _)) (by rw [strC_len, hV3l, Nat.mul_one]) (strC_one _)) (by omega) (by omega) ?_
                      intro V' hV' hV'l
                      refine XO.own_eq (av_app hn) ?_
                      refine XO.rd rfl rfl rfl (Reads.index_arr_own (q := n) Tryd.underlying51 z44 rfl rfl (by omega) (by omega)) ?_
                      refine XO.store 1 rfl z44 rfl rfl rfl rfl (by show n < 2; omega) ?_
                      refine XO.own_eq (L' := (V3.ent 9 :: (avL b8 51 9 (upd T n V') ++ (twoL bk (upd x n y1) h' ++ (some (b17, .cells P.cells.toArray 24 (0, 0)) :: (avL b7 51 9 S ++ (VP.ent 24 :: (VF.ent 3 :: Lf)))))))) (congrArg (fun c => V3.ent 9 :: some (b8, Obj.cells c 51 (0, 0)) :: (upd T n V' 0).ent 9 :: (upd T n V' 1).ent 9 :: (twoL bk (upd x n y1) h' ++ (some (b17, .cells P.cells.toArray 24 (0, 0)) :: (avL b7 51 9 S ++ (VP.ent 24 :: (VF.ent 3 :: Lf)))))) (av_store hn)) ?_
                      refine XO.dropn 1 ?_
                      refine XO.perm (perm_take [9]) ?_
                      refine XO.dropn 1 ?_
                      refine XO.perm (perm_take [3, 3, 3, 3, 3, 3, 3, 3, 3]) ?_
                      refine XO.own_eq (L' := (twoL bk (upd x n y1) h' ++ (avL b7 51 9 S ++ (avL b8 51 9 (upd T n V') ++ (VP.ent 24 :: (VF.ent 3 :: Lf)))))) rfl ?_
                      refine XO.nil ?_
                      refine XQ.block_normal ?_
                      refine XQ.joined ⟨upd x n y1, h', upd G n (G n ++ ms1), S, upd T n V', ps, fr, VP, VF⟩ (hst.in_ hn hsent hin1 hE' hV') ⟨rfl, rfl, rfl, rfl, rfl, rfl, rfl, trivial⟩ rfl (List.Perm.refl _)
      · skip
        obtain ⟨x2, hh2, G2, S2, T2, ps2, fr2, VP2, VF2⟩ := q2
        simp only
        have hEs2 : ∀ n, n < 2 → EndIs (x2 n) (hh2 n) := hq2.is
        have hSv2 : ∀ n, n < 2 → (S2 n).Is 1 (strC (x2 n).sent) := hq2.s
        have hTv2 : ∀ n, n < 2 → (T2 n).Is 1 (strC (G2 n)) := hq2.t
        refine XQ.then_normal ?_
        refine XC.seq ?_
        refine XC.region ?_
        refine XO.rd rfl rfl rfl (Reads.assign rfl) ?_
        refine XO.nil ?_
        refine XQ.then_normal ?_
        refine XC.block ?_
        refine XC.loop (ι := Nat) (fun q => [(0, .slice a ops.length cap), (6, .slice (some ⟨be, 0, none⟩) 2 2), (7, .pointer (some ⟨b7, 0, none⟩)), (8, .pointer (some ⟨b8, 0, none⟩)), (9, VP2.val), (10, VF2.val), (11, .int .i64 k), (23, .int .i64 q)]) (fun q => J1) (fun q => (twoL bk x2 hh2 ++ (avL b7 51 9 S2 ++ (avL b8 51 9 T2 ++ (VP2.ent 24 :: (VF2.ent 3 :: Lf)))))) (fun q => q ≤ 2) (fun q => 2 - q) 0 (Nat.zero_le _) ⟨rfl, rfl, rfl, rfl, rfl, rfl, rfl, rfl, trivial⟩ rfl (List.Perm.refl _) (fun j hj => ?_)
        refine XC.seq ?_
        refine XC.seq ?_
        refine XC.region ?_
        refine XO.rd rfl rfl rfl (Reads.move rfl) ?_
        refine XO.rd rfl rfl rfl (Reads.cmp rfl rfl rfl) ?_
        refine XO.nil ?_
        refine XQ.then_normal ?_
        refine XC.cond rfl (fun h32 => ?_) (fun h32 => ?_)
        · skip
          simp only [cmpInt, decide_eq_true_eq] at h32
          have hj : j < 2 := by omega
          have hj1 : 1 - j < 2 := by omega
          obtain ⟨hb1, hb2, hb3, hb4, hb5, hb6⟩ := hq2.bounds hj
          obtain ⟨hc1, hc2, _, hc4, hc5, hc6⟩ := hq2.bounds hj1
          simp only at hb1 hb2 hb3 hb4 hb5 hb6 hc1 hc2 hc4 hc5 hc6
          rw [show 1 - (1 - j) = j by omega] at hc2 hc4
          have hT1 := (hTv2 j hj).len
          have hS1 := (hSv2 j hj).len
          have hS2 := (hSv2 (1 - j) hj1).len
          have hS3 := (hSv2 (1 - j) hj1).le
          rw [strC_len, Nat.mul_one] at hT1 hS1 hS2
          refine XC.skip ?_
          refine XQ.then_normal ?_
          refine XC.seq ?_
          refine XC.block ?_
          refine XC.seq ?_
          refine XC.seq ?_
          refine XC.draw m_mixed none (.pure 0 (.pure 1 (.pure 2 (.pure 3 (.pure 4 (.pure 5 (.pure 6 (.pure 7 (.pure 8 (.pure 9 (.pure 10 (.pure 11 (.pure 12 (.pure 13 (.pure 14 (.pure 15 (.pure 16 (.pure 17 (.pure 18 (.pure 19 (.pure 20 (.pure 21 (.pure 22 (.pure 23 (.pure 24 (.pure 25 (.pure 26 (.pure 27 (.pure 28 (.eff 29 (.pure 30 (.pure 31 (.pure 32 (.pure 33 (.pure 34 (.pure 35 (.pure 36 (.pure 38 (.pure 39 (.pure 40 (.pure 41 (.eff 37 (.pure 42 (.pure 43 (.pure 44 (.pure 45 (.pure 46 (.pure 47 (.pure 48 (.pure 50 (.pure 51 (.pure 52 (.pure 53 (.eff 49 (.pure 54 (.pure 55 (.done))))))))))))))))))))))))))))))))))))))))))))))))))))))))) [some (b7, .cells #[(S2 0).val, (S2 1).val] 51 (0, 0)), some (b8, .cells #[(T2 0).val, (T2 1).val] 51 (0, 0))] (by kernel_rfl) (List.Sublist.cons _ (List.Sublist.cons _ (List.Sublist.cons _ (List.Sublist.cons _ (List.Sublist.cons _ (List.Sublist.cons _ (List.Sublist.cons_cons _ (List.Sublist.cons _ (List.Sublist.cons _ (List.Sublist.cons_cons _ (List.nil_sublist _))))))))))) ?_
          refine XR.rd rfl rfl rfl (Reads.move rfl) ?_
          refine XR.rd rfl rfl rfl (Reads.index_arr_own (q := j) Tryd.underlying51 z44 rfl rfl (by omega) (by omega)) ?_
          refine XR.rd rfl rfl rfl (Reads.load_own (v := (T2 j).val) k44 rfl (OwnAt.of 1 rfl (av_get hj))) ?_
          refine XR.rd rfl rfl rfl (Reads.len_slice Tryd.underlying44 rfl) ?_
          refine XR.rd rfl rfl rfl (Reads.move rfl) ?_
          refine XR.rd rfl rfl rfl (Reads.sub rfl rfl (by omega)) ?_
          rw [show (1 : Int) - (j : Int) = ((1 - j : Nat) : Int) by omega]
          refine XR.rd rfl rfl rfl (Reads.index_arr_own (q := 1 - j) Tryd.underlying51 z44 rfl rfl (by omega) (by omega)) ?_
          refine XR.rd rfl rfl rfl (Reads.load_own (v := (S2 (1 - j)).val) k44 rfl (OwnAt.of 0 rfl (av_get hj1))) ?_
          refine XR.rd rfl rfl rfl (Reads.len_slice Tryd.underlying44 rfl) ?_
          refine XR.rd rfl rfl rfl (Reads.cmp_no rfl rfl rfl (by simp only [cmpInt, decide_eq_false_iff_not, beq_eq_false_iff_ne, bne_eq_false_iff_eq] <;> omega)) ?_
          refine XR.rd rfl rfl rfl (Reads.move rfl) ?_
          refine XR.rd rfl (wg rfl rfl rfl) rfl (Reads.move rfl) ?_
          refine XR.rd rfl (wg rfl rfl rfl) rfl (Reads.index_arr_own (q := j) Tryd.underlying51 z44 rfl rfl (by omega) (by omega)) ?_
          refine XR.rd rfl (wg rfl rfl rfl) rfl (Reads.load_own (v := (T2 j).val) k44 rfl (OwnAt.of 1 rfl (av_get hj))) ?_
          refine XR.rd rfl (wg rfl rfl rfl) rfl (Reads.move rfl) ?_
          refine XR.rd rfl (wg rfl rfl rfl) rfl (Reads.sub rfl rfl (by omega)) ?_
          rw [show (1 : Int) - (j : Int) = ((1 - j : Nat) : Int) by omega]
          refine XR.rd rfl (wg rfl rfl rfl) rfl (Reads.index_arr_own (q := 1 - j) Tryd.underlying51 z44 rfl rfl (by omega) (by omega)) ?_
          refine XR.rd rfl (wg rfl rfl rfl) rfl (Reads.load_own (v := (S2 (1 - j)).val) k44 rfl (OwnAt.of 0 rfl (av_get hj1))) ?_
          refine XR.rd rfl (wg rfl rfl rfl) rfl (Reads.move rfl) ?_
          refine XR.rd rfl (wg rfl rfl rfl) rfl (Reads.index_arr_own (q := j) Tryd.underlying51 z44 rfl rfl (by omega) (by omega)) ?_
          refine XR.rd rfl (wg rfl rfl rfl) rfl (Reads.load_own (v := (T2 j).val) k44 rfl (OwnAt.of 1 rfl (av_get hj))) ?_
          refine XR.rd rfl (wg rfl rfl rfl) rfl (Reads.len_slice Tryd.underlying44 rfl) ?_
          refine XR.rd rfl (wg rfl rfl rfl) rfl (Reads.move rfl) ?_
          refine XR.rd rfl (wg rfl rfl rfl) rfl (Reads.sub rfl rfl (by omega)) ?_
          rw [show (1 : Int) - (j : Int) = ((1 - j : Nat) : Int) by omega]
          refine XR.rd rfl (wg rfl rfl rfl) rfl (Reads.index_arr_own (q := 1 - j) Tryd.underlying51 z44 rfl rfl (by omega) (by omega)) ?_
          refine XR.rd rfl (wg rfl rfl rfl) rfl (Reads.load_own (v := (S2 (1 - j)).val) k44 rfl (OwnAt.of 0 rfl (av_get hj1))) ?_
          refine XR.rd rfl (wg rfl rfl rfl) rfl (Reads.len_slice Tryd.underlying44 rfl) ?_
          refine XR.rd rfl (wg rfl rfl rfl) rfl (Reads.min rfl rfl) ?_
          rw [show min ((T2 j).len : Int) ((S2 (1 - j)).len : Int) = (((G2 j).length : Nat) : Int) by omega]
          refine XR.rd rfl (wg rfl rfl rfl) rfl (Reads.slice_gen 0 (G2 j).length (S2 (1 - j)).cap Tryd.underlying44 z9 rfl rfl ⟨_, rfl⟩ rfl (fun _ => rfl) (by omega) (by omega) (by omega)) ?_
          rw [cutA_vec, Nat.sub_zero, Nat.sub_zero]
          refine XR.callo (vs := [_, _]) (L1 := avL b7 51 9 S2 ++ avL b8 51 9 T2) rfl (wg rfl rfl rfl) rfl rfl en28 ⟨rfl, rfl, trivial⟩ (strings_av (c := true) hj (hTv2 j hj) (hSv2 (1 - j) hj1) (by omega) (decide_eq_true hb3) (by omega)) (perm_take [6, 6, 6, 6, 6, 6]) ?_
          rintro v I' L' _ ⟨rfl, hI', rfl⟩
          replace hI' := hI'.symm
          subst hI'
          refine ⟨.inr (List.Sublist.cons_cons _ (List.Sublist.cons _ (List.Sublist.cons _ (List.Sublist.cons_cons _ (List.nil_sublist _))))), ?_⟩
          refine XR.own_eq (L' := (avL b7 51 9 S2 ++ (avL b8 51 9 T2 ++ (twoL bk x2 hh2 ++ (VP2.ent 24 :: (VF2.ent 3 :: Lf)))))) rfl ?_
          refine XR.rd rfl (wg rfl rfl rfl) rfl (Reads.not rfl) ?_
          refine XR.rd rfl rfl rfl (Reads.pick_false rfl rfl) ?_
          refine XR.rd rfl rfl rfl (Reads.move rfl) ?_
          refine XR.rd rfl (wg rfl rfl rfl) rfl (Reads.move rfl) ?_
          refine XR.rd rfl (wg rfl rfl rfl) rfl (Reads.move rfl) ?_
          refine XR.rd rfl (wg rfl rfl rfl) rfl (Reads.index_slot (q := j) Tryd.underlying30 z25 rfl rfl (by omega) (hP.isSome (by decide) (Nat.succ_pos 1)) (by omega)) ?_
          refine XR.rd rfl (wg rfl rfl rfl) rfl (Reads.load_at k25 rfl (Arr.ptr hP hj)) ?_
          refine XR.rd rfl (wg rfl rfl rfl) rfl (Reads.move rfl) ?_
          refine XR.rd rfl (wg rfl rfl rfl) rfl (Reads.index_arr_own (q := j) Tryd.underlying51 z44 rfl rfl (by omega) (by omega)) ?_
          refine XR.rd rfl (wg rfl rfl rfl) rfl (Reads.load_own (v := (T2 j).val) k44 rfl (OwnAt.of 1 rfl (av_get hj))) ?_
          refine XR.rd rfl (wg rfl rfl rfl) rfl (Reads.len_slice Tryd.underlying44 rfl) ?_
          refine XR.callo (vs := [_]) (L1 := twoL bk x2 hh2) rfl (wg rfl rfl rfl) rfl rfl en35 ⟨rfl, trivial⟩ (two_num hj (received_any (bk j) (x2 j) (hh2 j) _ (hEs2 _ hj))) (perm_take [6, 6, 6, 6, 6, 6]) ?_
          rintro v I' L' _ ⟨rfl, hI', rfl⟩
          replace hI' := hI'.symm
          subst hI'
          refine ⟨.inr (List.Sublist.cons _ (List.Sublist.cons _ (List.Sublist.cons _ (List.Sublist.cons _ (List.Sublist.cons _ (List.Sublist.cons _ (List.Sublist.cons_cons _ (List.Sublist.cons _ (List.Sublist.cons _ (List.Sublist.cons_cons _ (List.nil_sublist _))))))))))), ?_⟩
          refine XR.own_eq (L' := (twoL bk x2 hh2 ++ (avL b7 51 9 S2 ++ (avL b8 51 9 T2 ++ (VP2.ent 24 :: (VF2.ent 3 :: Lf)))))) rfl ?_
          refine XR.rd rfl (wg rfl rfl rfl) rfl (Reads.cmp_no rfl rfl rfl (by simp only [cmpInt, decide_eq_false_iff_not, beq_eq_false_iff_ne, bne_eq_false_iff_eq] <;> omega)) ?_
          refine XR.rd rfl rfl rfl (Reads.pick_false rfl rfl) ?_
          refine XR.rd rfl rfl rfl (Reads.move rfl) ?_
          refine XR.rd rfl (wg rfl rfl rfl) rfl (Reads.move rfl) ?_
          refine XR.rd rfl (wg rfl rfl rfl) rfl (Reads.move rfl) ?_
          refine XR.rd rfl (wg rfl rfl rfl) rfl (Reads.index_slot (q := j) Tryd.underlying30 z25 rfl rfl (by omega) (hP.isSome (by decide) (Nat.succ_pos 1)) (by omega)) ?_
          refine XR.rd rfl (wg rfl rfl rfl) rfl (Reads.load_at k25 rfl (Arr.ptr hP hj)) ?_
          refine XR.rd rfl (wg rfl rfl rfl) rfl (Reads.move rfl) ?_
          refine XR.rd rfl (wg rfl rfl rfl) rfl (Reads.index_arr_own (q := j) Tryd.underlying51 z44 rfl rfl (by omega) (by omega)) ?_
          refine XR.rd rfl (wg rfl rfl rfl) rfl (Reads.load_own (v := (S2 j).val) k44 rfl (OwnAt.of 0 rfl (av_get hj))) ?_
          refine XR.rd rfl (wg rfl rfl rfl) rfl (Reads.len_slice Tryd.underlying44 rfl) ?_
          refine XR.callo (vs := [_]) (L1 := twoL bk x2 hh2) rfl (wg rfl rfl rfl) rfl rfl en31 ⟨rfl, trivial⟩ (two_num hj (sent_any (bk j) (x2 j) (hh2 j) _ (hEs2 _ hj))) (List.Perm.refl _) ?_
          rintro v I' L' _ ⟨rfl, hI', rfl⟩
          replace hI' := hI'.symm
          subst hI'
          refine ⟨.inr (List.Sublist.cons _ (List.Sublist.cons _ (List.Sublist.cons _ (List.Sublist.cons _ (List.Sublist.cons _ (List.Sublist.cons _ (List.Sublist.cons_cons _ (List.Sublist.cons _ (List.Sublist.cons _ (List.Sublist.cons_cons _ (List.nil_sublist _))))))))))), ?_⟩
          refine XR.own_eq (L' := (twoL bk x2 hh2 ++ (avL b7 51 9 S2 ++ (avL b8 51 9 T2 ++ (VP2.ent 24 :: (VF2.ent 3 :: Lf)))))) rfl ?_
          refine XR.rd rfl (wg rfl rfl rfl) rfl (Reads.cmp_no rfl rfl rfl (by simp only [cmpInt, decide_eq_false_iff_not, beq_eq_false_iff_ne, bne_eq_false_iff_eq] <;> omega)) ?_
          refine XR.rd rfl rfl rfl (Reads.pick_false rfl rfl) ?_
          refine XR.nil ?_
          refine XQ.then_normal ?_
          refine XC.cond rfl (fun hx => by cases hx) (fun _ => ?_)
          refine XC.skip ?_
          refine XQ.then_normal ?_
          refine XC.seq ?_
          refine XC.weaken (E' := [(0, _), (6, _), (7, _), (8, _), (9, _), (10, _), (11, _), (23, _)]) ⟨rfl, rfl, rfl, rfl, rfl, rfl, rfl, rfl, trivial⟩ ?_
          refine XC.draw m_mixed none (.pure 0 (.pure 1 (.pure 2 (.pure 3 (.pure 5 (.pure 6 (.pure 7 (.pure 8 (.pure 11 (.pure 12 (.pure 13 (.pure 14 (.pure 15 (.eff 4 (.eff 9 (.pure 10 (.eff 16 (.pure 17 (.pure 18 (.pure 19 (.pure 20 (.pure 21 (.pure 22 (.eff 23 (.pure 24 (.pure 25 (.done))))))))))))))))))))))))))) [] (by kernel_rfl) (List.nil_sublist _) ?_
          refine XR.rd rfl rfl rfl (Reads.move rfl) ?_
          refine XR.rd rfl rfl rfl (Reads.move rfl) ?_
          refine XR.rd rfl rfl rfl (Reads.index_slot (q := j) Tryd.underlying30 z25 rfl rfl (by omega) (hP.isSome (by decide) (Nat.succ_pos 1)) (by omega)) ?_
          refine XR.rd rfl rfl rfl (Reads.load_at k25 rfl (Arr.ptr hP hj)) ?_
          refine XR.rd rfl rfl rfl (Reads.move rfl) ?_
          refine XR.rd rfl rfl rfl (Reads.move rfl) ?_
          refine XR.rd rfl rfl rfl (Reads.index_slot (q := j) Tryd.underlying30 z25 rfl rfl (by omega) (hP.isSome (by decide) (Nat.succ_pos 1)) (by omega)) ?_
          refine XR.rd rfl rfl rfl (Reads.load_at k25 rfl (Arr.ptr hP hj)) ?_
          refine XR.rd rfl rfl rfl (Reads.move rfl) ?_
          refine XR.rd rfl rfl rfl (Reads.move rfl) ?_
          refine XR.rd rfl rfl rfl (Reads.sub rfl rfl (by omega)) ?_
          rw [show (1 : Int) - (j : Int) = ((1 - j : Nat) : Int) by omega]
          refine XR.rd rfl rfl rfl (Reads.index_slot (q := 1 - j) Tryd.underlying30 z25 rfl rfl (by omega) (hP.isSome (by decide) (Nat.succ_pos 1)) (by omega)) ?_
          refine XR.rd rfl rfl rfl (Reads.load_at k25 rfl (Arr.ptr hP hj1)) ?_
          refine XR.callo (vs := [_]) (L1 := twoL bk x2 hh2) rfl rfl rfl rfl en31 ⟨rfl, trivial⟩ (two_num hj (sent_any (bk j) (x2 j) (hh2 j) _ (hEs2 _ hj))) (List.Perm.refl _) ?_
          rintro v I' L' _ ⟨rfl, hI', rfl⟩
          replace hI' := hI'.symm
          subst hI'
          refine ⟨.inr (List.nil_sublist _), ?_⟩
          refine XR.own_eq (L' := (twoL bk x2 hh2 ++ (avL b7 51 9 S2 ++ (avL b8 51 9 T2 ++ (VP2.ent 24 :: (VF2.ent 3 :: Lf)))))) rfl ?_
          refine XR.callo (vs := [_]) (L1 := twoL bk x2 hh2) rfl rfl rfl rfl en33 ⟨rfl, trivial⟩ (two_num hj (waiting_any (bk j) (x2 j) (hh2 j) _ (hEs2 _ hj))) (List.Perm.refl _) ?_
          rintro v I' L' _ ⟨rfl, hI', rfl⟩
          replace hI' := hI'.symm
          subst hI'
          refine ⟨.inr (List.nil_sublist _), ?_⟩
          refine XR.own_eq (L' := (twoL bk x2 hh2 ++ (avL b7 51 9 S2 ++ (avL b8 51 9 T2 ++ (VP2.ent 24 :: (VF2.ent 3 :: Lf)))))) rfl ?_
          refine XR.rd rfl rfl rfl (Reads.sub rfl rfl (by omega)) ?_
          refine XR.callo (vs := [_]) (L1 := twoL bk x2 hh2) rfl rfl rfl rfl en35 ⟨rfl, trivial⟩ (two_num hj1 (received_any (bk (1 - j)) (x2 (1 - j)) (hh2 (1 - j)) _ (hEs2 _ hj1))) (List.Perm.refl _) ?_
          rintro v I' L' _ ⟨rfl, hI', rfl⟩
          replace hI' := hI'.symm
          subst hI'
          refine ⟨.inr (List.nil_sublist _), ?_⟩
          refine XR.own_eq (L' := (twoL bk x2 hh2 ++ (avL b7 51 9 S2 ++ (avL b8 51 9 T2 ++ (VP2.ent 24 :: (VF2.ent 3 :: Lf)))))) rfl ?_
          refine XR.rd rfl rfl rfl (Reads.cmp_no rfl rfl rfl (by simp only [cmpInt, decide_eq_false_iff_not, beq_eq_false_iff_ne, bne_eq_false_iff_eq] <;> omega)) ?_
          refine XR.rd rfl rfl rfl (Reads.move rfl) ?_
          refine XR.rd rfl (wg rfl rfl rfl) rfl (Reads.move rfl) ?_
          refine XR.rd rfl (wg rfl rfl rfl) rfl (Reads.move rfl) ?_
          refine XR.rd rfl (wg rfl rfl rfl) rfl (Reads.index_slot (q := j) Tryd.underlying30 z25 rfl rfl (by omega) (hP.isSome (by decide) (Nat.succ_pos 1)) (by omega)) ?_
          refine XR.rd rfl (wg rfl rfl rfl) rfl (Reads.load_at k25 rfl (Arr.ptr hP hj)) ?_
          refine XR.callo (vs := [_]) (L1 := twoL bk x2 hh2) rfl (wg rfl rfl rfl) rfl rfl en33 ⟨rfl, trivial⟩ (two_num hj (waiting_any (bk j) (x2 j) (hh2 j) _ (hEs2 _ hj))) (List.Perm.refl _) ?_
          rintro v I' L' _ ⟨rfl, hI', rfl⟩
          replace hI' := hI'.symm
          subst hI'
          refine ⟨.inr (List.nil_sublist _), ?_⟩
          refine XR.own_eq (L' := (twoL bk x2 hh2 ++ (avL b7 51 9 S2 ++ (avL b8 51 9 T2 ++ (VP2.ent 24 :: (VF2.ent 3 :: Lf)))))) rfl ?_
          refine XR.rd rfl (wg rfl rfl rfl) rfl (Reads.cmp_no rfl rfl rfl (by simp only [cmpInt, decide_eq_false_iff_not, beq_eq_false_iff_ne, bne_eq_false_iff_eq] <;> omega)) ?_
          refine XR.rd rfl rfl rfl (Reads.pick_false rfl rfl) ?_
          refine XR.nil ?_
          refine XQ.then_normal ?_
          refine XC.cond rfl (fun hx => by cases hx) (fun _ => ?_)
          refine XC.skip ?_
          refine XQ.block_normal ?_
          refine XQ.then_normal ?_
          refine XC.region ?_
          refine XO.rd rfl rfl rfl (Reads.move rfl) ?_
          refine XO.rd rfl rfl rfl (Reads.add rfl rfl (by omega)) ?_
          refine XO.rd rfl rfl rfl (Reads.assign rfl) ?_
          refine XO.nil ?_
          refine XQ.back (j + 1) (by omega) (by omega) ⟨rfl, rfl, rfl, rfl, rfl, rfl, rfl, rfl, trivial⟩ rfl (List.Perm.refl _)
        · skip
          simp only [cmpInt, decide_eq_false_iff_not] at h32
          refine XC.exit ?_
          refine XQ.then_exit ?_
          refine XQ.then_exit ?_
          refine XQ.block_exit ?_
          refine XQ.block_normal ?_
          refine XQ.then_normal ?_
          refine XC.region ?_
          refine XO.rd rfl rfl rfl (Reads.move rfl) ?_
          refine XO.rd rfl rfl rfl (Reads.add rfl rfl (by omega)) ?_
          refine XO.rd rfl rfl rfl (Reads.assign rfl) ?_
          refine XO.nil ?_
          refine XQ.back (k + 1, ⟨x2, hh2, G2, S2, T2, ps2, fr2, VP2, VF2⟩) ⟨by simp only; omega, by simp only; omega, hq2⟩ (by simp only; omega) ⟨rfl, rfl, rfl, rfl, rfl, rfl, rfl, trivial⟩ rfl (List.Perm.refl _)
    · skip
      simp only [cmpInt, decide_eq_false_iff_not] at h2
      refine XC.exit ?_
      refine XQ.then_exit ?_
      refine XQ.then_exit ?_
      refine XQ.block_exit ?_
      refine XQ.then_normal ?_
      refine XC.seq ?_
      refine XC.region ?_
      refine XO.rd rfl rfl rfl (Reads.assign rfl) ?_
      refine XO.nil ?_
      refine XQ.then_normal ?_
      refine XC.ret ?_
      first | (refine XQ.dropn 16 ?_; refine XQ.done1 (L := []) rfl rfl hI ?_; exact ⟨rfl, congrArg Value.bool hbt⟩) | (refine XQ.dropn 14 ?_; refine XQ.done1 (L := []) rfl rfl hI ?_; exact ⟨rfl, rfl⟩)
  · skip
    simp only [cmpInt, decide_eq_false_iff_not] at h1
    refine XO.s (wg rfl rfl rfl) rfl ?_
    refine XO.s (wg rfl rfl rfl) rfl ?_
    refine XO.rd rfl rfl rfl (Reads.pick_false rfl rfl) ?_
    refine XO.nil ?_
    refine XQ.then_normal ?_
    refine XC.cond rfl (fun hx => by cases hx) (fun _ => ?_)
    refine XC.exit ?_
    refine XQ.then_exit ?_
    refine XQ.then_exit ?_
    refine XQ.block_exit ?_
    refine XQ.then_normal ?_
    refine XC.seq ?_
    refine XC.region ?_
    refine XO.rd rfl rfl rfl (Reads.assign rfl) ?_
    refine XO.nil ?_
    refine XQ.then_normal ?_
    refine XC.ret ?_
    first | (refine XQ.dropn 16 ?_; refine XQ.done1 (L := []) rfl rfl hI ?_; exact ⟨rfl, congrArg Value.bool hbt⟩) | (refine XQ.dropn 14 ?_; refine XQ.done1 (L := []) rfl rfl hI ?_; exact ⟨rfl, rfl⟩)

end Go.Proofs.YtkjhhifhgcihpaaDoor
