/- Walk: LinkAll. -/
import Derived.Test.YtkjhhifhgcihpaaDoorD15
namespace Go.Proofs.YtkjhhifhgcihpaaDoor
open Go.Xe Go.Sh Go Go.Lk

set_option maxHeartbeats 4000000 in
theorem linkAll_any (fi se bl : Int) (aw : Option Addr) (cw : Nat) (ws : List Int) (I : Im) (hG : Glob I) (hfi : (-9223372036854775808 ≤ fi ∧ fi ≤ 9223372036854775807)) (hsec : (-9223372036854775808 ≤ se ∧ se ≤ 9223372036854775807)) (hbl : (-9223372036854775808 ≤ bl ∧ bl ≤ 9223372036854775807)) (hWs : Arr I aw ws) (hws : ∀ x ∈ ws, -9223372036854775808 ≤ x ∧ x ≤ 9223372036854775807) (hwl : ws.length ≤ 9223372036854775807) : FC Tryd.prog 5 [.int .i64 fi, .int .i64 se, .int .i64 bl, .slice aw ws.length cw] I (fun u I' => u = .bool true) := by
  have hI := Im.le_refl I
  have hp1 := pickI_range (c := fi) (n := 9) (by decide)
  have hp2 := pickI_range (c := se) (n := 9) (by decide)
  have hp3 := pickI_range (c := bl) (n := 4) (by decide)
  refine FSo.intro (n := 195) Tryd.func5 rfl rfl rfl (fun K Lf => ?_)
  refine XC.seq ?_
  refine XC.region ?_
  refine XO.rd rfl rfl rfl (Reads.assign rfl) ?_
  refine XO.nil ?_
  refine XQ.then_normal ?_
  refine XC.seq ?_
  refine XC.region ?_
  refine XO.callo (vs := []) (L1 := []) rfl rfl rfl en13 trivial (pair_any _) (List.Perm.refl _) ?_
  rintro v I' L' _ ⟨ba, ha, bb, hb, rfl, hI', rfl, hEa, hEb⟩
  replace hI' := hI'.symm
  subst hI'
  obtain ⟨bk, hb0, hb1⟩ : ∃ bk : Nat → Nat, bk 0 = ba ∧ bk 1 = bb := ⟨fun n => if n = 0 then ba else bb, rfl, rfl⟩
  subst hb0
  subst hb1
  obtain ⟨h0, hh0, hh1⟩ : ∃ h0 : Nat → EH, h0 0 = ha ∧ h0 1 = hb := ⟨fun n => if n = 0 then ha else hb, rfl, rfl⟩
  subst hh0
  subst hh1
  have hE0 : ∀ n, n < 2 → EndIs (startF n) (h0 n) := fun n hn => by
    match n, hn with
    | 0, _ => exact hEa
    | 1, _ => exact hEb
  refine XO.perm (perm_take [3, 3, 3]) ?_
  refine XO.own_eq (L' := (twoL bk startF h0 ++ Lf)) rfl ?_
  refine XO.rd rfl rfl rfl (Reads.move rfl) ?_
  refine XO.rd rfl rfl rfl (Reads.extract rfl rfl) ?_
  refine XO.rd rfl rfl rfl (Reads.extract rfl rfl) ?_
  refine XO.rd rfl rfl rfl (Reads.extract rfl rfl) ?_
  refine XO.rd rfl rfl rfl (Reads.assign rfl) ?_
  refine XO.rd rfl rfl rfl (Reads.assign rfl) ?_
  refine XO.rd rfl rfl rfl (Reads.assign rfl) ?_
  refine XO.nil ?_
  refine XQ.then_normal ?_
  refine XC.seq ?_
  refine XC.seq ?_
  refine XC.region ?_
  refine XO.callp rfl rfl en14 (FC.pure (sane_any _ hG)) trivial ?_
  refine XO.rd rfl rfl rfl (Reads.not rfl) ?_
  refine XO.rd rfl rfl rfl (Reads.move rfl) ?_
  refine XO.rd (wg rfl rfl rfl) rfl rfl (Reads.move rfl) ?_
  refine XO.rd (wg rfl rfl rfl) rfl rfl (Reads.not rfl) ?_
  refine XO.rd rfl rfl rfl (Reads.pick_false rfl rfl) ?_
  refine XO.nil ?_
  refine XQ.then_normal ?_
  refine XC.cond rfl (fun hx => by cases hx) (fun _ => ?_)
  refine XC.skip ?_
  refine XQ.then_normal ?_
  refine XC.seq ?_
  refine XC.region ?_
  refine XO.rd rfl rfl rfl (Reads.move rfl) ?_
  refine XO.rd rfl rfl rfl (Reads.move rfl) ?_
  refine XO.lit (α := PB) [⟨bk 0⟩, ⟨bk 1⟩] [.pointer (some ⟨bk 0, 0, none⟩), .pointer (some ⟨bk 1, 0, none⟩)] [.pointer (some ⟨bk 0, 0, none⟩), .pointer (some ⟨bk 1, 0, none⟩)] rfl rfl Tryd.underlying30 el25 rfl (by simp) ⟨rfl, rfl, rfl, rfl, trivial⟩ rfl rfl (by decide) rfl (.cons (cs := [.pointer (some ⟨bk 0, 0, none⟩)]) rfl (.cons (cs := [.pointer (some ⟨bk 1, 0, none⟩)]) rfl .nil)) (fun be J1 hle1 hse => ?_)
  replace hI := Im.le_trans hI hle1
  replace hG := hG.mono hle1
  replace hWs := hWs.mono hle1
  have hP := hse.arr.1
  refine XO.rd rfl rfl rfl (Reads.assign rfl) ?_
  refine XO.nil ?_
  refine XQ.then_normal ?_
  refine XC.seq ?_
  refine XC.region ?_
  refine XO.rd rfl rfl rfl (Reads.move rfl) ?_
  refine XO.callp rfl rfl en18 (pickL_any fi 9 _ hfi (by decide)) ⟨rfl, rfl, trivial⟩ ?_
  refine XO.rd rfl rfl rfl (Reads.move rfl) ?_
  refine XO.callp rfl rfl en18 (pickL_any se 9 _ hsec (by decide)) ⟨rfl, rfl, trivial⟩ ?_
  obtain ⟨mm, hm0, hm1, hm08, hm18⟩ : ∃ mm : Nat → Nat, pickI fi 9 = ((mm 0 : Nat) : Int) ∧ pickI se 9 = ((mm 1 : Nat) : Int) ∧ mm 0 ≤ 8 ∧ mm 1 ≤ 8 := ⟨fun n => if n = 0 then (pickI fi 9).toNat else (pickI se 9).toNat, by show _ = (((pickI fi 9).toNat : Nat) : Int); omega, by show _ = (((pickI se 9).toNat : Nat) : Int); omega, by show (pickI fi 9).toNat ≤ 8; omega, by show (pickI se 9).toNat ≤ 8; omega⟩
  rw [hm0, hm1]
  have hm8 : ∀ k, k < 2 → mm k ≤ 8 := fun k hk => by
    match k, hk with
    | 0, _ => exact hm08
    | 1, _ => exact hm18
  obtain ⟨hGX, hSX⟩ := xA_good hm8
  refine XO.lit (α := Int) [((mm 0 : Nat) : Int), ((mm 1 : Nat) : Int)] [.int .i64 ((mm 0 : Nat) : Int), .int .i64 ((mm 1 : Nat) : Int)] [.int .i64 ((mm 0 : Nat) : Int), .int .i64 ((mm 1 : Nat) : Int)] rfl rfl Tryd.underlying52 el3 rfl (by simp) ⟨rfl, rfl, rfl, rfl, trivial⟩ rfl rfl (by decide) rfl (.cons (cs := [.int .i64 ((mm 0 : Nat) : Int)]) rfl (.cons (cs := [.int .i64 ((mm 1 : Nat) : Int)]) rfl .nil)) (fun bm J2 hle2 hsm => ?_)
  replace hI := Im.le_trans hI hle2
  replace hG := hG.mono hle2
  replace hWs := hWs.mono hle2
  replace hP := hP.mono hle2
  have hM := hsm.arr.1
  refine XO.rd rfl rfl rfl (Reads.assign rfl) ?_
  refine XO.nil ?_
  refine XQ.then_normal ?_
  refine XC.seq ?_
  refine XC.region ?_
  refine XO.rd rfl rfl rfl (Reads.move rfl) ?_
  refine XO.callp rfl rfl en18 (pickL_any bl 4 _ hbl (by decide)) ⟨rfl, rfl, trivial⟩ ?_
  refine XO.rd rfl rfl rfl (Reads.add rfl rfl (by omega)) ?_
  obtain ⟨sz, hsz, hs1, hs4⟩ : ∃ sz : Nat, 1 + pickI bl 4 = ((sz : Nat) : Int) ∧ 1 ≤ sz ∧ sz ≤ 4 := ⟨(1 + pickI bl 4).toNat, by omega, by omega, by omega⟩
  rw [hsz]
  obtain ⟨N, hN, hN231, hNM⟩ := rounds_of hs1 hs4 hm08 hm18
  refine XO.rd rfl rfl rfl (Reads.assign rfl) ?_
  refine XO.nil ?_
  refine XQ.then_normal ?_
  refine XC.seq ?_
  refine XC.draw m_mixed none (.pure 0 (.pure 1 (.pure 2 (.pure 3 (.pure 4 (.pure 5 (.pure 6 (.pure 7 (.pure 8 (.pure 9 (.pure 10 (.pure 11 (.pure 12 (.pure 13 (.done))))))))))))))) _ (by kernel_rfl) (List.Sublist.refl _) ?_
  refine XR.rd rfl rfl rfl (Reads.move rfl) ?_
  refine XR.rd rfl rfl rfl (Reads.mul rfl rfl (by omega)) ?_
  refine XR.rd rfl rfl rfl (Reads.sub rfl rfl (by omega)) ?_
  refine XR.rd rfl rfl rfl (Reads.move rfl) ?_
  refine XR.rd rfl rfl rfl (Reads.index_slot (q := 0) Tryd.underlying52 z3 rfl rfl (by decide) (hM.isSome (by decide) (Nat.succ_pos 1)) (by decide)) ?_
  refine XR.rd rfl rfl rfl (Reads.load_at k3 rfl (Arr.two hM (n := 0) (by decide))) ?_
  refine XR.rd rfl rfl rfl (Reads.move rfl) ?_
  refine XR.rd rfl rfl rfl (Reads.index_slot (q := 1) Tryd.underlying52 z3 rfl rfl (by decide) (hM.isSome (by decide) (Nat.succ_pos 1)) (by decide)) ?_
  refine XR.rd rfl rfl rfl (Reads.load_at k3 rfl (Arr.two hM (n := 1) (by decide))) ?_
  refine XR.rd rfl rfl rfl (Reads.add rfl rfl (by omega)) ?_
  refine XR.rd rfl rfl rfl (Reads.mul rfl rfl (by omega)) ?_
  refine XR.rd rfl rfl rfl (Reads.add rfl rfl (by omega)) ?_
  refine XR.rd rfl rfl rfl (Reads.mul rfl rfl (by rw [hN]; omega)) ?_
  rw [hN]
  refine XR.rd rfl rfl rfl (Reads.assign rfl) ?_
  refine XR.nil ?_
  refine XQ.then_normal ?_
  refine XC.seq ?_
  refine XC.region ?_
  refine XO.alloc (cs := #[.slice none 0 0, .slice none 0 0]) rfl rfl zo51 rfl (fun b16 => ?_)
  refine XO.same (L' := (avL b16 51 9 (fun _ => Vec.nil) ++ (twoL bk startF h0 ++ Lf))) rfl ?_
  refine XO.perm (perm_take [3, 3, 3, 3, 3, 3]) ?_
  refine XO.own_eq (L' := (twoL bk startF h0 ++ (avL b16 51 9 (fun _ => Vec.nil) ++ Lf))) rfl ?_
  refine XO.nil ?_
  refine XQ.then_normal ?_
  refine XC.seq ?_
  refine XC.region ?_
  refine XO.alloc (cs := #[.slice none 0 0, .slice none 0 0]) rfl rfl zo51 rfl (fun b17 => ?_)
  refine XO.same (L' := (avL b17 51 9 (fun _ => Vec.nil) ++ (twoL bk startF h0 ++ (avL b16 51 9 (fun _ => Vec.nil) ++ Lf)))) rfl ?_
  refine XO.perm (perm_take [3, 3, 3, 3, 3, 3, 3, 3, 3]) ?_
  refine XO.own_eq (L' := (twoL bk startF h0 ++ (avL b16 51 9 (fun _ => Vec.nil) ++ (avL b17 51 9 (fun _ => Vec.nil) ++ Lf)))) rfl ?_
  refine XO.nil ?_
  refine XQ.then_normal ?_
  refine XC.seq ?_
  refine XC.seq ?_
  refine XC.region ?_
  refine XO.rd rfl rfl rfl (Reads.assign rfl) ?_
  refine XO.nil ?_
  refine XQ.then_normal ?_
  refine XC.block ?_
  refine XC.loop (ι := Nat × (Nat → EH) × (Nat → Vec)) (fun q => [(3, .slice aw ws.length cw), (9, .pointer (some ⟨bk 0, 0, none⟩)), (10, .pointer (some ⟨bk 1, 0, none⟩)), (12, .slice (some ⟨be, 0, none⟩) 2 2), (13, .slice (some ⟨bm, 0, none⟩) 2 2), (14, .int .i64 (sz : Int)), (15, .int .i64 (N : Int)), (16, .pointer (some ⟨b16, 0, none⟩)), (17, .pointer (some ⟨b17, 0, none⟩)), (18, .int .i64 q.1)]) (fun q => J2) (fun q => (twoL bk (xA mm q.1 0) q.2.1 ++ (avL b16 51 9 q.2.2 ++ (avL b17 51 9 (fun _ => Vec.nil) ++ Lf)))) (fun q => q.1 ≤ 2 ∧ (∀ k, k < 2 → EndIs (xA mm q.1 0 k) (q.2.1 k)) ∧ (∀ k, k < 2 → (q.2.2 k).Is 1 (strC (xA mm q.1 0 k).sent))) (fun q => 2 - q.1) (0, h0, fun _ => Vec.nil) ⟨Nat.zero_le _, by simp only [xA_zero]; exact hE0, fun k _ => by simp only [xA_zero]; exact Vec.nil_is 1⟩ ⟨rfl, rfl, rfl, rfl, rfl, rfl, rfl, rfl, rfl, rfl, trivial⟩ rfl (by simp only [xA_zero]; exact List.Perm.refl _) (fun q hq => ?_)
  obtain ⟨n, hh, SV⟩ := q
  obtain ⟨hn2, hEs, hSv⟩ := hq
  simp only at hn2 hEs hSv ⊢
  refine XC.seq ?_
  refine XC.seq ?_
  refine XC.weaken (E' := [(3, _), (9, _), (10, _), (12, _), (13, _), (14, _), (15, _), (16, _), (17, _), (18, _)]) ⟨rfl, rfl, rfl, rfl, rfl, rfl, rfl, rfl, rfl, rfl, trivial⟩ ?_
  refine XC.region ?_
  refine XO.rd rfl rfl rfl (Reads.move rfl) ?_
  refine XO.rd rfl rfl rfl (Reads.cmp rfl rfl rfl) ?_
  refine XO.nil ?_
  refine XQ.then_normal ?_
  refine XC.cond rfl (fun h1 => ?_) (fun h1 => ?_)
  · skip
    simp only [cmpInt, decide_eq_true_eq] at h1
    have hn : n < 2 := by omega
    refine XC.skip ?_
    refine XQ.then_normal ?_
    refine XC.seq ?_
    refine XC.block ?_
    refine XC.seq ?_
    refine XC.region ?_
    refine XO.rd rfl rfl rfl (Reads.assign rfl) ?_
    refine XO.nil ?_
    refine XQ.then_normal ?_
    refine XC.block ?_
    refine XC.loop (ι := Nat × (Nat → EH) × (Nat → Vec)) (fun q => [(3, .slice aw ws.length cw), (9, .pointer (some ⟨bk 0, 0, none⟩)), (10, .pointer (some ⟨bk 1, 0, none⟩)), (12, .slice (some ⟨be, 0, none⟩) 2 2), (13, .slice (some ⟨bm, 0, none⟩) 2 2), (14, .int .i64 (sz : Int)), (15, .int .i64 (N : Int)), (16, .pointer (some ⟨b16, 0, none⟩)), (17, .pointer (some ⟨b17, 0, none⟩)), (18, .int .i64 n), (19, .int .i64 q.1)]) (fun q => J2) (fun q => (twoL bk (xA mm n q.1) q.2.1 ++ (avL b16 51 9 q.2.2 ++ (avL b17 51 9 (fun _ => Vec.nil) ++ Lf)))) (fun q => q.1 ≤ mm n ∧ (∀ k, k < 2 → EndIs (xA mm n q.1 k) (q.2.1 k)) ∧ (∀ k, k < 2 → (q.2.2 k).Is 1 (strC (xA mm n q.1 k).sent))) (fun q => mm n - q.1) (0, hh, SV) ⟨Nat.zero_le _, hEs, hSv⟩ ⟨rfl, rfl, rfl, rfl, rfl, rfl, rfl, rfl, rfl, rfl, rfl, trivial⟩ rfl (List.Perm.refl _) (fun q hq => ?_)
    obtain ⟨i, hh, SV⟩ := q
    obtain ⟨hi1, hEs, hSv⟩ := hq
    simp only at hi1 hEs hSv ⊢
    have hmn := hm8 n hn
    refine XC.seq ?_
    refine XC.seq ?_
    refine XC.region ?_
    refine XO.rd rfl rfl rfl (Reads.move rfl) ?_
    refine XO.rd rfl rfl rfl (Reads.move rfl) ?_
    refine XO.rd rfl rfl rfl (Reads.move rfl) ?_
    refine XO.rd rfl rfl rfl (Reads.index_slot (q := n) Tryd.underlying52 z3 rfl rfl (by omega) (hM.isSome (by decide) (Nat.succ_pos 1)) (by omega)) ?_
    refine XO.rd rfl rfl rfl (Reads.load_at k3 rfl (Arr.two hM hn)) ?_
    refine XO.rd rfl rfl rfl (Reads.cmp rfl rfl rfl) ?_
    refine XO.nil ?_
    refine XQ.then_normal ?_
    refine XC.cond rfl (fun h2 => ?_) (fun h2 => ?_)
    · skip
      simp only [cmpInt, decide_eq_true_eq] at h2
      refine XC.skip ?_
      refine XQ.then_normal ?_
      refine XC.seq ?_
      refine XC.block ?_
      refine XC.seq ?_
      refine XC.region ?_
      refine XO.rd rfl rfl rfl (Reads.move rfl) ?_
      refine XO.rd rfl rfl rfl (Reads.mul rfl rfl (by omega)) ?_
      refine XO.rd rfl rfl rfl (Reads.move rfl) ?_
      refine XO.rd rfl rfl rfl (Reads.add rfl rfl (by omega)) ?_
      refine XO.callp rfl rfl en19 (body_any (17 * (i : Int) + (n : Int)) _ (by omega)) ⟨rfl, trivial⟩ ?_
      refine XO.rd rfl rfl rfl (Reads.assign rfl) ?_
      refine XO.nil ?_
      refine XQ.then_normal ?_
      refine XC.seq ?_
      refine XC.region ?_
      refine XO.rd rfl rfl rfl (Reads.move rfl) ?_
      refine XO.rd rfl rfl rfl (Reads.move rfl) ?_
      refine XO.rd rfl rfl rfl (Reads.index_arr_own (q := n) Tryd.underlying51 z44 rfl rfl (by omega) (by omega)) ?_
      refine XO.rd rfl rfl rfl (Reads.load_own (v := (SV n).val) k44 rfl (OwnAt.of 6 rfl (av_get hn))) ?_
      refine XO.rd rfl rfl rfl (Reads.move rfl) ?_
      refine XO.buildL [.string (bodyB (17 * (i : Int) + (n : Int)))] [.string (bodyB (17 * (i : Int) + (n : Int)))] rfl rfl Tryd.underlying44 el9 rfl (by simp) ⟨rfl, rfl, trivial⟩ rfl rfl (fun bu => ?_)
      refine XO.perm (perm_take [0, 6, 6, 6]) ?_
      refine XO.own_eq (L' := (some (bu, .cells #[.string (bodyB (17 * (i : Int) + (n : Int)))] 9 (0, 0)) :: (avL b16 51 9 SV ++ (twoL bk (xA mm n i) hh ++ (avL b17 51 9 (fun _ => Vec.nil) ++ Lf))))) rfl ?_
      have hSl := (hSv n hn).len
      rw [strC_len, Nat.mul_one, xA_sent, sentF_len] at hSl
      refine XO.append (V := SV n) (news := strC [bodyB (17 * (i : Int) + (n : Int))]) (n + 2) rfl rfl Tryd.underlying44 el9 rfl rfl (hSv n hn) (av_ent hn) (.slice Tryd.underlying44 (readable_row 0 rfl rfl) rfl (strC_one _)) (by omega) (by omega) ?_
      intro V' hV' hV'l
      refine XO.own_eq (av_app hn) ?_
      refine XO.rd rfl rfl rfl (Reads.index_arr_own (q := n) Tryd.underlying51 z44 rfl rfl (by omega) (by omega)) ?_
      refine XO.store 1 rfl z44 rfl rfl rfl rfl (by show n < 2; omega) ?_
      refine XO.own_eq (L' := (some (bu, .cells #[.string (bodyB (17 * (i : Int) + (n : Int)))] 9 (0, 0)) :: (avL b16 51 9 (upd SV n V') ++ (twoL bk (xA mm n i) hh ++ (avL b17 51 9 (fun _ => Vec.nil) ++ Lf))))) (congrArg (fun c => some (bu, .cells #[.string (bodyB (17 * (i : Int) + (n : Int)))] 9 (0, 0)) :: some (b16, Obj.cells c 51 (0, 0)) :: (upd SV n V' 0).ent 9 :: (upd SV n V' 1).ent 9 :: (twoL bk (xA mm n i) hh ++ (avL b17 51 9 (fun _ => Vec.nil) ++ Lf))) (av_store hn)) ?_
      refine XO.dropn 1 ?_
      refine XO.perm (perm_take [3, 3, 3, 3, 3, 3]) ?_
      refine XO.own_eq (L' := (twoL bk (xA mm n i) hh ++ (avL b16 51 9 (upd SV n V') ++ (avL b17 51 9 (fun _ => Vec.nil) ++ Lf)))) rfl ?_
      refine XO.nil ?_
      refine XQ.then_normal ?_
      refine XC.seq ?_
      refine XC.region ?_
      refine XO.rd rfl rfl rfl (Reads.move rfl) ?_
      refine XO.rd rfl rfl rfl (Reads.move rfl) ?_
      refine XO.rd rfl rfl rfl (Reads.index_slot (q := n) Tryd.underlying30 z25 rfl rfl (by omega) (hP.isSome (by decide) (Nat.succ_pos 1)) (by omega)) ?_
      refine XO.rd rfl rfl rfl (Reads.load_at k25 rfl (Arr.ptr hP hn)) ?_
      refine XO.rd rfl rfl rfl (Reads.move rfl) ?_
      refine XO.callo (vs := [_, _]) (L1 := endL (bk n) (xA mm n i n) (hh n)) rfl rfl rfl en20 ⟨rfl, rfl, trivial⟩ (send_is (xA_send (by omega)) (hEs n hn) (by have := bodyB_size (17 * (i : Int) + (n : Int)); omega)) (((twoL_out hn).append_right _).trans (by rw [List.append_assoc])) ?_
      rintro v I' L' _ ⟨rfl, hI', h', rfl, hE'⟩
      replace hI' := hI'.symm
      subst hI'
      refine XO.rd rfl rfl rfl (Reads.cmp_no rfl rfl rfl (by simp only [cmpInt, decide_eq_false_iff_not, beq_eq_false_iff_ne, bne_eq_false_iff_eq] <;> omega)) ?_
      refine XO.nil ?_
      refine XQ.then_normal ?_
      refine XC.cond rfl (fun hx => by cases hx) (fun _ => ?_)
      refine XC.skip ?_
      refine XQ.block_normal ?_
      refine XQ.then_normal ?_
      refine XC.region ?_
      refine XO.rd rfl rfl rfl (Reads.move rfl) ?_
      refine XO.rd rfl rfl rfl (Reads.add rfl rfl (by omega)) ?_
      refine XO.rd rfl rfl rfl (Reads.assign rfl) ?_
      refine XO.nil ?_
      refine XQ.back (i + 1, upd hh n h', upd SV n V') ⟨by simp only; omega, by simp only; rw [← xA_upd]; exact upd_is hEs hE', xA_vec hSv hV'⟩ (by simp only; omega) ⟨rfl, rfl, rfl, rfl, rfl, rfl, rfl, rfl, rfl, rfl, rfl, trivial⟩ rfl (by simp only; rw [← List.append_assoc]; have e := twoL_in (b := bk) (x := xA mm n i) (h := hh) (y := xA mm n (i + 1) n) (h' := h') hn; rw [xA_upd] at e; exact e.append_right _)
    · skip
      simp only [cmpInt, decide_eq_false_iff_not] at h2
      refine XC.exit ?_
      refine XQ.then_exit ?_
      refine XQ.then_exit ?_
      refine XQ.block_exit ?_
      refine XQ.block_normal ?_
      refine XQ.then_normal ?_
      refine XC.region ?_
      refine XO.rd rfl rfl rfl (Reads.move rfl) ?_
      refine XO.rd rfl rfl rfl (Reads.add rfl rfl (by omega)) ?_
      refine XO.rd rfl rfl rfl (Reads.assign rfl) ?_
      refine XO.nil ?_
      have hin : i = mm n := by omega
      subst hin
      rw [xA_next] at hEs hSv
      refine XQ.back (n + 1, hh, SV) ⟨by simp only; omega, hEs, hSv⟩ (by simp only; omega) ⟨rfl, rfl, rfl, rfl, rfl, rfl, rfl, rfl, rfl, rfl, trivial⟩ rfl (by simp only; rw [xA_next])
  · skip
    simp only [cmpInt, decide_eq_false_iff_not] at h1
    have hn2e : n = 2 := by omega
    subst hn2e
    refine XC.exit ?_
    refine XQ.then_exit ?_
    refine XQ.then_exit ?_
    refine XQ.block_exit ?_
    refine XQ.then_normal ?_
    refine XC.seq ?_
    refine XC.seq ?_
    refine XC.region ?_
    refine XO.rd rfl rfl rfl (Reads.assign rfl) ?_
    refine XO.nil ?_
    refine XQ.then_normal ?_
    refine XC.block ?_
    refine XC.loop (ι := Nat × (Nat → EH) × (Nat → Vec)) (fun q => [(3, .slice aw ws.length cw), (9, .pointer (some ⟨bk 0, 0, none⟩)), (10, .pointer (some ⟨bk 1, 0, none⟩)), (12, .slice (some ⟨be, 0, none⟩) 2 2), (14, .int .i64 (sz : Int)), (15, .int .i64 (N : Int)), (16, .pointer (some ⟨b16, 0, none⟩)), (17, .pointer (some ⟨b17, 0, none⟩)), (21, .int .i64 q.1)]) (fun q => J2) (fun q => (twoL bk (runR ws sz (xA mm 2 0) q.1) q.2.1 ++ (avL b17 51 9 q.2.2 ++ (avL b16 51 9 SV ++ Lf)))) (fun q => q.1 ≤ N ∧ (∀ k, k < 2 → EndIs (runR ws sz (xA mm 2 0) q.1 k) (q.2.1 k)) ∧ (∀ k, k < 2 → (q.2.2 k).Is 1 (strC (Lg ws sz (xA mm 2 0) q.1 k)))) (fun q => N - q.1) (0, hh, fun _ => Vec.nil) ⟨Nat.zero_le _, hEs, fun k _ => Vec.nil_is 1⟩ ⟨rfl, rfl, rfl, rfl, rfl, rfl, rfl, rfl, rfl, trivial⟩ rfl (perm_take [0, 0, 0, 0, 0, 0, 3, 3, 3]) (fun q hq => ?_)
    obtain ⟨r, hh, GV⟩ := q
    obtain ⟨hr1, hEs, hGv⟩ := hq
    simp only at hr1 hEs hGv ⊢
    have hGr := run_good (ws := ws) (size := sz) hGX r
    refine XC.seq ?_
    refine XC.seq ?_
    refine XC.region ?_
    refine XO.rd rfl rfl rfl (Reads.move rfl) ?_
    refine XO.rd rfl rfl rfl (Reads.move rfl) ?_
    refine XO.rd rfl rfl rfl (Reads.cmp rfl rfl rfl) ?_
    refine XO.nil ?_
    refine XQ.then_normal ?_
    refine XC.cond rfl (fun h3 => ?_) (fun h3 => ?_)
    · skip
      simp only [cmpInt, decide_eq_true_eq] at h3
      refine XC.skip ?_
      refine XQ.then_normal ?_
      refine XC.seq ?_
      refine XC.block ?_
      refine XC.seq ?_
      refine XC.region ?_
      refine XO.rd rfl rfl rfl (Reads.move rfl) ?_
      refine XO.callo (vs := [_]) (L1 := endL (bk 0) ((runR ws sz (xA mm 2 0) r) 0) (hh 0)) rfl rfl rfl en22 ⟨rfl, trivial⟩ (out_is rfl (hEs 0 (by decide)) hG) (((twoL_out (by decide : 0 < 2)).append_right _).trans (by rw [List.append_assoc])) ?_
      rintro v I' L' _ ⟨Va, rfl, hI', rfl, hVa, hVal⟩
      replace hI' := hI'.symm
      subst hI'
      refine XO.rd rfl rfl rfl (Reads.move rfl) ?_
      refine XO.callo (vs := [_]) (L1 := endL (bk 1) ((runR ws sz (xA mm 2 0) r) 1) (hh 1)) rfl rfl rfl en22 ⟨rfl, trivial⟩ (out_is rfl (hEs 1 (by decide)) hG) (perm_take [4, 4, 4]) ?_
      rintro v I' L' _ ⟨Vb, rfl, hI', rfl, hVb, hVbl⟩
      replace hI' := hI'.symm
      subst hI'
      obtain ⟨OV, hO0, hO1⟩ : ∃ OV : Nat → Vec, OV 0 = Va ∧ OV 1 = Vb := ⟨fun n => if n = 0 then Va else Vb, rfl, rfl⟩
      subst hO0
      subst hO1
      have hOV : ∀ k, k < 2 → (OV k).Is 4 (pktC (outF ((runR ws sz (xA mm 2 0) r) k))) ∧ (OV k).len = (outF ((runR ws sz (xA mm 2 0) r) k)).length := fun k hk => by
        match k, hk with
        | 0, _ => exact ⟨hVa, hVal⟩
        | 1, _ => exact ⟨hVb, hVbl⟩
      refine XO.buildL [(OV 0).val, (OV 1).val] [(OV 0).val, (OV 1).val] rfl rfl Tryd.underlying55 el37 rfl (by simp) ⟨rfl, rfl, rfl, rfl, trivial⟩ rfl rfl (fun bo => ?_)
      refine XO.perm (perm_take [6, 6, 6, 2, 2, 2, 0, 1, 0]) ?_
      refine XO.own_eq (L' := (twoL bk (runR ws sz (xA mm 2 0) r) hh ++ (avL bo 37 24 OV ++ (avL b17 51 9 GV ++ (avL b16 51 9 SV ++ Lf))))) rfl ?_
      refine XO.rd rfl rfl rfl (Reads.assign rfl) ?_
      refine XO.nil ?_
      refine XQ.then_normal ?_
      refine XC.seq ?_
      refine XC.region ?_
      refine XO.rd rfl rfl rfl (Reads.assign rfl) ?_
      refine XO.nil ?_
      refine XQ.then_normal ?_
      refine XC.block ?_
      refine XC.loop (ι := Nat × (Nat → EH) × (Nat → Vec)) (fun q => [(3, .slice aw ws.length cw), (9, .pointer (some ⟨bk 0, 0, none⟩)), (10, .pointer (some ⟨bk 1, 0, none⟩)), (12, .slice (some ⟨be, 0, none⟩) 2 2), (14, .int .i64 (sz : Int)), (15, .int .i64 (N : Int)), (16, .pointer (some ⟨b16, 0, none⟩)), (17, .pointer (some ⟨b17, 0, none⟩)), (21, .int .i64 r), (22, .slice (some ⟨bo, 0, none⟩) 2 2), (23, .int .i64 q.1)]) (fun q => J2) (fun q => (twoL bk (dF ws sz r (runR ws sz (xA mm 2 0) r) q.1) q.2.1 ++ (avL b17 51 9 q.2.2 ++ (avL bo 37 24 OV ++ (avL b16 51 9 SV ++ Lf))))) (fun q => q.1 ≤ 2 ∧ (∀ k, k < 2 → EndIs ((dF ws sz r (runR ws sz (xA mm 2 0) r) q.1) k) (q.2.1 k)) ∧ (∀ k, k < 2 → (q.2.2 k).Is 1 (strC ((gD ws sz r (runR ws sz (xA mm 2 0) r) (Lg ws sz (xA mm 2 0) r) q.1) k)))) (fun q => 2 - q.1) (0, hh, GV) ⟨Nat.zero_le _, fun k hk => by simp only [dF_zero]; exact hEs k hk, fun k hk => by simp only [gD_zero]; exact hGv k hk⟩ ⟨rfl, rfl, rfl, rfl, rfl, rfl, rfl, rfl, rfl, rfl, rfl, trivial⟩ rfl (by simp only; rw [twoL_congr (fun k _ => dF_zero ws sz r (runR ws sz (xA mm 2 0) r) k)]; exact perm_take [0, 0, 0, 0, 0, 0, 3, 3, 3]) (fun q hq => ?_)
      obtain ⟨n, hh, GV⟩ := q
      obtain ⟨hn2, hEs, hGv⟩ := hq
      simp only at hn2 hEs hGv ⊢
      refine XC.seq ?_
      refine XC.seq ?_
      refine XC.region ?_
      refine XO.rd rfl rfl rfl (Reads.move rfl) ?_
      refine XO.rd rfl rfl rfl (Reads.cmp rfl rfl rfl) ?_
      refine XO.nil ?_
      refine XQ.then_normal ?_
      refine XC.cond rfl (fun h4 => ?_) (fun h4 => ?_)
      · skip
        simp only [cmpInt, decide_eq_true_eq] at h4
        have hn : n < 2 := by omega
        have hn1 : 1 - n < 2 := by omega
        refine XC.skip ?_
        refine XQ.then_normal ?_
        refine XC.seq ?_
        refine XC.block ?_
        refine XC.seq ?_
        refine XC.region ?_
        refine XO.rd rfl rfl rfl (Reads.assign rfl) ?_
        refine XO.nil ?_
        refine XQ.then_normal ?_
        refine XC.block ?_
        refine XC.loop (ι := Nat × EH × (Nat → Vec)) (fun q => [(3, .slice aw ws.length cw), (9, .pointer (some ⟨bk 0, 0, none⟩)), (10, .pointer (some ⟨bk 1, 0, none⟩)), (12, .slice (some ⟨be, 0, none⟩) 2 2), (14, .int .i64 (sz : Int)), (15, .int .i64 (N : Int)), (16, .pointer (some ⟨b16, 0, none⟩)), (17, .pointer (some ⟨b17, 0, none⟩)), (21, .int .i64 r), (22, .slice (some ⟨bo, 0, none⟩) 2 2), (23, .int .i64 n), (24, .int .i64 q.1)]) (fun q => J2) (fun q => (endL (bk n) ((dF ws sz r (runR ws sz (xA mm 2 0) r) n) n) (hh n) ++ (endL (bk (1 - n)) (dE ws sz r (runR ws sz (xA mm 2 0) r) n q.1).1 q.2.1 ++ (avL b17 51 9 q.2.2 ++ (avL bo 37 24 OV ++ (avL b16 51 9 SV ++ Lf)))))) (fun q => q.1 ≤ (outF ((runR ws sz (xA mm 2 0) r) n)).length ∧ EndIs (dE ws sz r (runR ws sz (xA mm 2 0) r) n q.1).1 q.2.1 ∧ (∀ k, k < 2 → (q.2.2 k).Is 1 (strC ((gE ws sz r (runR ws sz (xA mm 2 0) r) (Lg ws sz (xA mm 2 0) r) n q.1) k)))) (fun q => (outF ((runR ws sz (xA mm 2 0) r) n)).length - q.1) (0, hh (1 - n), GV) ⟨Nat.zero_le _, by simp only; rw [← dF_recv ws sz r (runR ws sz (xA mm 2 0) r) hn]; exact hEs _ hn1, fun k hk => by simp only; rw [gE_zero ws sz r (runR ws sz (xA mm 2 0) r) _ hn hk]; exact hGv k hk⟩ ⟨rfl, rfl, rfl, rfl, rfl, rfl, rfl, rfl, rfl, rfl, rfl, rfl, trivial⟩ rfl (by simp only; rw [← dF_recv ws sz r (runR ws sz (xA mm 2 0) r) hn]; exact ((twoL_out hn).append_right _).trans (by rw [List.append_assoc])) (fun q hq => ?_)
        obtain ⟨i, hb, GV⟩ := q
        obtain ⟨hi1, hEb, hGv⟩ := hq
        simp only at hi1 hEb hGv ⊢
        have hOl := (hOV n hn).2
        have hO4 := outF_len ((runR ws sz (xA mm 2 0) r) n)
        refine XC.seq ?_
        refine XC.seq ?_
        refine XC.region ?_
        refine XO.rd rfl rfl rfl (Reads.move rfl) ?_
        refine XO.rd rfl rfl rfl (Reads.move rfl) ?_
        refine XO.rd rfl rfl rfl (Reads.move rfl) ?_
        refine XO.rd rfl rfl rfl (Reads.index_own (q := n) Tryd.underlying55 z37 rfl rfl (by omega) (by omega)) ?_
        refine XO.rd rfl rfl rfl (Reads.load_own (v := (OV n).val) k37 rfl (OwnAt.of 9 rfl (av_get hn))) ?_
        refine XO.rd rfl rfl rfl (Reads.len_slice Tryd.underlying37 rfl) ?_
        refine XO.rd rfl rfl rfl (Reads.cmp rfl rfl rfl) ?_
        refine XO.nil ?_
        refine XQ.then_normal ?_
        refine XC.cond rfl (fun h5 => ?_) (fun h5 => ?_)
        · skip
          simp only [cmpInt, decide_eq_true_eq] at h5
          have hi3 : i < (outF ((runR ws sz (xA mm 2 0) r) n)).length := by omega
          have hpm : (outF ((runR ws sz (xA mm 2 0) r) n))[i] ∈ (outF ((runR ws sz (xA mm 2 0) r) n)) := List.getElem_mem hi3
          have hpin := outF_in (hGr.sys.ok n hn) _ hpm
          have hfp : Lk.Form (outF ((runR ws sz (xA mm 2 0) r) n))[i] := (out_of hGr.sys hn hpm).2.1
          have hps0 := hfp.s0
          have hps1 := hfp.s1
          refine XC.skip ?_
          refine XQ.then_normal ?_
          refine XC.seq ?_
          refine XC.block ?_
          refine XC.seq ?_
          refine XC.region ?_
          refine XO.rd rfl rfl rfl (Reads.move rfl) ?_
          refine XO.rd rfl rfl rfl (Reads.move rfl) ?_
          refine XO.rd rfl rfl rfl (Reads.index_own (q := n) Tryd.underlying55 z37 rfl rfl (by omega) (by omega)) ?_
          refine XO.rd rfl rfl rfl (Reads.load_own (v := (OV n).val) k37 rfl (OwnAt.of 9 rfl (av_get hn))) ?_
          refine XO.rd rfl rfl rfl (Reads.move rfl) ?_
          refine XO.rd rfl rfl rfl (Reads.index_slot (q := i * 4) Tryd.underlying37 z24 rfl rfl (by omega) (vec_isSomes (k := i * 4 + 0) (hOV n hn).1 (pktC_at _ hi3 0 _ rfl)) (by omega)) ?_
          refine XO.rd rfl rfl rfl (Reads.load_agg_vecs (V := OV n) (vs := (outF ((runR ws sz (xA mm 2 0) r) n))[i].cells) k24 z24 rfl (hOV n hn).1 (e := 24) (List.mem_append_right _ (List.mem_append_right _ (List.mem_append_right _ (av_mem hn)))) (Nat.succ_pos _) (pktC_at _ hi3)) ?_
          refine XO.alloc (cs := #[.int .i64 0, .int .i64 0, .string ⟨#[]⟩, .string ⟨#[]⟩]) rfl rfl zo24 rfl (fun b25 => ?_)
          refine XO.store_agg (vs := (outF ((runR ws sz (xA mm 2 0) r) n))[i].cells) 0 rfl z24 rfl rfl (by intro v hv; simp at hv; rcases hv with rfl | rfl | rfl | rfl <;> rfl) rfl (Nat.le_refl 4) ?_
          refine XO.own_eq (congrArg (fun c => some (b25, Obj.cells c 24 (0, 0)) :: _) (show _ = (outF ((runR ws sz (xA mm 2 0) r) n))[i].cells.toArray from rfl)) ?_
          refine XO.nil ?_
          refine XQ.then_normal ?_
          refine XC.seq ?_
          refine XC.region ?_
          refine XO.rd rfl rfl rfl (Reads.assign rfl) ?_
          refine XO.nil ?_
          refine XQ.then_normal ?_
          refine XC.seq ?_
          refine XC.seq ?_
          refine XC.region ?_
          refine XO.rd rfl rfl rfl (Reads.move rfl) ?_
          refine XO.rd rfl rfl rfl (Reads.len_slice Tryd.underlying52 rfl) ?_
          refine XO.rd rfl rfl rfl (Reads.cmp rfl rfl rfl) ?_
          refine XO.nil ?_
          refine XQ.then_normal ?_
          refine XC.cond rfl (fun h6 => ?_) (fun h6 => ?_)
          · skip
            simp only [cmpInt, decide_eq_true_eq] at h6
            have hdiv := Nat.div_le_self r sz
            have hdiv0 : (0 : Int) ≤ (r : Int) / (sz : Int) := Int.ediv_nonneg (Int.natCast_nonneg _) (Int.natCast_nonneg _)
            have hpr := pickI_range (c := (7 * ((r / sz : Nat) : Int) + 3 * (outF ((runR ws sz (xA mm 2 0) r) n))[i].ser + ((n : Nat) : Int))) (n := ((ws.length : Nat) : Int)) (by omega)
            refine XC.weaken (E' := [(3, _), (9, _), (10, _), (12, _), (14, _), (15, _), (16, _), (17, _), (21, _), (22, _), (23, _), (24, _), (25, _)]) ⟨rfl, rfl, rfl, rfl, rfl, rfl, rfl, rfl, rfl, rfl, rfl, rfl, rfl, trivial⟩ ?_
            refine XC.draw m_mixed none (.pure 0 (.pure 1 (.pure 2 (.pure 3 (.pure 4 (.pure 5 (.pure 6 (.pure 7 (.pure 8 (.pure 9 (.pure 10 (.pure 11 (.pure 12 (.pure 16 (.eff 13 (.pure 14 (.pure 15 (.eff 17 (.pure 18 (.done)))))))))))))))))))) [some (b25, .cells (outF ((runR ws sz (xA mm 2 0) r) n))[i].cells.toArray 24 (0, 0))] (by kernel_rfl) (List.Sublist.cons_cons _ (List.nil_sublist _)) ?_
            refine XR.rd rfl rfl rfl (Reads.move rfl) ?_
            refine XR.rd rfl rfl rfl (Reads.move rfl) ?_
            refine XR.rd rfl rfl rfl (Reads.move rfl) ?_
            refine XR.rd rfl rfl rfl (Reads.quo rfl rfl (by omega) (by omega)) ?_
            rw [show (r : Int) / (sz : Int) = ((r / sz : Nat) : Int) from rfl]
            have hdv := Nat.div_le_self r sz
            refine XR.rd rfl rfl rfl (Reads.mul rfl rfl (by omega)) ?_
            refine XR.rd rfl rfl rfl (fa24_0 rfl) ?_
            refine XR.rd rfl rfl rfl (Reads.load_own (v := .int .i64 (outF ((runR ws sz (xA mm 2 0) r) n))[i].ser) k3 rfl (OwnAt.of 0 rfl rfl)) ?_
            refine XR.rd rfl rfl rfl (Reads.mul rfl rfl (by omega)) ?_
            refine XR.rd rfl rfl rfl (Reads.add rfl rfl (by omega)) ?_
            refine XR.rd rfl rfl rfl (Reads.move rfl) ?_
            refine XR.rd rfl rfl rfl (Reads.add rfl rfl (by omega)) ?_
            refine XR.rd rfl rfl rfl (Reads.move rfl) ?_
            refine XR.rd rfl rfl rfl (Reads.len_slice Tryd.underlying52 rfl) ?_
            refine XR.rd rfl rfl rfl (Reads.move rfl) ?_
            refine XR.callp rfl rfl rfl en18 (pickL_any (7 * ((r / sz : Nat) : Int) + 3 * (outF ((runR ws sz (xA mm 2 0) r) n))[i].ser + ((n : Nat) : Int)) ((ws.length : Nat) : Int) _ (by omega) (by omega)) ⟨rfl, rfl, trivial⟩ (List.Sublist.cons_cons _ (List.nil_sublist _)) ?_
            obtain ⟨j, hjj⟩ : ∃ j : Nat, pickI (7 * ((r / sz : Nat) : Int) + 3 * (outF ((runR ws sz (xA mm 2 0) r) n))[i].ser + ((n : Nat) : Int)) ((ws.length : Nat) : Int) = j := ⟨(pickI (7 * ((r / sz : Nat) : Int) + 3 * (outF ((runR ws sz (xA mm 2 0) r) n))[i].ser + ((n : Nat) : Int)) ((ws.length : Nat) : Int)).toNat, by omega⟩
            have hj3 : j < ws.length := by omega
            rw [hjj]
            refine XR.rd rfl rfl rfl (Reads.index_slot (q := j) Tryd.underlying52 z3 rfl rfl (by omega) (hWs.isSome (by decide) (by omega)) (by omega)) ?_
            refine XR.rd rfl rfl rfl (Reads.load_at k3 rfl (by simpa using hWs.int hj3)) ?_
            refine XR.callp rfl rfl rfl en18 (pickL_any ws[j] (sz : Int) _ (hws _ (List.getElem_mem hj3)) (by omega)) ⟨rfl, rfl, trivial⟩ (List.Sublist.cons_cons _ (List.nil_sublist _)) ?_
            have hw : whenF ws sz ((r / sz : Nat) : Int) n (outF ((runR ws sz (xA mm 2 0) r) n))[i].ser = pickI ws[j] (sz : Int) := by unfold whenF; rw [if_neg (by omega), hjj]; simp [hj3]
            refine XR.rd rfl rfl rfl (Reads.assign rfl) ?_
            refine XR.nil ?_
            refine XQ.then_normal ?_
            refine XC.seq ?_
            refine XC.seq ?_
            refine XC.region ?_
            refine XO.rd rfl rfl rfl (Reads.move rfl) ?_
            refine XO.rd rfl rfl rfl (Reads.move rfl) ?_
            refine XO.rd rfl rfl rfl (Reads.rem rfl rfl (by omega) (by omega)) ?_
            rw [show (r : Int) % (sz : Int) = ((r % sz : Nat) : Int) from rfl]
            refine XO.rd rfl rfl rfl (Reads.move rfl) ?_
            refine XO.rd rfl rfl rfl (Reads.cmp rfl rfl rfl) ?_
            refine XO.nil ?_
            refine XQ.then_normal ?_
            refine XC.cond rfl (fun h7 => ?_) (fun h7 => ?_)
            · skip
              simp only [cmpInt, bne_iff_ne, ne_eq] at h7
              have hhit : hitF ws sz r n (outF ((runR ws sz (xA mm 2 0) r) n))[i] = false := by unfold hitF; rw [hw]; exact decide_eq_false h7
              refine XC.exit ?_
              refine XQ.then_exit ?_
              refine XQ.block_exit ?_
              refine XQ.then_normal ?_
              refine XC.region ?_
              refine XO.rd rfl rfl rfl (Reads.move rfl) ?_
              refine XO.rd rfl rfl rfl (Reads.add rfl rfl (by omega)) ?_
              refine XO.rd rfl rfl rfl (Reads.assign rfl) ?_
              refine XO.nil ?_
              refine XQ.dropn 1 ?_
              refine XQ.back (i + 1, hb, GV) ⟨by simp only; omega, by simp only; rw [dE_skip hi3 hhit]; exact hEb, by simp only; unfold gE; rw [dE_skip hi3 hhit]; exact hGv⟩ (by simp only; omega) ⟨rfl, rfl, rfl, rfl, rfl, rfl, rfl, rfl, rfl, rfl, rfl, rfl, trivial⟩ rfl (by simp only; rw [dE_skip hi3 hhit]; exact List.Perm.refl _)
            · skip
              simp only [cmpInt, bne_eq_false_iff_eq] at h7
              have hhit : hitF ws sz r n (outF ((runR ws sz (xA mm 2 0) r) n))[i] = true := by unfold hitF; rw [hw]; exact decide_eq_true h7
              refine XC.skip ?_
              refine XQ.then_normal ?_
              refine XC.seq ?_
              refine XC.draw m_mixed none (.pure 0 (.pure 1 (.pure 2 (.pure 3 (.pure 4 (.pure 5 (.eff 6 (.pure 7 (.pure 8 (.pure 9 (.pure 10 (.pure 11 (.done))))))))))))) [some (b25, .cells (outF ((runR ws sz (xA mm 2 0) r) n))[i].cells.toArray 24 (0, 0))] (by kernel_rfl) (List.Sublist.cons_cons _ (List.nil_sublist _)) ?_
              refine XR.rd rfl rfl rfl (Reads.move rfl) ?_
              refine XR.rd rfl rfl rfl (Reads.move rfl) ?_
              refine XR.rd rfl rfl rfl (Reads.sub rfl rfl (by omega)) ?_
              rw [show (1 : Int) - (n : Int) = ((1 - n : Nat) : Int) by omega]
              refine XR.rd rfl rfl rfl (Reads.index_slot (q := 1 - n) Tryd.underlying30 z25 rfl rfl (by omega) (hP.isSome (by decide) (Nat.succ_pos 1)) (by omega)) ?_
              refine XR.rd rfl rfl rfl (Reads.load_at k25 rfl (Arr.ptr hP (by omega))) ?_
              refine XR.rd rfl rfl rfl (Reads.load_whole (c := ((outF ((runR ws sz (xA mm 2 0) r) n))[i]).cells.toArray) k24 z24 rfl (WholeAt.of 0 rfl) rfl) ?_
              obtain ⟨y1, ms1, hin1, hde1, hle1'⟩ := dE_hit hGr hn hi3 hhit
              refine XR.callo (vs := [_, _]) (L1 := endL (bk (1 - n)) (dE ws sz r (runR ws sz (xA mm 2 0) r) n i).1 hb) rfl rfl rfl rfl en26 ⟨rfl, rfl, trivial⟩ (in_is hin1 hEb hpin hG) (perm_take [4, 4, 4]) ?_
              rintro v I' L' _ ⟨V3, hb', rfl, hI', rfl, hV3, hV3l, hEb'⟩
              replace hI' := hI'.symm
              subst hI'
              refine ⟨.inr (List.Sublist.cons _ (List.Sublist.cons _ (List.Sublist.cons _ (List.Sublist.cons _ (List.Sublist.cons_cons _ (List.nil_sublist _)))))), ?_⟩
              refine XR.rd rfl rfl rfl (Reads.move rfl) ?_
              refine XR.rd rfl rfl rfl (Reads.extract rfl rfl) ?_
              refine XR.rd rfl rfl rfl (Reads.extract rfl rfl) ?_
              refine XR.rd rfl rfl rfl (Reads.assign rfl) ?_
              refine XR.rd rfl rfl rfl (Reads.assign rfl) ?_
              refine XR.nil ?_
              refine XQ.then_normal ?_
              refine XC.seq ?_
              refine XC.seq ?_
              refine XC.weaken (E' := [(3, _), (9, _), (10, _), (12, _), (14, _), (15, _), (16, _), (17, _), (21, _), (22, _), (23, _), (24, _), (27, _), (28, _)]) ⟨rfl, rfl, rfl, rfl, rfl, rfl, rfl, rfl, rfl, rfl, rfl, rfl, rfl, rfl, trivial⟩ ?_
              refine XC.region ?_
              refine XO.rd rfl rfl rfl (Reads.move rfl) ?_
              refine XO.rd rfl rfl rfl (Reads.cmp_no rfl rfl rfl (by simp only [cmpInt, decide_eq_false_iff_not, beq_eq_false_iff_ne, bne_eq_false_iff_eq] <;> omega)) ?_
              refine XO.nil ?_
              refine XQ.then_normal ?_
              refine XC.cond rfl (fun hx => by cases hx) (fun _ => ?_)
              refine XC.skip ?_
              refine XQ.then_normal ?_
              refine XC.region ?_
              refine XO.perm (perm_take [0, 7, 7, 7, 0, 0, 0, 1, 1, 1]) ?_
              refine XO.own_eq (L' := (V3.ent 9 :: (avL b17 51 9 GV ++ (endL (bk (1 - n)) y1 hb' ++ (endL (bk n) ((dF ws sz r (runR ws sz (xA mm 2 0) r) n) n) (hh n) ++ (some (b25, .cells (outF ((runR ws sz (xA mm 2 0) r) n))[i].cells.toArray 24 (0, 0)) :: (avL bo 37 24 OV ++ (avL b16 51 9 SV ++ Lf)))))))) rfl ?_
              refine XO.rd rfl rfl rfl (Reads.move rfl) ?_
              refine XO.rd rfl rfl rfl (Reads.sub rfl rfl (by omega)) ?_
              rw [show (1 : Int) - (n : Int) = ((1 - n : Nat) : Int) by omega]
              refine XO.rd rfl rfl rfl (Reads.move rfl) ?_
              refine XO.rd rfl rfl rfl (Reads.sub rfl rfl (by omega)) ?_
              rw [show (1 : Int) - (n : Int) = ((1 - n : Nat) : Int) by omega]
              refine XO.rd rfl rfl rfl (Reads.index_arr_own (q := 1 - n) Tryd.underlying51 z44 rfl rfl (by omega) (by omega)) ?_
              refine XO.rd rfl rfl rfl (Reads.load_own (v := (GV (1 - n)).val) k44 rfl (OwnAt.of 1 rfl (av_get hn1))) ?_
              refine XO.rd rfl rfl rfl (Reads.move rfl) ?_
              have hGl := (hGv (1 - n) hn1).len
              have hLl := Lg_len (ws := ws) (size := sz) (r := r) hGX hn1
              have hge : (gE ws sz r (runR ws sz (xA mm 2 0) r) (Lg ws sz (xA mm 2 0) r) n i) (1 - n) = Lg ws sz (xA mm 2 0) r (1 - n) ++ (dE ws sz r (runR ws sz (xA mm 2 0) r) n i).2 := if_pos rfl
              rw [strC_len, Nat.mul_one, hge, List.length_append] at hGl
              refine XO.append (V := GV (1 - n)) (news := strC ms1) ((1 - n) + 2) rfl rfl Tryd.underlying44 el9 rfl rfl (hGv (1 - n) hn1) (av_ent hn1) (.slice Tryd.underlying44 (hV3.readable (e := 9) (List.Mem.head _)) (by rw [strC_len, hV3l, Nat.mul_one]) (strC_one _)) (by omega) (by omega) ?_
              intro V' hV' hV'l
              refine XO.own_eq (av_app hn1) ?_
              refine XO.rd rfl rfl rfl (Reads.index_arr_own (q := 1 - n) Tryd.underlying51 z44 rfl rfl (by omega) (by omega)) ?_
              refine XO.store 1 rfl z44 rfl rfl rfl rfl (by show (1 - n) < 2; omega) ?_
              refine XO.own_eq (L' := (V3.ent 9 :: (avL b17 51 9 (upd GV (1 - n) V') ++ (endL (bk (1 - n)) y1 hb' ++ (endL (bk n) ((dF ws sz r (runR ws sz (xA mm 2 0) r) n) n) (hh n) ++ (some (b25, .cells (outF ((runR ws sz (xA mm 2 0) r) n))[i].cells.toArray 24 (0, 0)) :: (avL bo 37 24 OV ++ (avL b16 51 9 SV ++ Lf)))))))) (congrArg (fun c => V3.ent 9 :: some (b17, Obj.cells c 51 (0, 0)) :: (upd GV (1 - n) V' 0).ent 9 :: (upd GV (1 - n) V' 1).ent 9 :: (endL (bk (1 - n)) y1 hb' ++ (endL (bk n) ((dF ws sz r (runR ws sz (xA mm 2 0) r) n) n) (hh n) ++ (some (b25, .cells (outF ((runR ws sz (xA mm 2 0) r) n))[i].cells.toArray 24 (0, 0)) :: (avL bo 37 24 OV ++ (avL b16 51 9 SV ++ Lf)))))) (av_store hn1)) ?_
              refine XO.dropn 1 ?_
              refine XO.nil ?_
              refine XQ.block_normal ?_
              refine XQ.then_normal ?_
              refine XC.region ?_
              refine XO.rd rfl rfl rfl (Reads.move rfl) ?_
              refine XO.rd rfl rfl rfl (Reads.add rfl rfl (by omega)) ?_
              refine XO.rd rfl rfl rfl (Reads.assign rfl) ?_
              refine XO.nil ?_
              refine XQ.perm (perm_take [9]) ?_
              refine XQ.dropn 1 ?_
              refine XQ.back (i + 1, hb', upd GV (1 - n) V') ⟨by simp only; omega, by simp only; rw [hde1]; exact hEb', by simp only; exact gE_vec hde1 hGv hV'⟩ (by simp only; omega) ⟨rfl, rfl, rfl, rfl, rfl, rfl, rfl, rfl, rfl, rfl, rfl, rfl, trivial⟩ rfl (by simp only; rw [hde1]; exact perm_take [6, 6, 6, 3, 3, 3])
          · skip
            simp only [cmpInt, decide_eq_false_iff_not] at h6
            have hw : whenF ws sz ((r / sz : Nat) : Int) n (outF ((runR ws sz (xA mm 2 0) r) n))[i].ser = 0 := if_pos (by omega)
            refine XC.skip ?_
            refine XQ.then_normal ?_
            refine XC.seq ?_
            refine XC.seq ?_
            refine XC.weaken (E' := [(3, _), (9, _), (10, _), (12, _), (14, _), (15, _), (16, _), (17, _), (21, _), (22, _), (23, _), (24, _), (25, _), (26, _)]) ⟨rfl, rfl, rfl, rfl, rfl, rfl, rfl, rfl, rfl, rfl, rfl, rfl, rfl, rfl, trivial⟩ ?_
            refine XC.region ?_
            refine XO.rd rfl rfl rfl (Reads.move rfl) ?_
            refine XO.rd rfl rfl rfl (Reads.move rfl) ?_
            refine XO.rd rfl rfl rfl (Reads.rem rfl rfl (by omega) (by omega)) ?_
            rw [show (r : Int) % (sz : Int) = ((r % sz : Nat) : Int) from rfl]
            refine XO.rd rfl rfl rfl (Reads.move rfl) ?_
            refine XO.rd rfl rfl rfl (Reads.cmp rfl rfl rfl) ?_
            refine XO.nil ?_
            refine XQ.then_normal ?_
            refine XC.cond rfl (fun h8 => ?_) (fun h8 => ?_)
            · skip
              simp only [cmpInt, bne_iff_ne, ne_eq] at h8
              have hhit : hitF ws sz r n (outF ((runR ws sz (xA mm 2 0) r) n))[i] = false := by unfold hitF; rw [hw]; exact decide_eq_false h8
              refine XC.exit ?_
              refine XQ.then_exit ?_
              refine XQ.block_exit ?_
              refine XQ.then_normal ?_
              refine XC.region ?_
              refine XO.rd rfl rfl rfl (Reads.move rfl) ?_
              refine XO.rd rfl rfl rfl (Reads.add rfl rfl (by omega)) ?_
              refine XO.rd rfl rfl rfl (Reads.assign rfl) ?_
              refine XO.nil ?_
              refine XQ.dropn 1 ?_
              refine XQ.back (i + 1, hb, GV) ⟨by simp only; omega, by simp only; rw [dE_skip hi3 hhit]; exact hEb, by simp only; unfold gE; rw [dE_skip hi3 hhit]; exact hGv⟩ (by simp only; omega) ⟨rfl, rfl, rfl, rfl, rfl, rfl, rfl, rfl, rfl, rfl, rfl, rfl, trivial⟩ rfl (by simp only; rw [dE_skip hi3 hhit]; exact List.Perm.refl _)
            · skip
              simp only [cmpInt, bne_eq_false_iff_eq] at h8
              have hhit : hitF ws sz r n (outF ((runR ws sz (xA mm 2 0) r) n))[i] = true := by unfold hitF; rw [hw]; exact decide_eq_true h8
              refine XC.skip ?_
              refine XQ.then_normal ?_
              refine XC.seq ?_
              refine XC.draw m_mixed none (.pure 0 (.pure 1 (.pure 2 (.pure 3 (.pure 4 (.pure 5 (.eff 6 (.pure 7 (.pure 8 (.pure 9 (.pure 10 (.pure 11 (.done))))))))))))) [some (b25, .cells (outF ((runR ws sz (xA mm 2 0) r) n))[i].cells.toArray 24 (0, 0))] (by kernel_rfl) (List.Sublist.cons_cons _ (List.nil_sublist _)) ?_
              refine XR.rd rfl rfl rfl (Reads.move rfl) ?_
              refine XR.rd rfl rfl rfl (Reads.move rfl) ?_
              refine XR.rd rfl rfl rfl (Reads.sub rfl rfl (by omega)) ?_
              rw [show (1 : Int) - (n : Int) = ((1 - n : Nat) : Int) by omega]
              refine XR.rd rfl rfl rfl (Reads.index_slot (q := 1 - n) Tryd.underlying30 z25 rfl rfl (by omega) (hP.isSome (by decide) (Nat.succ_pos 1)) (by omega)) ?_
              refine XR.rd rfl rfl rfl (Reads.load_at k25 rfl (Arr.ptr hP (by omega))) ?_
              refine XR.rd rfl rfl rfl (Reads.load_whole (c := ((outF ((runR ws sz (xA mm 2 0) r) n))[i]).cells.toArray) k24 z24 rfl (WholeAt.of 0 rfl) rfl) ?_
              obtain ⟨y1, ms1, hin1, hde1, hle1'⟩ := dE_hit hGr hn hi3 hhit
              refine XR.callo (vs := [_, _]) (L1 := endL (bk (1 - n)) (dE ws sz r (runR ws sz (xA mm 2 0) r) n i).1 hb) rfl rfl rfl rfl en26 ⟨rfl, rfl, trivial⟩ (in_is hin1 hEb hpin hG) (perm_take [4, 4, 4]) ?_
              rintro v I' L' _ ⟨V3, hb', rfl, hI', rfl, hV3, hV3l, hEb'⟩
              replace hI' := hI'.symm
              subst hI'
              refine ⟨.inr (List.Sublist.cons _ (List.Sublist.cons _ (List.Sublist.cons _ (List.Sublist.cons _ (List.Sublist.cons_cons _ (List.nil_sublist _)))))), ?_⟩
              refine XR.rd rfl rfl rfl (Reads.move rfl) ?_
              refine XR.rd rfl rfl rfl (Reads.extract rfl rfl) ?_
              refine XR.rd rfl rfl rfl (Reads.extract rfl rfl) ?_
              refine XR.rd rfl rfl rfl (Reads.assign rfl) ?_
              refine XR.rd rfl rfl rfl (Reads.assign rfl) ?_
              refine XR.nil ?_
              refine XQ.then_normal ?_
              refine XC.seq ?_
              refine XC.seq ?_
              refine XC.region ?_
              refine XO.rd rfl rfl rfl (Reads.move rfl) ?_
              refine XO.rd rfl rfl rfl (Reads.cmp_no rfl rfl rfl (by simp only [cmpInt, decide_eq_false_iff_not, beq_eq_false_iff_ne, bne_eq_false_iff_eq] <;> omega)) ?_
              refine XO.nil ?_
              refine XQ.then_normal ?_
              refine XC.cond rfl (fun hx => by cases hx) (fun _ => ?_)
              refine XC.skip ?_
              refine XQ.then_normal ?_
              refine XC.region ?_
              refine XO.perm (perm_take [0, 7, 7, 7, 0, 0, 0, 1, 1, 1]) ?_
              refine XO.own_eq (L' := (V3.ent 9 :: (avL b17 51 9 GV ++ (endL (bk (1 - n)) y1 hb' ++ (endL (bk n) ((dF ws sz r (runR ws sz (xA mm 2 0) r) n) n) (hh n) ++ (some (b25, .cells (outF ((runR ws sz (xA mm 2 0) r) n))[i].cells.toArray 24 (0, 0)) :: (avL bo 37 24 OV ++ (avL b16 51 9 SV ++ Lf)))))))) rfl ?_
              refine XO.rd rfl rfl rfl (Reads.move rfl) ?_
              refine XO.rd rfl rfl rfl (Reads.sub rfl rfl (by omega)) ?_
              rw [show (1 : Int) - (n : Int) = ((1 - n : Nat) : Int) by omega]
              refine XO.rd rfl rfl rfl (Reads.move rfl) ?_
              refine XO.rd rfl rfl rfl (Reads.sub rfl rfl (by omega)) ?_
              rw [show (1 : Int) - (n : Int) = ((1 - n : Nat) : Int) by omega]
              refine XO.rd rfl rfl rfl (Reads.index_arr_own (q := 1 - n) Tryd.underlying51 z44 rfl rfl (by omega) (by omega)) ?_
              refine XO.rd rfl rfl rfl (Reads.load_own (v := (GV (1 - n)).val) k44 rfl (OwnAt.of 1 rfl (av_get hn1))) ?_
              refine XO.rd rfl rfl rfl (Reads.move rfl) ?_
              have hGl := (hGv (1 - n) hn1).len
              have hLl := Lg_len (ws := ws) (size := sz) (r := r) hGX hn1
              have hge : (gE ws sz r (runR ws sz (xA mm 2 0) r) (Lg ws sz (xA mm 2 0) r) n i) (1 - n) = Lg ws sz (xA mm 2 0) r (1 - n) ++ (dE ws sz r (runR ws sz (xA mm 2 0) r) n i).2 := if_pos rfl
              rw [strC_len, Nat.mul_one, hge, List.length_append] at hGl
              refine XO.append (V := GV (1 - n)) (news := strC ms1) ((1 - n) + 2) rfl rfl Tryd.underlying44 el9 rfl rfl (hGv (1 - n) hn1) (av_ent hn1) (.slice Tryd.underlying44 (hV3.readable (e := 9) (List.Mem.head _)) (by rw [strC_len, hV3l, Nat.mul_one]) (strC_one _)) (by omega) (by omega) ?_
              intro V' hV' hV'l
              refine XO.own_eq (av_app hn1) ?_
              refine XO.rd rfl rfl rfl (Reads.index_arr_own (q := 1 - n) Tryd.underlying51 z44 rfl rfl (by omega) (by omega)) ?_
              refine XO.store 1 rfl z44 rfl rfl rfl rfl (by show (1 - n) < 2; omega) ?_
              refine XO.own_eq (L' := (V3.ent 9 :: (avL b17 51 9 (upd GV (1 - n) V') ++ (endL (bk (1 - n)) y1 hb' ++ (endL (bk n) ((dF ws sz r (runR ws sz (xA mm 2 0) r) n) n) (hh n) ++ (some (b25, .cells (outF ((runR ws sz (xA mm 2 0) r) n))[i].cells.toArray 24 (0, 0)) :: (avL bo 37 24 OV ++ (avL b16 51 9 SV ++ Lf)))))))) (congrArg (fun c => V3.ent 9 :: some (b17, Obj.cells c 51 (0, 0)) :: (upd GV (1 - n) V' 0).ent 9 :: (upd GV (1 - n) V' 1).ent 9 :: (endL (bk (1 - n)) y1 hb' ++ (endL (bk n) ((dF ws sz r (runR ws sz (xA mm 2 0) r) n) n) (hh n) ++ (some (b25, .cells (outF ((runR ws sz (xA mm 2 0) r) n))[i].cells.toArray 24 (0, 0)) :: (avL bo 37 24 OV ++ (avL b16 51 9 SV ++ Lf)))))) (av_store hn1)) ?_
              refine XO.dropn 1 ?_
              refine XO.nil ?_
              refine XQ.block_normal ?_
              refine XQ.then_normal ?_
              refine XC.region ?_
              refine XO.rd rfl rfl rfl (Reads.move rfl) ?_
              refine XO.rd rfl rfl rfl (Reads.add rfl rfl (by omega)) ?_
              refine XO.rd rfl rfl rfl (Reads.assign rfl) ?_
              refine XO.nil ?_
              refine XQ.perm (perm_take [9]) ?_
              refine XQ.dropn 1 ?_
              refine XQ.back (i + 1, hb', upd GV (1 - n) V') ⟨by simp only; omega, by simp only; rw [hde1]; exact hEb', by simp only; exact gE_vec hde1 hGv hV'⟩ (by simp only; omega) ⟨rfl, rfl, rfl, rfl, rfl, rfl, rfl, rfl, rfl, rfl, rfl, rfl, trivial⟩ rfl (by simp only; rw [hde1]; exact perm_take [6, 6, 6, 3, 3, 3])
        · skip
          simp only [cmpInt, decide_eq_false_iff_not] at h5
          refine XC.exit ?_
          refine XQ.then_exit ?_
          refine XQ.then_exit ?_
          refine XQ.block_exit ?_
          refine XQ.block_normal ?_
          refine XQ.then_normal ?_
          refine XC.region ?_
          refine XO.rd rfl rfl rfl (Reads.move rfl) ?_
          refine XO.rd rfl rfl rfl (Reads.add rfl rfl (by omega)) ?_
          refine XO.rd rfl rfl rfl (Reads.assign rfl) ?_
          refine XO.nil ?_
          have hil : (outF ((runR ws sz (xA mm 2 0) r) n)).length ≤ i := by omega
          have hnx := dF_next ws sz r (runR ws sz (xA mm 2 0) r) hn hil
          refine XQ.back (n + 1, upd hh (1 - n) hb, GV) ⟨by simp only; omega, by simp only; intro k hk; rw [← hnx k hk]; exact upd_is hEs hEb k hk, by simp only; intro k hk; rw [← gE_next ws sz r (runR ws sz (xA mm 2 0) r) (Lg ws sz (xA mm 2 0) r) hn hil hk]; exact hGv k hk⟩ (by simp only; omega) ⟨rfl, rfl, rfl, rfl, rfl, rfl, rfl, rfl, rfl, rfl, rfl, trivial⟩ rfl (by simp only; rw [← twoL_congr hnx, ← List.append_assoc]; exact (twoL_in2 hn).append_right _)
      · skip
        simp only [cmpInt, decide_eq_false_iff_not] at h4
        refine XC.exit ?_
        refine XQ.then_exit ?_
        refine XQ.then_exit ?_
        refine XQ.block_exit ?_
        refine XQ.block_normal ?_
        refine XQ.then_normal ?_
        refine XC.region ?_
        refine XO.rd rfl rfl rfl (Reads.move rfl) ?_
        refine XO.rd rfl rfl rfl (Reads.add rfl rfl (by omega)) ?_
        refine XO.rd rfl rfl rfl (Reads.assign rfl) ?_
        refine XO.nil ?_
        have hn2 : n = 2 := by omega
        subst hn2
        refine XQ.perm (perm_take [9, 9, 9]) ?_
        refine XQ.dropn 3 ?_
        refine XQ.own_eq (L' := (twoL bk (dF ws sz r (runR ws sz (xA mm 2 0) r) 2) hh ++ (avL b17 51 9 GV ++ (avL b16 51 9 SV ++ Lf)))) rfl ?_
        refine XQ.back (r + 1, hh, GV) ⟨by simp only; omega, by simp only; intro k hk; have := hEs k hk; rw [dF_two ws sz r (runR ws sz (xA mm 2 0) r) hk] at this; exact this, by simp only; intro k hk; rw [← Lg_next hGX hk]; exact hGv k hk⟩ (by simp only; omega) ⟨rfl, rfl, rfl, rfl, rfl, rfl, rfl, rfl, rfl, trivial⟩ rfl (by simp only; rw [twoL_congr (fun k hk => dF_two ws sz r (runR ws sz (xA mm 2 0) r) hk)]; exact List.Perm.refl _)
    · skip
      simp only [cmpInt, decide_eq_false_iff_not] at h3
      have hNr : 2 * ((xA mm 2 0 0).sent.length + (xA mm 2 0 1).sent.length) * sz ≤ r := by
        rw [hSX 0 (by decide), hSX 1 (by decide), sentF_len, sentF_len]; omega
      have ha0 := all_got (ws := ws) hGX hs1 hNr (k := 0) (by decide)
      have ha1 := all_got (ws := ws) hGX hs1 hNr (k := 1) (by decide)
      have hx0 := ha0.2
      have hx1 := ha1.2
      have hl0 := Lg_len (ws := ws) (size := sz) (r := r) hGX (k := 0) (by decide)
      have hl1 := Lg_len (ws := ws) (size := sz) (r := r) hGX (k := 1) (by decide)
      refine XC.exit ?_
      refine XQ.then_exit ?_
      refine XQ.then_exit ?_
      refine XQ.block_exit ?_
      refine XQ.then_normal ?_
      refine XC.seq ?_
      refine XC.region ?_
      refine XO.perm (perm_take [7, 7, 8, 8]) ?_
      refine XO.own_eq (L' := ((GV 0).ent 9 :: ((GV 1).ent 9 :: ((SV 0).ent 9 :: ((SV 1).ent 9 :: (twoL bk (runR ws sz (xA mm 2 0) r) hh ++ (some (b17, .cells #[(GV 0).val, (GV 1).val] 51 (0, 0)) :: (some (b16, .cells #[(SV 0).val, (SV 1).val] 51 (0, 0)) :: Lf)))))))) rfl ?_
      refine XO.vec_done (α := ByteArray) (by decide) (hGv 0 (by decide)) (flat_strs _ _) (fun J21 hle21 hs21 => ?_)
      replace hI := Im.le_trans hI hle21
      replace hG := hG.mono hle21
      replace hWs := hWs.mono hle21
      replace hP := hP.mono hle21
      replace hM := hM.mono hle21
      refine XO.vec_done (α := ByteArray) (by decide) (hGv 1 (by decide)) (flat_strs _ _) (fun J22 hle22 hs22 => ?_)
      replace hI := Im.le_trans hI hle22
      replace hG := hG.mono hle22
      replace hWs := hWs.mono hle22
      replace hP := hP.mono hle22
      replace hM := hM.mono hle22
      refine XO.vec_done (α := ByteArray) (by decide) (hSv 0 (by decide)) (flat_strs _ _) (fun J23 hle23 hs23 => ?_)
      replace hI := Im.le_trans hI hle23
      replace hG := hG.mono hle23
      replace hWs := hWs.mono hle23
      replace hP := hP.mono hle23
      replace hM := hM.mono hle23
      refine XO.vec_done (α := ByteArray) (by decide) (hSv 1 (by decide)) (flat_strs _ _) (fun J24 hle24 hs24 => ?_)
      replace hI := Im.le_trans hI hle24
      replace hG := hG.mono hle24
      replace hWs := hWs.mono hle24
      replace hP := hP.mono hle24
      replace hM := hM.mono hle24
      refine XO.rd rfl rfl rfl (Reads.index_arr_own (q := 0) Tryd.underlying51 z44 rfl rfl (by decide) (by decide)) ?_
      refine XO.rd rfl rfl rfl (Reads.load_own (v := (GV 0).val) k44 rfl (OwnAt.of 6 rfl rfl)) ?_
      refine XO.rd rfl rfl rfl (Reads.index_arr_own (q := 1) Tryd.underlying51 z44 rfl rfl (by decide) (by decide)) ?_
      refine XO.rd rfl rfl rfl (Reads.load_own (v := (SV 1).val) k44 rfl (OwnAt.of 7 rfl rfl)) ?_
      refine XO.callp rfl rfl en28 (strings_is (c := true) (xs := (Lg ws sz (xA mm 2 0) r 0)) (ys := (xA mm 2 0 1).sent) (decide_eq_true ha0.1) (by omega) hs21 (Im.le_trans hle22 (Im.le_trans hle23 hle24)) hs24 (Im.le_refl _)) ⟨rfl, rfl, trivial⟩ ?_
      refine XO.rd rfl rfl rfl (Reads.move rfl) ?_
      refine XO.rd (wg rfl rfl rfl) rfl rfl (Reads.index_arr_own (q := 1) Tryd.underlying51 z44 rfl rfl (by decide) (by decide)) ?_
      refine XO.rd (wg rfl rfl rfl) rfl rfl (Reads.load_own (v := (GV 1).val) k44 rfl (OwnAt.of 6 rfl rfl)) ?_
      refine XO.rd (wg rfl rfl rfl) rfl rfl (Reads.index_arr_own (q := 0) Tryd.underlying51 z44 rfl rfl (by decide) (by decide)) ?_
      refine XO.rd (wg rfl rfl rfl) rfl rfl (Reads.load_own (v := (SV 0).val) k44 rfl (OwnAt.of 7 rfl rfl)) ?_
      refine XO.callp (wg rfl rfl rfl) rfl en28 (strings_is (c := true) (xs := (Lg ws sz (xA mm 2 0) r 1)) (ys := (xA mm 2 0 0).sent) (decide_eq_true ha1.1) (by omega) hs22 (Im.le_trans hle23 hle24) hs23 hle24) ⟨rfl, rfl, trivial⟩ ?_
      refine XO.rd rfl rfl rfl (Reads.pick_true rfl rfl) ?_
      refine XO.rd rfl rfl rfl (Reads.move rfl) ?_
      refine XO.rd (wg rfl rfl rfl) rfl rfl (Reads.move rfl) ?_
      refine XO.callo (vs := [_]) (L1 := endL (bk 0) ((runR ws sz (xA mm 2 0) r) 0) (hh 0)) (wg rfl rfl rfl) rfl rfl en33 ⟨rfl, trivial⟩ (waiting_any (bk 0) ((runR ws sz (xA mm 2 0) r) 0) (hh 0) _ (hEs 0 (by decide))) (((twoL_out (by decide : 0 < 2)).append_right _).trans (by rw [List.append_assoc])) ?_
      rintro v I' L' _ ⟨rfl, hI', rfl⟩
      replace hI' := hI'.symm
      subst hI'
      refine XO.rd (wg rfl rfl rfl) rfl rfl (Reads.cmp_yes rfl rfl rfl (by simp only [cmpInt, decide_eq_true_eq, beq_iff_eq, bne_iff_ne] <;> omega)) ?_
      refine XO.rd rfl rfl rfl (Reads.pick_true rfl rfl) ?_
      refine XO.rd rfl rfl rfl (Reads.move rfl) ?_
      refine XO.rd (wg rfl rfl rfl) rfl rfl (Reads.move rfl) ?_
      refine XO.callo (vs := [_]) (L1 := endL (bk 1) ((runR ws sz (xA mm 2 0) r) 1) (hh 1)) (wg rfl rfl rfl) rfl rfl en33 ⟨rfl, trivial⟩ (waiting_any (bk 1) ((runR ws sz (xA mm 2 0) r) 1) (hh 1) _ (hEs 1 (by decide))) (perm_take [3, 3, 3]) ?_
      rintro v I' L' _ ⟨rfl, hI', rfl⟩
      replace hI' := hI'.symm
      subst hI'
      refine XO.rd (wg rfl rfl rfl) rfl rfl (Reads.cmp_yes rfl rfl rfl (by simp only [cmpInt, decide_eq_true_eq, beq_iff_eq, bne_iff_ne] <;> omega)) ?_
      refine XO.rd rfl rfl rfl (Reads.pick_true rfl rfl) ?_
      refine XO.rd rfl rfl rfl (Reads.assign rfl) ?_
      refine XO.nil ?_
      refine XQ.then_normal ?_
      refine XC.ret ?_
      refine XQ.dropn 8 ?_
      refine XQ.done1 (L := []) rfl rfl hI ?_
      exact ⟨rfl, rfl⟩

end Go.Proofs.YtkjhhifhgcihpaaDoor
