/- Walk: LinkAgain. -/
import Derived.Test.YtkjhhifhgcihpaaDoorD14
namespace Go.Proofs.YtkjhhifhgcihpaaDoor
open Go.Xe Go.Sh Go Go.Lk

theorem linkAgain_any (a : Option Addr) (cap : Nat) (ops : List Q4) (I : Im) (hY : Arr I a ops) (hops : ∀ x ∈ ops, x.In) (hG : Glob I) : FC Tryd.prog 11 [.slice a ops.length cap] I (fun u I' => u = .bool true) := by
  have hI := Im.le_refl I
  have hs := (busy_sys ops).1
  have hs12 := (busy_sys ops).2
  have n0 := hs12 0 (by decide)
  have n1 := hs12 1 (by decide)
  have oa := hs.ok 0 (by decide)
  have ob := hs.ok 1 (by decide)
  have g0 : (busyF ops 0).got ≤ (busyF ops 1).sent.length := hs.got 0 (by decide)
  have g1 : (busyF ops 1).got ≤ (busyF ops 0).sent.length := hs.got 1 (by decide)
  have k0 : (busyF ops 0).acked ≤ (busyF ops 1).got := hs.acked 0 (by decide)
  have k1 : (busyF ops 1).acked ≤ (busyF ops 0).got := hs.acked 1 (by decide)
  refine FSo.intro (n := 89) Tryd.func11 rfl rfl rfl (fun K Lf => ?_)
  refine XC.seq ?_
  refine XC.region ?_
  refine XO.rd rfl rfl rfl (Reads.assign rfl) ?_
  refine XO.nil ?_
  refine XQ.then_normal ?_
  refine XC.seq ?_
  refine XC.region ?_
  refine XO.rd rfl rfl rfl (Reads.move rfl) ?_
  refine XO.callo (vs := [_]) (L1 := []) rfl rfl rfl en39 ⟨rfl, trivial⟩ (busy_is a cap ops _ hY hops hG) (List.Perm.refl _) ?_
  rintro v I' L' _ ⟨hI', ba, bb, ha, hb, rfl, rfl, hEa, hEb⟩
  replace hI' := hI'.symm
  subst hI'
  refine XO.own_eq (L' := (endL ba (busyF ops 0) ha ++ (endL bb (busyF ops 1) hb ++ Lf))) rfl ?_
  refine XO.rd rfl rfl rfl (Reads.move rfl) ?_
  refine XO.rd rfl rfl rfl (Reads.extract rfl rfl) ?_
  refine XO.rd rfl rfl rfl (Reads.extract rfl rfl) ?_
  refine XO.rd rfl rfl rfl (Reads.extract rfl rfl) ?_
  refine XO.rd rfl rfl rfl (Reads.assign rfl) ?_
  refine XO.rd rfl rfl rfl (Reads.assign rfl) ?_
  refine XO.rd rfl rfl rfl (Reads.assign rfl) ?_
  refine XO.nil ?_
  refine XQ.then_normal ?_
  refine XC.seq ?_
  refine XC.region ?_
  refine XO.rd rfl rfl rfl (Reads.move rfl) ?_
  refine XO.callo (vs := [_]) (L1 := []) rfl rfl rfl en39 ⟨rfl, trivial⟩ (busy_is a cap ops _ hY hops hG) (List.Perm.refl _) ?_
  rintro v I' L' _ ⟨hI', bc, bd, hc, hd, rfl, rfl, hEc, hEd⟩
  replace hI' := hI'.symm
  subst hI'
  refine XO.own_eq (L' := (endL bc (busyF ops 0) hc ++ (endL bd (busyF ops 1) hd ++ (endL ba (busyF ops 0) ha ++ (endL bb (busyF ops 1) hb ++ Lf))))) rfl ?_
  refine XO.rd rfl rfl rfl (Reads.move rfl) ?_
  refine XO.rd rfl rfl rfl (Reads.extract rfl rfl) ?_
  refine XO.rd rfl rfl rfl (Reads.extract rfl rfl) ?_
  refine XO.rd rfl rfl rfl (Reads.extract rfl rfl) ?_
  refine XO.rd rfl rfl rfl (Reads.assign rfl) ?_
  refine XO.rd rfl rfl rfl (Reads.assign rfl) ?_
  refine XO.rd rfl rfl rfl (Reads.assign rfl) ?_
  refine XO.nil ?_
  refine XQ.then_normal ?_
  refine XC.seq ?_
  refine XC.seq ?_
  refine XC.region ?_
  refine XO.callp rfl rfl en14 (FC.pure (sane_any _ hG)) trivial ?_
  refine XO.rd rfl rfl rfl (Reads.not rfl) ?_
  refine XO.rd rfl rfl rfl (Reads.move rfl) ?_
  refine XO.rd (wg rfl rfl rfl) rfl rfl (Reads.move rfl) ?_
  refine XO.rd (wg rfl rfl rfl) rfl rfl (Reads.not rfl) ?_
  refine XO.rd rfl rfl rfl (Reads.pick_false rfl rfl) ?_
  refine XO.rd rfl rfl rfl (Reads.move rfl) ?_
  refine XO.rd (wg rfl rfl rfl) rfl rfl (Reads.move rfl) ?_
  refine XO.rd (wg rfl rfl rfl) rfl rfl (Reads.not rfl) ?_
  refine XO.rd rfl rfl rfl (Reads.pick_false rfl rfl) ?_
  refine XO.nil ?_
  refine XQ.then_normal ?_
  refine XC.cond rfl (fun hx => by cases hx) (fun _ => ?_)
  refine XC.skip ?_
  refine XQ.then_normal ?_
  refine XC.seq ?_
  refine XC.region ?_
  refine XO.rd rfl rfl rfl (Reads.move rfl) ?_
  refine XO.callo (vs := [_]) (L1 := (endL ba (busyF ops 0) ha)) rfl rfl rfl en31 ⟨rfl, trivial⟩ (sent_any ba (busyF ops 0) ha _ hEa) (perm_take [6, 6, 6]) ?_
  rintro v I' L' _ ⟨rfl, hI', rfl⟩
  replace hI' := hI'.symm
  subst hI'
  refine XO.own_eq (L' := (endL ba (busyF ops 0) ha ++ (endL bc (busyF ops 0) hc ++ (endL bd (busyF ops 1) hd ++ (endL bb (busyF ops 1) hb ++ Lf))))) rfl ?_
  refine XO.rd rfl rfl rfl (Reads.move rfl) ?_
  refine XO.callo (vs := [_]) (L1 := (endL bc (busyF ops 0) hc)) rfl rfl rfl en31 ⟨rfl, trivial⟩ (sent_any bc (busyF ops 0) hc _ hEc) (perm_take [3, 3, 3]) ?_
  rintro v I' L' _ ⟨rfl, hI', rfl⟩
  replace hI' := hI'.symm
  subst hI'
  refine XO.own_eq (L' := (endL bc (busyF ops 0) hc ++ (endL ba (busyF ops 0) ha ++ (endL bd (busyF ops 1) hd ++ (endL bb (busyF ops 1) hb ++ Lf))))) rfl ?_
  refine XO.rd rfl rfl rfl (Reads.cmp_yes rfl rfl rfl (by simp only [cmpInt, decide_eq_true_eq, beq_iff_eq, bne_iff_ne] <;> omega)) ?_
  refine XO.rd rfl rfl rfl (Reads.move rfl) ?_
  refine XO.rd (wg rfl rfl rfl) rfl rfl (Reads.move rfl) ?_
  refine XO.callo (vs := [_]) (L1 := (endL ba (busyF ops 0) ha)) (wg rfl rfl rfl) rfl rfl en33 ⟨rfl, trivial⟩ (waiting_any ba (busyF ops 0) ha _ hEa) (perm_take [3, 3, 3]) ?_
  rintro v I' L' _ ⟨rfl, hI', rfl⟩
  replace hI' := hI'.symm
  subst hI'
  refine XO.own_eq (L' := (endL ba (busyF ops 0) ha ++ (endL bc (busyF ops 0) hc ++ (endL bd (busyF ops 1) hd ++ (endL bb (busyF ops 1) hb ++ Lf))))) rfl ?_
  refine XO.rd (wg rfl rfl rfl) rfl rfl (Reads.move rfl) ?_
  refine XO.callo (vs := [_]) (L1 := (endL bc (busyF ops 0) hc)) (wg rfl rfl rfl) rfl rfl en33 ⟨rfl, trivial⟩ (waiting_any bc (busyF ops 0) hc _ hEc) (perm_take [3, 3, 3]) ?_
  rintro v I' L' _ ⟨rfl, hI', rfl⟩
  replace hI' := hI'.symm
  subst hI'
  refine XO.own_eq (L' := (endL bc (busyF ops 0) hc ++ (endL ba (busyF ops 0) ha ++ (endL bd (busyF ops 1) hd ++ (endL bb (busyF ops 1) hb ++ Lf))))) rfl ?_
  refine XO.rd (wg rfl rfl rfl) rfl rfl (Reads.cmp_yes rfl rfl rfl (by simp only [cmpInt, decide_eq_true_eq, beq_iff_eq, bne_iff_ne] <;> omega)) ?_
  refine XO.rd rfl rfl rfl (Reads.pick_true rfl rfl) ?_
  refine XO.rd rfl rfl rfl (Reads.move rfl) ?_
  refine XO.rd (wg rfl rfl rfl) rfl rfl (Reads.move rfl) ?_
  refine XO.callo (vs := [_]) (L1 := (endL ba (busyF ops 0) ha)) (wg rfl rfl rfl) rfl rfl en35 ⟨rfl, trivial⟩ (received_any ba (busyF ops 0) ha _ hEa) (perm_take [3, 3, 3]) ?_
  rintro v I' L' _ ⟨rfl, hI', rfl⟩
  replace hI' := hI'.symm
  subst hI'
  refine XO.own_eq (L' := (endL ba (busyF ops 0) ha ++ (endL bc (busyF ops 0) hc ++ (endL bd (busyF ops 1) hd ++ (endL bb (busyF ops 1) hb ++ Lf))))) rfl ?_
  refine XO.rd (wg rfl rfl rfl) rfl rfl (Reads.move rfl) ?_
  refine XO.callo (vs := [_]) (L1 := (endL bc (busyF ops 0) hc)) (wg rfl rfl rfl) rfl rfl en35 ⟨rfl, trivial⟩ (received_any bc (busyF ops 0) hc _ hEc) (perm_take [3, 3, 3]) ?_
  rintro v I' L' _ ⟨rfl, hI', rfl⟩
  replace hI' := hI'.symm
  subst hI'
  refine XO.own_eq (L' := (endL bc (busyF ops 0) hc ++ (endL ba (busyF ops 0) ha ++ (endL bd (busyF ops 1) hd ++ (endL bb (busyF ops 1) hb ++ Lf))))) rfl ?_
  refine XO.rd (wg rfl rfl rfl) rfl rfl (Reads.cmp_yes rfl rfl rfl (by simp only [cmpInt, decide_eq_true_eq, beq_iff_eq, bne_iff_ne] <;> omega)) ?_
  refine XO.rd rfl rfl rfl (Reads.pick_true rfl rfl) ?_
  refine XO.rd rfl rfl rfl (Reads.assign rfl) ?_
  refine XO.nil ?_
  refine XQ.then_normal ?_
  refine XC.seq ?_
  refine XC.weaken (E' := [(3, _), (4, _), (6, _), (7, _), (9, _)]) ⟨rfl, rfl, rfl, rfl, rfl, trivial⟩ ?_
  refine XC.region ?_
  refine XO.rd rfl rfl rfl (Reads.move rfl) ?_
  refine XO.callo (vs := [_]) (L1 := (endL bb (busyF ops 1) hb)) rfl rfl rfl en31 ⟨rfl, trivial⟩ (sent_any bb (busyF ops 1) hb _ hEb) (perm_take [9, 9, 9]) ?_
  rintro v I' L' _ ⟨rfl, hI', rfl⟩
  replace hI' := hI'.symm
  subst hI'
  refine XO.own_eq (L' := (endL bb (busyF ops 1) hb ++ (endL bc (busyF ops 0) hc ++ (endL ba (busyF ops 0) ha ++ (endL bd (busyF ops 1) hd ++ Lf))))) rfl ?_
  refine XO.rd rfl rfl rfl (Reads.move rfl) ?_
  refine XO.callo (vs := [_]) (L1 := (endL bd (busyF ops 1) hd)) rfl rfl rfl en31 ⟨rfl, trivial⟩ (sent_any bd (busyF ops 1) hd _ hEd) (perm_take [9, 9, 9]) ?_
  rintro v I' L' _ ⟨rfl, hI', rfl⟩
  replace hI' := hI'.symm
  subst hI'
  refine XO.own_eq (L' := (endL bd (busyF ops 1) hd ++ (endL bb (busyF ops 1) hb ++ (endL bc (busyF ops 0) hc ++ (endL ba (busyF ops 0) ha ++ Lf))))) rfl ?_
  refine XO.rd rfl rfl rfl (Reads.cmp_yes rfl rfl rfl (by simp only [cmpInt, decide_eq_true_eq, beq_iff_eq, bne_iff_ne] <;> omega)) ?_
  refine XO.rd rfl rfl rfl (Reads.move rfl) ?_
  refine XO.rd (wg rfl rfl rfl) rfl rfl (Reads.move rfl) ?_
  refine XO.callo (vs := [_]) (L1 := (endL bb (busyF ops 1) hb)) (wg rfl rfl rfl) rfl rfl en33 ⟨rfl, trivial⟩ (waiting_any bb (busyF ops 1) hb _ hEb) (perm_take [3, 3, 3]) ?_
  rintro v I' L' _ ⟨rfl, hI', rfl⟩
  replace hI' := hI'.symm
  subst hI'
  refine XO.own_eq (L' := (endL bb (busyF ops 1) hb ++ (endL bd (busyF ops 1) hd ++ (endL bc (busyF ops 0) hc ++ (endL ba (busyF ops 0) ha ++ Lf))))) rfl ?_
  refine XO.rd (wg rfl rfl rfl) rfl rfl (Reads.move rfl) ?_
  refine XO.callo (vs := [_]) (L1 := (endL bd (busyF ops 1) hd)) (wg rfl rfl rfl) rfl rfl en33 ⟨rfl, trivial⟩ (waiting_any bd (busyF ops 1) hd _ hEd) (perm_take [3, 3, 3]) ?_
  rintro v I' L' _ ⟨rfl, hI', rfl⟩
  replace hI' := hI'.symm
  subst hI'
  refine XO.own_eq (L' := (endL bd (busyF ops 1) hd ++ (endL bb (busyF ops 1) hb ++ (endL bc (busyF ops 0) hc ++ (endL ba (busyF ops 0) ha ++ Lf))))) rfl ?_
  refine XO.rd (wg rfl rfl rfl) rfl rfl (Reads.cmp_yes rfl rfl rfl (by simp only [cmpInt, decide_eq_true_eq, beq_iff_eq, bne_iff_ne] <;> omega)) ?_
  refine XO.rd rfl rfl rfl (Reads.pick_true rfl rfl) ?_
  refine XO.rd rfl rfl rfl (Reads.move rfl) ?_
  refine XO.rd (wg rfl rfl rfl) rfl rfl (Reads.move rfl) ?_
  refine XO.callo (vs := [_]) (L1 := (endL bb (busyF ops 1) hb)) (wg rfl rfl rfl) rfl rfl en35 ⟨rfl, trivial⟩ (received_any bb (busyF ops 1) hb _ hEb) (perm_take [3, 3, 3]) ?_
  rintro v I' L' _ ⟨rfl, hI', rfl⟩
  replace hI' := hI'.symm
  subst hI'
  refine XO.own_eq (L' := (endL bb (busyF ops 1) hb ++ (endL bd (busyF ops 1) hd ++ (endL bc (busyF ops 0) hc ++ (endL ba (busyF ops 0) ha ++ Lf))))) rfl ?_
  refine XO.rd (wg rfl rfl rfl) rfl rfl (Reads.move rfl) ?_
  refine XO.callo (vs := [_]) (L1 := (endL bd (busyF ops 1) hd)) (wg rfl rfl rfl) rfl rfl en35 ⟨rfl, trivial⟩ (received_any bd (busyF ops 1) hd _ hEd) (perm_take [3, 3, 3]) ?_
  rintro v I' L' _ ⟨rfl, hI', rfl⟩
  replace hI' := hI'.symm
  subst hI'
  refine XO.own_eq (L' := (endL bd (busyF ops 1) hd ++ (endL bb (busyF ops 1) hb ++ (endL bc (busyF ops 0) hc ++ (endL ba (busyF ops 0) ha ++ Lf))))) rfl ?_
  refine XO.rd (wg rfl rfl rfl) rfl rfl (Reads.cmp_yes rfl rfl rfl (by simp only [cmpInt, decide_eq_true_eq, beq_iff_eq, bne_iff_ne] <;> omega)) ?_
  refine XO.rd rfl rfl rfl (Reads.pick_true rfl rfl) ?_
  refine XO.rd rfl rfl rfl (Reads.assign rfl) ?_
  refine XO.nil ?_
  refine XQ.then_normal ?_
  refine XC.seq ?_
  refine XC.region ?_
  refine XO.rd rfl rfl rfl (Reads.move rfl) ?_
  refine XO.rd rfl rfl rfl (Reads.move rfl) ?_
  refine XO.rd (wg rfl rfl rfl) rfl rfl (Reads.move rfl) ?_
  refine XO.rd rfl rfl rfl (Reads.pick_true rfl rfl) ?_
  refine XO.rd rfl rfl rfl (Reads.move rfl) ?_
  refine XO.rd (wg rfl rfl rfl) rfl rfl (Reads.move rfl) ?_
  refine XO.callo (vs := [_]) (L1 := (endL ba (busyF ops 0) ha)) (wg rfl rfl rfl) rfl rfl en22 ⟨rfl, trivial⟩ (out_is (ps := outF (busyF ops 0)) rfl hEa hG) (perm_take [9, 9, 9]) ?_
  rintro v I' L' _ ⟨V1, rfl, hI', rfl, hV1, hV1l⟩
  replace hI' := hI'.symm
  subst hI'
  refine XO.vec_done (α := Pkt) (by decide) hV1 (flat_pkt _ _) (fun J1 hle1 hs1 => ?_)
  replace hI := Im.le_trans hI hle1
  replace hG := hG.mono hle1
  replace hY := hY.mono hle1
  obtain ⟨blk1, len1, cap1⟩ := V1
  simp only at hV1l hs1 ⊢
  subst hV1l
  have hO1 := hs1.arr.1
  refine XO.own_eq (L' := (endL ba (busyF ops 0) ha ++ (endL bd (busyF ops 1) hd ++ (endL bb (busyF ops 1) hb ++ (endL bc (busyF ops 0) hc ++ Lf))))) rfl ?_
  refine XO.rd (wg rfl rfl rfl) rfl rfl (Reads.move rfl) ?_
  refine XO.callo (vs := [_]) (L1 := (endL bc (busyF ops 0) hc)) (wg rfl rfl rfl) rfl rfl en22 ⟨rfl, trivial⟩ (out_is (ps := outF (busyF ops 0)) rfl hEc hG) (perm_take [9, 9, 9]) ?_
  rintro v I' L' _ ⟨V2, rfl, hI', rfl, hV2, hV2l⟩
  replace hI' := hI'.symm
  subst hI'
  refine XO.vec_done (α := Pkt) (by decide) hV2 (flat_pkt _ _) (fun J2 hle2 hs2 => ?_)
  replace hI := Im.le_trans hI hle2
  replace hG := hG.mono hle2
  replace hY := hY.mono hle2
  replace hO1 := hO1.mono hle2
  obtain ⟨blk2, len2, cap2⟩ := V2
  simp only at hV2l hs2 ⊢
  subst hV2l
  have hO2 := hs2.arr.1
  refine XO.own_eq (L' := (endL bc (busyF ops 0) hc ++ (endL ba (busyF ops 0) ha ++ (endL bd (busyF ops 1) hd ++ (endL bb (busyF ops 1) hb ++ Lf))))) rfl ?_
  refine XO.callp (wg rfl rfl rfl) rfl en23 (same_is (c := true) (decide_eq_true rfl) (by have := outF_len (busyF ops 0); omega) hO1 hO2) ⟨rfl, rfl, trivial⟩ ?_
  refine XO.rd rfl rfl rfl (Reads.pick_true rfl rfl) ?_
  refine XO.rd rfl rfl rfl (Reads.move rfl) ?_
  refine XO.rd (wg rfl rfl rfl) rfl rfl (Reads.move rfl) ?_
  refine XO.callo (vs := [_]) (L1 := (endL bb (busyF ops 1) hb)) (wg rfl rfl rfl) rfl rfl en22 ⟨rfl, trivial⟩ (out_is (ps := outF (busyF ops 1)) rfl hEb hG) (perm_take [9, 9, 9]) ?_
  rintro v I' L' _ ⟨V3, rfl, hI', rfl, hV3, hV3l⟩
  replace hI' := hI'.symm
  subst hI'
  refine XO.vec_done (α := Pkt) (by decide) hV3 (flat_pkt _ _) (fun J3 hle3 hs3 => ?_)
  replace hI := Im.le_trans hI hle3
  replace hG := hG.mono hle3
  replace hY := hY.mono hle3
  replace hO1 := hO1.mono hle3
  replace hO2 := hO2.mono hle3
  obtain ⟨blk3, len3, cap3⟩ := V3
  simp only at hV3l hs3 ⊢
  subst hV3l
  have hO3 := hs3.arr.1
  refine XO.own_eq (L' := (endL bb (busyF ops 1) hb ++ (endL bc (busyF ops 0) hc ++ (endL ba (busyF ops 0) ha ++ (endL bd (busyF ops 1) hd ++ Lf))))) rfl ?_
  refine XO.rd (wg rfl rfl rfl) rfl rfl (Reads.move rfl) ?_
  refine XO.callo (vs := [_]) (L1 := (endL bd (busyF ops 1) hd)) (wg rfl rfl rfl) rfl rfl en22 ⟨rfl, trivial⟩ (out_is (ps := outF (busyF ops 1)) rfl hEd hG) (perm_take [9, 9, 9]) ?_
  rintro v I' L' _ ⟨V4, rfl, hI', rfl, hV4, hV4l⟩
  replace hI' := hI'.symm
  subst hI'
  refine XO.vec_done (α := Pkt) (by decide) hV4 (flat_pkt _ _) (fun J4 hle4 hs4 => ?_)
  replace hI := Im.le_trans hI hle4
  replace hG := hG.mono hle4
  replace hY := hY.mono hle4
  replace hO1 := hO1.mono hle4
  replace hO2 := hO2.mono hle4
  replace hO3 := hO3.mono hle4
  obtain ⟨blk4, len4, cap4⟩ := V4
  simp only at hV4l hs4 ⊢
  subst hV4l
  have hO4 := hs4.arr.1
  refine XO.own_eq (L' := (endL bd (busyF ops 1) hd ++ (endL bb (busyF ops 1) hb ++ (endL bc (busyF ops 0) hc ++ (endL ba (busyF ops 0) ha ++ Lf))))) rfl ?_
  refine XO.callp (wg rfl rfl rfl) rfl en23 (same_is (c := true) (decide_eq_true rfl) (by have := outF_len (busyF ops 1); omega) hO3 hO4) ⟨rfl, rfl, trivial⟩ ?_
  refine XO.rd rfl rfl rfl (Reads.pick_true rfl rfl) ?_
  refine XO.rd rfl rfl rfl (Reads.assign rfl) ?_
  refine XO.nil ?_
  refine XQ.then_normal ?_
  refine XC.ret ?_
  refine XQ.dropn 12 ?_
  refine XQ.done1 (L := []) rfl rfl hI ?_
  exact ⟨rfl, rfl⟩

end Go.Proofs.YtkjhhifhgcihpaaDoor
