/- Walk: LinkAcknowledged. -/
import Derived.Test.YtkjhhifhgcihpaaDoorD14
namespace Go.Proofs.YtkjhhifhgcihpaaDoor
open Go.Xe Go.Sh Go Go.Lk

theorem linkAcknowledged_any (a : Option Addr) (cap : Nat) (ops : List Q4) (I : Im) (hY : Arr I a ops) (hops : ∀ x ∈ ops, x.In) (hG : Glob I) : FC Tryd.prog 6 [.slice a ops.length cap] I (fun u I' => u = .bool true) := by
  have hI := Im.le_refl I
  have hs := (busy_sys ops).1
  have hs12 := (busy_sys ops).2
  have n0 := hs12 0 (by decide)
  have n1 := hs12 1 (by decide)
  have oa := hs.ok 0 (by decide)
  have ob := hs.ok 1 (by decide)
  have g0 : (busyF ops 0).got ≤ (busyF ops 1).sent.length := hs.got 0 (by decide)
  have g1 : (busyF ops 1).got ≤ (busyF ops 0).sent.length := hs.got 1 (by decide)
  have k0 : (busyF ops 0).acked ≤ (busyF ops 1).got := hs.acked 0 (by decide)
  have k1 : (busyF ops 1).acked ≤ (busyF ops 0).got := hs.acked 1 (by decide)
  have a0 := oa.acked
  have a1 := ob.acked
  refine FSo.intro (n := 62) Tryd.func6 rfl rfl rfl (fun K Lf => ?_)
  refine XC.seq ?_
  refine XC.region ?_
  refine XO.rd rfl rfl rfl (Reads.assign rfl) ?_
  refine XO.nil ?_
  refine XQ.then_normal ?_
  refine XC.seq ?_
  refine XC.region ?_
  refine XO.rd rfl rfl rfl (Reads.move rfl) ?_
  refine XO.callo (vs := [_]) (L1 := []) rfl rfl rfl en39 ⟨rfl, trivial⟩ (busy_is a cap ops _ hY hops hG) (List.Perm.refl _) ?_
  rintro v I' L' _ ⟨hI', ba, bb, ha, hb, rfl, rfl, hEa, hEb⟩
  replace hI' := hI'.symm
  subst hI'
  refine XO.own_eq (L' := (endL ba (busyF ops 0) ha ++ (endL bb (busyF ops 1) hb ++ Lf))) rfl ?_
  refine XO.rd rfl rfl rfl (Reads.move rfl) ?_
  refine XO.rd rfl rfl rfl (Reads.extract rfl rfl) ?_
  refine XO.rd rfl rfl rfl (Reads.extract rfl rfl) ?_
  refine XO.rd rfl rfl rfl (Reads.extract rfl rfl) ?_
  refine XO.rd rfl rfl rfl (Reads.assign rfl) ?_
  refine XO.rd rfl rfl rfl (Reads.assign rfl) ?_
  refine XO.rd rfl rfl rfl (Reads.assign rfl) ?_
  refine XO.nil ?_
  refine XQ.then_normal ?_
  refine XC.seq ?_
  refine XC.seq ?_
  refine XC.region ?_
  refine XO.callp rfl rfl en14 (FC.pure (sane_any _ hG)) trivial ?_
  refine XO.rd rfl rfl rfl (Reads.not rfl) ?_
  refine XO.rd rfl rfl rfl (Reads.move rfl) ?_
  refine XO.rd (wg rfl rfl rfl) rfl rfl (Reads.move rfl) ?_
  refine XO.rd (wg rfl rfl rfl) rfl rfl (Reads.not rfl) ?_
  refine XO.rd rfl rfl rfl (Reads.pick_false rfl rfl) ?_
  refine XO.nil ?_
  refine XQ.then_normal ?_
  refine XC.cond rfl (fun hx => by cases hx) (fun _ => ?_)
  refine XC.skip ?_
  refine XQ.then_normal ?_
  refine XC.seq ?_
  refine XC.region ?_
  refine XO.rd rfl rfl rfl (Reads.move rfl) ?_
  refine XO.callo (vs := [_]) (L1 := (endL ba (busyF ops 0) ha)) rfl rfl rfl en31 ⟨rfl, trivial⟩ (sent_any ba (busyF ops 0) ha _ hEa) (List.Perm.refl _) ?_
  rintro v I' L' _ ⟨rfl, hI', rfl⟩
  replace hI' := hI'.symm
  subst hI'
  refine XO.own_eq (L' := (endL ba (busyF ops 0) ha ++ (endL bb (busyF ops 1) hb ++ Lf))) rfl ?_
  refine XO.rd rfl rfl rfl (Reads.move rfl) ?_
  refine XO.callo (vs := [_]) (L1 := (endL ba (busyF ops 0) ha)) rfl rfl rfl en33 ⟨rfl, trivial⟩ (waiting_any ba (busyF ops 0) ha _ hEa) (List.Perm.refl _) ?_
  rintro v I' L' _ ⟨rfl, hI', rfl⟩
  replace hI' := hI'.symm
  subst hI'
  refine XO.own_eq (L' := (endL ba (busyF ops 0) ha ++ (endL bb (busyF ops 1) hb ++ Lf))) rfl ?_
  refine XO.rd rfl rfl rfl (Reads.sub rfl rfl (by omega)) ?_
  refine XO.rd rfl rfl rfl (Reads.move rfl) ?_
  refine XO.callo (vs := [_]) (L1 := (endL bb (busyF ops 1) hb)) rfl rfl rfl en35 ⟨rfl, trivial⟩ (received_any bb (busyF ops 1) hb _ hEb) (perm_take [3, 3, 3]) ?_
  rintro v I' L' _ ⟨rfl, hI', rfl⟩
  replace hI' := hI'.symm
  subst hI'
  refine XO.own_eq (L' := (endL bb (busyF ops 1) hb ++ (endL ba (busyF ops 0) ha ++ Lf))) rfl ?_
  refine XO.rd rfl rfl rfl (Reads.cmp_yes rfl rfl rfl (by simp only [cmpInt, decide_eq_true_eq, beq_iff_eq, bne_iff_ne] <;> omega)) ?_
  refine XO.rd rfl rfl rfl (Reads.move rfl) ?_
  refine XO.rd (wg rfl rfl rfl) rfl rfl (Reads.move rfl) ?_
  refine XO.callo (vs := [_]) (L1 := (endL bb (busyF ops 1) hb)) (wg rfl rfl rfl) rfl rfl en35 ⟨rfl, trivial⟩ (received_any bb (busyF ops 1) hb _ hEb) (List.Perm.refl _) ?_
  rintro v I' L' _ ⟨rfl, hI', rfl⟩
  replace hI' := hI'.symm
  subst hI'
  refine XO.own_eq (L' := (endL bb (busyF ops 1) hb ++ (endL ba (busyF ops 0) ha ++ Lf))) rfl ?_
  refine XO.rd (wg rfl rfl rfl) rfl rfl (Reads.move rfl) ?_
  refine XO.callo (vs := [_]) (L1 := (endL ba (busyF ops 0) ha)) (wg rfl rfl rfl) rfl rfl en31 ⟨rfl, trivial⟩ (sent_any ba (busyF ops 0) ha _ hEa) (perm_take [3, 3, 3]) ?_
  rintro v I' L' _ ⟨rfl, hI', rfl⟩
  replace hI' := hI'.symm
  subst hI'
  refine XO.own_eq (L' := (endL ba (busyF ops 0) ha ++ (endL bb (busyF ops 1) hb ++ Lf))) rfl ?_
  refine XO.rd (wg rfl rfl rfl) rfl rfl (Reads.cmp_yes rfl rfl rfl (by simp only [cmpInt, decide_eq_true_eq, beq_iff_eq, bne_iff_ne] <;> omega)) ?_
  refine XO.rd rfl rfl rfl (Reads.pick_true rfl rfl) ?_
  refine XO.rd rfl rfl rfl (Reads.move rfl) ?_
  refine XO.rd (wg rfl rfl rfl) rfl rfl (Reads.move rfl) ?_
  refine XO.callo (vs := [_]) (L1 := (endL ba (busyF ops 0) ha)) (wg rfl rfl rfl) rfl rfl en33 ⟨rfl, trivial⟩ (waiting_any ba (busyF ops 0) ha _ hEa) (List.Perm.refl _) ?_
  rintro v I' L' _ ⟨rfl, hI', rfl⟩
  replace hI' := hI'.symm
  subst hI'
  refine XO.own_eq (L' := (endL ba (busyF ops 0) ha ++ (endL bb (busyF ops 1) hb ++ Lf))) rfl ?_
  refine XO.rd (wg rfl rfl rfl) rfl rfl (Reads.cmp_yes rfl rfl rfl (by simp only [cmpInt, decide_eq_true_eq, beq_iff_eq, bne_iff_ne] <;> omega)) ?_
  refine XO.rd rfl rfl rfl (Reads.pick_true rfl rfl) ?_
  refine XO.rd rfl rfl rfl (Reads.assign rfl) ?_
  refine XO.nil ?_
  refine XQ.then_normal ?_
  refine XC.seq ?_
  refine XC.region ?_
  refine XO.rd rfl rfl rfl (Reads.move rfl) ?_
  refine XO.rd rfl rfl rfl (Reads.move rfl) ?_
  refine XO.rd (wg rfl rfl rfl) rfl rfl (Reads.move rfl) ?_
  refine XO.callo (vs := [_]) (L1 := (endL bb (busyF ops 1) hb)) (wg rfl rfl rfl) rfl rfl en31 ⟨rfl, trivial⟩ (sent_any bb (busyF ops 1) hb _ hEb) (perm_take [3, 3, 3]) ?_
  rintro v I' L' _ ⟨rfl, hI', rfl⟩
  replace hI' := hI'.symm
  subst hI'
  refine XO.own_eq (L' := (endL bb (busyF ops 1) hb ++ (endL ba (busyF ops 0) ha ++ Lf))) rfl ?_
  refine XO.rd (wg rfl rfl rfl) rfl rfl (Reads.move rfl) ?_
  refine XO.callo (vs := [_]) (L1 := (endL bb (busyF ops 1) hb)) (wg rfl rfl rfl) rfl rfl en33 ⟨rfl, trivial⟩ (waiting_any bb (busyF ops 1) hb _ hEb) (List.Perm.refl _) ?_
  rintro v I' L' _ ⟨rfl, hI', rfl⟩
  replace hI' := hI'.symm
  subst hI'
  refine XO.own_eq (L' := (endL bb (busyF ops 1) hb ++ (endL ba (busyF ops 0) ha ++ Lf))) rfl ?_
  refine XO.rd (wg rfl rfl rfl) rfl rfl (Reads.sub rfl rfl (by omega)) ?_
  refine XO.rd (wg rfl rfl rfl) rfl rfl (Reads.move rfl) ?_
  refine XO.callo (vs := [_]) (L1 := (endL ba (busyF ops 0) ha)) (wg rfl rfl rfl) rfl rfl en35 ⟨rfl, trivial⟩ (received_any ba (busyF ops 0) ha _ hEa) (perm_take [3, 3, 3]) ?_
  rintro v I' L' _ ⟨rfl, hI', rfl⟩
  replace hI' := hI'.symm
  subst hI'
  refine XO.own_eq (L' := (endL ba (busyF ops 0) ha ++ (endL bb (busyF ops 1) hb ++ Lf))) rfl ?_
  refine XO.rd (wg rfl rfl rfl) rfl rfl (Reads.cmp_yes rfl rfl rfl (by simp only [cmpInt, decide_eq_true_eq, beq_iff_eq, bne_iff_ne] <;> omega)) ?_
  refine XO.rd rfl rfl rfl (Reads.pick_true rfl rfl) ?_
  refine XO.rd rfl rfl rfl (Reads.move rfl) ?_
  refine XO.rd (wg rfl rfl rfl) rfl rfl (Reads.move rfl) ?_
  refine XO.callo (vs := [_]) (L1 := (endL ba (busyF ops 0) ha)) (wg rfl rfl rfl) rfl rfl en35 ⟨rfl, trivial⟩ (received_any ba (busyF ops 0) ha _ hEa) (List.Perm.refl _) ?_
  rintro v I' L' _ ⟨rfl, hI', rfl⟩
  replace hI' := hI'.symm
  subst hI'
  refine XO.own_eq (L' := (endL ba (busyF ops 0) ha ++ (endL bb (busyF ops 1) hb ++ Lf))) rfl ?_
  refine XO.rd (wg rfl rfl rfl) rfl rfl (Reads.move rfl) ?_
  refine XO.callo (vs := [_]) (L1 := (endL bb (busyF ops 1) hb)) (wg rfl rfl rfl) rfl rfl en31 ⟨rfl, trivial⟩ (sent_any bb (busyF ops 1) hb _ hEb) (perm_take [3, 3, 3]) ?_
  rintro v I' L' _ ⟨rfl, hI', rfl⟩
  replace hI' := hI'.symm
  subst hI'
  refine XO.own_eq (L' := (endL bb (busyF ops 1) hb ++ (endL ba (busyF ops 0) ha ++ Lf))) rfl ?_
  refine XO.rd (wg rfl rfl rfl) rfl rfl (Reads.cmp_yes rfl rfl rfl (by simp only [cmpInt, decide_eq_true_eq, beq_iff_eq, bne_iff_ne] <;> omega)) ?_
  refine XO.rd rfl rfl rfl (Reads.pick_true rfl rfl) ?_
  refine XO.rd rfl rfl rfl (Reads.move rfl) ?_
  refine XO.rd (wg rfl rfl rfl) rfl rfl (Reads.move rfl) ?_
  refine XO.callo (vs := [_]) (L1 := (endL bb (busyF ops 1) hb)) (wg rfl rfl rfl) rfl rfl en33 ⟨rfl, trivial⟩ (waiting_any bb (busyF ops 1) hb _ hEb) (List.Perm.refl _) ?_
  rintro v I' L' _ ⟨rfl, hI', rfl⟩
  replace hI' := hI'.symm
  subst hI'
  refine XO.own_eq (L' := (endL bb (busyF ops 1) hb ++ (endL ba (busyF ops 0) ha ++ Lf))) rfl ?_
  refine XO.rd (wg rfl rfl rfl) rfl rfl (Reads.cmp_yes rfl rfl rfl (by simp only [cmpInt, decide_eq_true_eq, beq_iff_eq, bne_iff_ne] <;> omega)) ?_
  refine XO.rd rfl rfl rfl (Reads.pick_true rfl rfl) ?_
  refine XO.rd rfl rfl rfl (Reads.assign rfl) ?_
  refine XO.nil ?_
  refine XQ.then_normal ?_
  refine XC.ret ?_
  refine XQ.dropn 6 ?_
  refine XQ.done1 (L := []) rfl rfl hI ?_
  exact ⟨rfl, rfl⟩

end Go.Proofs.YtkjhhifhgcihpaaDoor
