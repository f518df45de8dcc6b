/- Walk: LinkMatchesReference. -/
import Derived.Test.YtkjhhifhgcihpaaDoorD17
namespace Go.Proofs.YtkjhhifhgcihpaaDoor
open Go.Xe Go.Sh Go Go.Lk

theorem short_any (p : Pkt) (I : Im) : FC Tryd.prog 15 [.agg #[.int .i64 p.ser, .int .i64 p.ack, .string p.body, .string p.sl]] I (fun u I' => u = (shortF p).val ∧ I' = I) := by
  refine FSo.intro (n := 20) Tryd.func15 rfl rfl rfl (fun K Lf => ?_)
  refine XC.seq ?_
  refine XC.region ?_
  refine XO.box_agg rfl rfl rfl (fun b1 => ?_)
  refine XO.alloc (cs := #[.int .i64 0, .int .i64 0, .string ⟨#[]⟩, .string ⟨#[]⟩]) rfl rfl zo24 rfl (fun b2 => ?_)
  refine XO.nil ?_
  refine XQ.then_normal ?_
  refine XC.seq ?_
  refine XC.region ?_
  refine XO.rd rfl rfl rfl (fa24_2 rfl) ?_
  refine XO.rd rfl rfl rfl (Reads.load_own k9 rfl (by first | exact OwnAt.of 0 rfl rfl | exact OwnAt.of 1 rfl rfl | exact OwnAt.of 2 rfl rfl | exact OwnAt.of 3 rfl rfl)) ?_
  refine XO.rd rfl rfl rfl (fa24_2 rfl) ?_
  refine XO.rd rfl rfl rfl (Reads.load_own k9 rfl (by first | exact OwnAt.of 0 rfl rfl | exact OwnAt.of 1 rfl rfl | exact OwnAt.of 2 rfl rfl | exact OwnAt.of 3 rfl rfl)) ?_
  refine XO.rd rfl rfl rfl (Reads.len_string Tryd.underlying9 rfl) ?_
  refine XO.rd rfl rfl rfl (Reads.min rfl rfl) ?_
  rw [show min (p.body.size : Int) 201 = ((min p.body.size 201 : Nat) : Int) by omega]
  refine XO.rd rfl rfl rfl (Reads.sslice_to Tryd.underlying9 rfl rfl (Nat.min_le_left _ _)) ?_
  refine XO.rd rfl rfl rfl (fa24_2 rfl) ?_
  refine XO.store 1 rfl z9 rfl rfl rfl rfl (by show 2 < 4; decide) ?_
  refine XO.nil ?_
  refine XQ.then_normal ?_
  refine XC.seq ?_
  refine XC.region ?_
  refine XO.rd rfl rfl rfl (fa24_3 rfl) ?_
  refine XO.rd rfl rfl rfl (Reads.load_own (v := .string p.sl) k9 rfl (OwnAt.of 1 rfl rfl)) ?_
  refine XO.rd rfl rfl rfl (fa24_3 rfl) ?_
  refine XO.rd rfl rfl rfl (Reads.load_own (v := .string p.sl) k9 rfl (OwnAt.of 1 rfl rfl)) ?_
  refine XO.rd rfl rfl rfl (Reads.len_string Tryd.underlying9 rfl) ?_
  refine XO.rd rfl rfl rfl (Reads.min rfl rfl) ?_
  rw [show min (p.sl.size : Int) 33 = ((min p.sl.size 33 : Nat) : Int) by omega]
  refine XO.rd rfl rfl rfl (Reads.sslice_to Tryd.underlying9 rfl rfl (Nat.min_le_left _ _)) ?_
  refine XO.rd rfl rfl rfl (fa24_3 rfl) ?_
  refine XO.store 1 rfl z9 rfl rfl rfl rfl (by show 3 < 4; decide) ?_
  refine XO.own_eq (congrArg (fun c => _ :: some (b1, Obj.cells c 24 (0, 0)) :: _) (show _ = (shortF p).cells.toArray from rfl)) ?_
  refine XO.nil ?_
  refine XQ.then_normal ?_
  refine XC.seq ?_
  refine XC.region ?_
  refine XO.rd rfl rfl rfl (Reads.load_whole (c := (shortF p).cells.toArray) k24 z24 rfl (WholeAt.of 1 rfl) rfl) ?_
  refine XO.store_agg (vs := (shortF p).cells) 0 rfl z24 rfl rfl (by intro v hv; simp at hv; rcases hv with rfl | rfl | rfl | rfl <;> rfl) rfl (Nat.le_refl 4) ?_
  refine XO.own_eq (congrArg (fun c => some (b2, Obj.cells c 24 (0, 0)) :: _) (show _ = (shortF p).cells.toArray from rfl)) ?_
  refine XO.nil ?_
  refine XQ.then_normal ?_
  refine XC.ret ?_
  refine XQ.done1ca [] 2 rfl k24 z24 rfl (WholeAt.of 0 rfl) rfl rfl (Im.le_refl _) ?_
  exact ⟨rfl, rfl, rfl⟩

set_option maxHeartbeats 16000000 in
theorem linkMatches_any (a : Option Addr) (cap : Nat) (ops : List Q4) (p : Pkt) (s : ByteArray) (I : Im) (hY : Arr I a ops) (hops : ∀ x ∈ ops, x.In) (hG : Glob I) (hp1 : (-9223372036854775808 ≤ p.ser ∧ p.ser ≤ 9223372036854775807)) (hp2 : (-9223372036854775808 ≤ p.ack ∧ p.ack ≤ 9223372036854775807)) : FC Tryd.prog 3 [.slice a ops.length cap, .agg #[.int .i64 p.ser, .int .i64 p.ack, .string p.body, .string p.sl], .string s] I (fun u I' => u = .bool true) := by
  have hI := Im.le_refl I
  refine FSo.intro (n := 213) Tryd.func3 rfl rfl rfl (fun K Lf => ?_)
  refine XC.seq ?_
  refine XC.region ?_
  refine XO.box_agg rfl rfl rfl (fun b4 => ?_)
  refine XO.rd rfl rfl rfl (Reads.assign rfl) ?_
  refine XO.nil ?_
  refine XQ.then_normal ?_
  refine XC.seq ?_
  refine XC.region ?_
  refine XO.callo (vs := []) (L1 := []) rfl rfl rfl en13 trivial (pair_any _) (List.Perm.refl _) ?_
  rintro v I' L' _ ⟨ba, ha, bb, hb, rfl, hI', rfl, hEa, hEb⟩
  replace hI' := hI'.symm
  subst hI'
  obtain ⟨bk, hb0, hb1⟩ : ∃ bk : Nat → Nat, bk 0 = ba ∧ bk 1 = bb := ⟨fun n => if n = 0 then ba else bb, rfl, rfl⟩
  subst hb0
  subst hb1
  obtain ⟨h0, hh0, hh1⟩ : ∃ h0 : Nat → EH, h0 0 = ha ∧ h0 1 = hb := ⟨fun n => if n = 0 then ha else hb, rfl, rfl⟩
  subst hh0
  subst hh1
  have hE0 : ∀ n, n < 2 → EndIs (startF n) (h0 n) := fun n hn => by
    match n, hn with
    | 0, _ => exact hEa
    | 1, _ => exact hEb
  refine XO.perm (perm_take [6, 3, 3, 3]) ?_
  refine XO.own_eq (L' := (some (b4, .cells #[.int .i64 p.ser, .int .i64 p.ack, .string p.body, .string p.sl] 24 (0, 0)) :: (twoL bk startF h0 ++ Lf))) rfl ?_
  refine XO.rd rfl rfl rfl (Reads.move rfl) ?_
  refine XO.rd rfl rfl rfl (Reads.extract rfl rfl) ?_
  refine XO.rd rfl rfl rfl (Reads.extract rfl rfl) ?_
  refine XO.rd rfl rfl rfl (Reads.extract rfl rfl) ?_
  refine XO.rd rfl rfl rfl (Reads.assign rfl) ?_
  refine XO.rd rfl rfl rfl (Reads.assign rfl) ?_
  refine XO.rd rfl rfl rfl (Reads.assign rfl) ?_
  refine XO.nil ?_
  refine XQ.then_normal ?_
  refine XC.seq ?_
  refine XC.seq ?_
  refine XC.region ?_
  refine XO.callp rfl rfl en14 (FC.pure (sane_any _ hG)) trivial ?_
  refine XO.rd rfl rfl rfl (Reads.not rfl) ?_
  refine XO.rd rfl rfl rfl (Reads.move rfl) ?_
  refine XO.rd (wg rfl rfl rfl) rfl rfl (Reads.move rfl) ?_
  refine XO.rd (wg rfl rfl rfl) rfl rfl (Reads.not rfl) ?_
  refine XO.rd rfl rfl rfl (Reads.pick_false rfl rfl) ?_
  refine XO.nil ?_
  refine XQ.then_normal ?_
  refine XC.cond rfl (fun hx => by cases hx) (fun _ => ?_)
  refine XC.skip ?_
  refine XQ.then_normal ?_
  refine XC.seq ?_
  refine XC.region ?_
  refine XO.rd rfl rfl rfl (Reads.load_whole k24 z24 rfl (by first | exact WholeAt.of 0 rfl | exact WholeAt.of 1 rfl | exact WholeAt.of 2 rfl | exact WholeAt.of 3 rfl | exact WholeAt.of 4 rfl | exact WholeAt.of 5 rfl | exact WholeAt.of 6 rfl | exact WholeAt.of 7 rfl | exact WholeAt.of 8 rfl | exact WholeAt.of 9 rfl | exact WholeAt.of 10 rfl | exact WholeAt.of 11 rfl | exact WholeAt.of 12 rfl | exact WholeAt.of 13 rfl | exact WholeAt.of 14 rfl | exact WholeAt.of 15 rfl) (by rfl)) ?_
  refine XO.callp rfl rfl en15 (short_any p _) ⟨rfl, trivial⟩ ?_
  refine XO.store_agg (vs := (shortF p).cells) 0 rfl z24 rfl rfl (by intro v hv; simp at hv; rcases hv with rfl | rfl | rfl | rfl <;> rfl) rfl (Nat.le_refl 4) ?_
  refine XO.own_eq (L' := (some (b4, .cells (shortF p).cells.toArray 24 (0, 0)) :: (twoL bk startF h0 ++ Lf))) rfl ?_
  refine XO.nil ?_
  refine XQ.then_normal ?_
  refine XC.seq ?_
  refine XC.region ?_
  refine XO.rd rfl rfl rfl (Reads.move rfl) ?_
  refine XO.rd rfl rfl rfl (Reads.move rfl) ?_
  refine XO.rd rfl rfl rfl (Reads.len_string Tryd.underlying9 rfl) ?_
  refine XO.rd rfl rfl rfl (Reads.min rfl rfl) ?_
  rw [show min (s.size : Int) 201 = ((min s.size 201 : Nat) : Int) by omega]
  refine XO.rd rfl rfl rfl (Reads.sslice_to Tryd.underlying9 rfl rfl (Nat.min_le_left _ _)) ?_
  refine XO.rd rfl rfl rfl (Reads.assign rfl) ?_
  refine XO.nil ?_
  refine XQ.then_normal ?_
  refine XC.seq ?_
  refine XC.region ?_
  refine XO.rd rfl rfl rfl (Reads.move rfl) ?_
  refine XO.rd rfl rfl rfl (Reads.move rfl) ?_
  refine XO.lit (α := PB) [⟨bk 0⟩, ⟨bk 1⟩] [.pointer (some ⟨bk 0, 0, none⟩), .pointer (some ⟨bk 1, 0, none⟩)] [.pointer (some ⟨bk 0, 0, none⟩), .pointer (some ⟨bk 1, 0, none⟩)] rfl rfl Tryd.underlying30 el25 rfl (by simp) ⟨rfl, rfl, rfl, rfl, trivial⟩ rfl rfl (by decide) rfl (.cons (cs := [.pointer (some ⟨bk 0, 0, none⟩)]) rfl (.cons (cs := [.pointer (some ⟨bk 1, 0, none⟩)]) rfl .nil)) (fun be J1 hle1 hse => ?_)
  replace hI := Im.le_trans hI hle1
  replace hG := hG.mono hle1
  replace hY := hY.mono hle1
  have hP := hse.arr.1
  refine XO.rd rfl rfl rfl (Reads.assign rfl) ?_
  refine XO.nil ?_
  refine XQ.then_normal ?_
  refine XC.seq ?_
  refine XC.region ?_
  refine XO.callp rfl rfl en17 (key_any 0 _ (by decide)) ⟨rfl, trivial⟩ ?_
  refine XO.callp rfl rfl en17 (key_any 1 _ (by decide)) ⟨rfl, trivial⟩ ?_
  refine XO.callo (vs := [_, _]) (L1 := []) rfl rfl rfl en16 ⟨rfl, rfl, trivial⟩ (ropen_any (keyB 0) (keyB 1) _ (keyB_size _) (keyB_size _)) (List.Perm.refl _) ?_
  rintro v I' L' _ ⟨ra, sa, rfl, hI', rfl, hRa⟩
  replace hI' := hI'.symm
  subst hI'
  refine XO.rd rfl rfl rfl (Reads.move rfl) ?_
  refine XO.rd rfl rfl rfl (Reads.extract rfl rfl) ?_
  refine XO.rd rfl rfl rfl (Reads.extract rfl rfl) ?_
  refine XO.rd rfl rfl rfl (Reads.assign rfl) ?_
  refine XO.rd rfl rfl rfl (Reads.assign rfl) ?_
  refine XO.nil ?_
  refine XQ.then_normal ?_
  refine XC.seq ?_
  refine XC.region ?_
  refine XO.callp rfl rfl en17 (key_any 1 _ (by decide)) ⟨rfl, trivial⟩ ?_
  refine XO.callp rfl rfl en17 (key_any 0 _ (by decide)) ⟨rfl, trivial⟩ ?_
  refine XO.callo (vs := [_, _]) (L1 := []) rfl rfl rfl en16 ⟨rfl, rfl, trivial⟩ (ropen_any (keyB 1) (keyB 0) _ (keyB_size _) (keyB_size _)) (List.Perm.refl _) ?_
  rintro v I' L' _ ⟨rb, sb, rfl, hI', rfl, hRb⟩
  replace hI' := hI'.symm
  subst hI'
  obtain ⟨rk, hr0, hr1⟩ : ∃ rk : Nat → Nat, rk 0 = ra ∧ rk 1 = rb := ⟨fun n => if n = 0 then ra else rb, rfl, rfl⟩
  subst hr0
  subst hr1
  obtain ⟨r0, hs0, hs1⟩ : ∃ r0 : Nat → RH, r0 0 = sa ∧ r0 1 = sb := ⟨fun n => if n = 0 then sa else sb, rfl, rfl⟩
  subst hs0
  subst hs1
  have hR0 : ∀ n, n < 2 → RIs (startF n) (r0 n) := fun n hn => by
    match n, hn with
    | 0, _ => exact hRa
    | 1, _ => exact hRb
  refine XO.perm (perm_take [4, 4, 4, 4, 4, 4, 4, 2, 2]) ?_
  refine XO.own_eq (L' := (some (b4, .cells (shortF p).cells.toArray 24 (0, 0)) :: (twoL bk startF h0 ++ (twoR rk startF r0 ++ Lf)))) rfl ?_
  refine XO.rd rfl rfl rfl (Reads.move rfl) ?_
  refine XO.rd rfl rfl rfl (Reads.extract rfl rfl) ?_
  refine XO.rd rfl rfl rfl (Reads.extract rfl rfl) ?_
  refine XO.rd rfl rfl rfl (Reads.assign rfl) ?_
  refine XO.rd rfl rfl rfl (Reads.assign rfl) ?_
  refine XO.nil ?_
  refine XQ.then_normal ?_
  refine XC.seq ?_
  refine XC.region ?_
  refine XO.rd rfl rfl rfl (Reads.move rfl) ?_
  refine XO.rd rfl rfl rfl (Reads.move rfl) ?_
  refine XO.lit (α := PB) [⟨rk 0⟩, ⟨rk 1⟩] [.pointer (some ⟨rk 0, 0, none⟩), .pointer (some ⟨rk 1, 0, none⟩)] [.pointer (some ⟨rk 0, 0, none⟩), .pointer (some ⟨rk 1, 0, none⟩)] rfl rfl Tryd.underlying36 el31 rfl (by simp) ⟨rfl, rfl, rfl, rfl, trivial⟩ rfl rfl (by decide) rfl (.cons (cs := [.pointer (some ⟨rk 0, 0, none⟩)]) rfl (.cons (cs := [.pointer (some ⟨rk 1, 0, none⟩)]) rfl .nil)) (fun bf J2 hle2 hsf => ?_)
  replace hI := Im.le_trans hI hle2
  replace hG := hG.mono hle2
  replace hY := hY.mono hle2
  replace hP := hP.mono hle2
  have hQ := hsf.arr.1
  refine XO.rd rfl rfl rfl (Reads.assign rfl) ?_
  refine XO.nil ?_
  refine XQ.then_normal ?_
  refine XC.seq ?_
  refine XC.weaken (E' := [(0, _), (2, _), (4, _), (10, _), (15, _)]) ⟨rfl, rfl, rfl, rfl, rfl, trivial⟩ ?_
  refine XC.region ?_
  refine XO.rd rfl rfl rfl (Reads.load_whole (c := (shortF p).cells.toArray) k24 z24 rfl (WholeAt.of 0 rfl) rfl) ?_
  refine XO.buildL [(shortF p).val] (shortF p).cells rfl rfl Tryd.underlying37 el24 rfl (by simp) ⟨rfl, rfl, trivial⟩ rfl rfl (fun bp => ?_)
  refine XO.perm (perm_take [1]) ?_
  refine XO.dropn 1 ?_
  refine XO.perm (perm_take [1, 1, 1, 1, 1, 1, 1, 1, 1, 1]) ?_
  refine XO.own_eq (L' := (twoL bk startF h0 ++ (twoR rk startF r0 ++ ((⟨some (bp, (shortF p).cells.toArray), 1, 1⟩ : Vec).ent 24 :: Lf)))) rfl ?_
  refine XO.rd rfl rfl rfl (Reads.assign rfl) ?_
  refine XO.nil ?_
  refine XQ.then_normal ?_
  refine XC.seq ?_
  refine XC.seq ?_
  refine XC.region ?_
  refine XO.rd rfl rfl rfl (Reads.assign rfl) ?_
  refine XO.nil ?_
  refine XQ.then_normal ?_
  refine XC.block ?_
  refine XC.loop (ι := Nat × MSt) (fun q => [(0, .slice a ops.length cap), (2, .string (s.extract 0 (min s.size 201))), (10, .slice (some ⟨be, 0, none⟩) 2 2), (15, .slice (some ⟨bf, 0, none⟩) 2 2), (16, q.2.VP.val), (17, .int .i64 q.1)]) (fun q => q.2.J) (fun q => (twoL bk q.2.x q.2.h ++ (twoR rk q.2.x q.2.r ++ (q.2.VP.ent 24 :: Lf)))) (fun q => J2.le q.2.J ∧ q.1 ≤ ops.length ∧ q.1 ≤ 40 ∧ MInv q.1 q.2) (fun q => 40 - q.1) (0, ⟨startF, h0, r0, [(shortF p)], (⟨some (bp, (shortF p).cells.toArray), 1, 1⟩ : Vec), J2⟩) ⟨Im.le_refl _, Nat.zero_le _, Nat.zero_le _, ⟨hE0, hR0, vec_one _ _, fun q hq => by simp only [List.mem_singleton] at hq; subst hq; exact short_pool hp1 hp2, Nat.succ_pos 0, Nat.le_refl _⟩⟩ ⟨rfl, rfl, rfl, rfl, rfl, rfl, trivial⟩ rfl (List.Perm.refl _) (fun q hq => ?_)
  obtain ⟨k, x, hh, rr, ps, VP, J9⟩ := q
  obtain ⟨hJle, hk1, hk2, hst⟩ := hq
  simp only at hJle hk1 hk2 hst ⊢
  replace hI := Im.le_trans hI hJle
  replace hG := hG.mono hJle
  replace hY := hY.mono hJle
  replace hP := hP.mono hJle
  replace hQ := hQ.mono hJle
  have hEs : ∀ n, n < 2 → EndIs (x n) (hh n) := hst.is
  have hRs : ∀ n, n < 2 → RIs (x n) (rr n) := hst.ris
  have hPv : VP.Is 4 (pktC ps) := hst.p
  have hpos : 0 < ps.length := hst.pos
  have hpool : ps.length ≤ 1 + 4 * k := hst.pool
  have hPl := hPv.len
  rw [pktC_len] at hPl
  replace hPl : VP.len = ps.length := by omega
  refine XC.seq ?_
  refine XC.seq ?_
  refine XC.region ?_
  refine XO.rd rfl rfl rfl (Reads.move rfl) ?_
  refine XO.rd rfl rfl rfl (Reads.move rfl) ?_
  refine XO.rd rfl rfl rfl (Reads.len_slice Tryd.underlying22 rfl) ?_
  refine XO.rd rfl rfl rfl (Reads.cmp rfl rfl rfl) ?_
  refine XO.rd rfl rfl rfl (Reads.move rfl) ?_
  refine XO.split (d := 70) rfl (fun h1 => ?_) (fun h1 => ?_)
  · skip
    simp only [cmpInt, decide_eq_true_eq] at h1
    have hk3 : k < ops.length := by omega
    refine XO.rd (wg rfl rfl rfl) rfl rfl (Reads.move rfl) ?_
    refine XO.rd (wg rfl rfl rfl) rfl rfl (Reads.cmp rfl rfl rfl) ?_
    refine XO.rd rfl rfl rfl (Reads.pick_true rfl rfl) ?_
    refine XO.nil ?_
    refine XQ.then_normal ?_
    refine XC.cond rfl (fun h2 => ?_) (fun h2 => ?_)
    · skip
      simp only [cmpInt, decide_eq_true_eq] at h2
      have hq := hops _ (List.getElem_mem hk3)
      have hp2 := pickI_range (c := ops[k].a) (n := 2) (by omega)
      refine XC.skip ?_
      refine XQ.then_normal ?_
      refine XC.seq ?_
      refine XC.block ?_
      refine XC.seq ?_
      refine XC.region ?_
      refine XO.rd rfl rfl rfl (Reads.move rfl) ?_
      refine XO.rd rfl rfl rfl (Reads.move rfl) ?_
      refine XO.rd rfl rfl rfl (Reads.index_slot (q := k * 4) Tryd.underlying22 z39 rfl rfl (by omega) (hY.isSome (by decide) (by omega)) (by omega)) ?_
      refine XO.rd rfl rfl rfl (Reads.index_arr_slot (q := k * 4 + 0) Tryd.underlying39 z3 rfl rfl (by decide) (hY.addr (by decide) (by omega)) (by omega)) ?_
      refine XO.rd rfl rfl rfl (Reads.load_at k3 rfl (Arr.q4 hY hk3 0 _ rfl)) ?_
      refine XO.callp rfl rfl en18 (pickL_any ops[k].a 2 _ hq.a (by decide)) ⟨rfl, rfl, trivial⟩ ?_
      obtain ⟨n, hnn⟩ : ∃ n : Nat, pickI ops[k].a 2 = n := ⟨(pickI ops[k].a 2).toNat, by omega⟩
      have hn : n < 2 := by omega
      rw [hnn]
      refine XO.rd rfl rfl rfl (Reads.assign rfl) ?_
      refine XO.nil ?_
      refine XQ.then_normal ?_
      refine XC.seq ?_
      refine XC.region ?_
      refine XO.rd rfl rfl rfl (Reads.move rfl) ?_
      refine XO.rd rfl rfl rfl (Reads.move rfl) ?_
      refine XO.rd rfl rfl rfl (Reads.index_slot (q := n) Tryd.underlying30 z25 rfl rfl (by omega) (hP.isSome (by decide) (Nat.succ_pos 1)) (by omega)) ?_
      refine XO.rd rfl rfl rfl (Reads.load_at k25 rfl (Arr.ptr hP hn)) ?_
      refine XO.rd rfl rfl rfl (Reads.assign rfl) ?_
      refine XO.nil ?_
      refine XQ.then_normal ?_
      refine XC.seq ?_
      refine XC.region ?_
      refine XO.rd rfl rfl rfl (Reads.move rfl) ?_
      refine XO.rd rfl rfl rfl (Reads.move rfl) ?_
      refine XO.rd rfl rfl rfl (Reads.index_slot (q := n) Tryd.underlying36 z31 rfl rfl (by omega) (hQ.isSome (by decide) (Nat.succ_pos 1)) (by omega)) ?_
      refine XO.rd rfl rfl rfl (Reads.load_at k31 rfl (Arr.ptr hQ hn)) ?_
      refine XO.rd rfl rfl rfl (Reads.assign rfl) ?_
      refine XO.nil ?_
      refine XQ.then_normal ?_
      refine XC.seq ?_
      refine XC.seq ?_
      refine XC.region ?_
      refine XO.rd rfl rfl rfl (Reads.move rfl) ?_
      refine XO.rd rfl rfl rfl (Reads.move rfl) ?_
      refine XO.rd rfl rfl rfl (Reads.index_slot (q := k * 4) Tryd.underlying22 z39 rfl rfl (by omega) (hY.isSome (by decide) (by omega)) (by omega)) ?_
      refine XO.rd rfl rfl rfl (Reads.index_arr_slot (q := k * 4 + 1) Tryd.underlying39 z3 rfl rfl (by decide) (hY.addr (by decide) (by omega)) (by omega)) ?_
      refine XO.rd rfl rfl rfl (Reads.load_at k3 rfl (Arr.q4 hY hk3 1 _ rfl)) ?_
      refine XO.callp rfl rfl en18 (pickL_any ops[k].b 4 _ hq.b (by decide)) ⟨rfl, rfl, trivial⟩ ?_
      refine XO.nil ?_
      refine XQ.then_normal ?_
      refine XC.join (ι := MSt) (fun q => [(0, .slice a ops.length cap), (2, .string (s.extract 0 (min s.size 201))), (10, .slice (some ⟨be, 0, none⟩) 2 2), (15, .slice (some ⟨bf, 0, none⟩) 2 2), (16, q.VP.val), (17, .int .i64 k), (19, .pointer (some ⟨bk n, 0, none⟩)), (20, .pointer (some ⟨rk n, 0, none⟩))]) (fun q => q.J) (fun q => (twoL bk q.x q.h ++ (twoR rk q.x q.r ++ (q.VP.ent 24 :: Lf)))) (fun q => J9.le q.J ∧ MInv (k + 1) q) ?_ (fun q2 hq2 => ?_)
      · skip
        refine XC.block ?_
        refine XC.seq ?_
        refine XC.region ?_
        refine XO.rd rfl rfl rfl (Reads.cmp rfl rfl rfl) ?_
        refine XO.rd rfl rfl rfl (Reads.assign rfl) ?_
        refine XO.nil ?_
        refine XQ.then_normal ?_
        refine XC.cond rfl (fun h3 => ?_) (fun h3 => ?_)
        · skip
          simp only [cmpInt, beq_iff_eq] at h3
          refine XC.seq ?_
          refine XC.region ?_
          refine XO.rd rfl rfl rfl (Reads.move rfl) ?_
          refine XO.rd rfl rfl rfl (Reads.move rfl) ?_
          refine XO.rd rfl rfl rfl (Reads.index_slot (q := k * 4) Tryd.underlying22 z39 rfl rfl (by omega) (hY.isSome (by decide) (by omega)) (by omega)) ?_
          refine XO.rd rfl rfl rfl (Reads.index_arr_slot (q := k * 4 + 2) Tryd.underlying39 z3 rfl rfl (by decide) (hY.addr (by decide) (by omega)) (by omega)) ?_
          refine XO.rd rfl rfl rfl (Reads.load_at k3 rfl (Arr.q4 hY hk3 2 _ rfl)) ?_
          refine XO.callp rfl rfl en19 (body_any ops[k].c _ hq.c) ⟨rfl, trivial⟩ ?_
          refine XO.rd rfl rfl rfl (Reads.assign rfl) ?_
          refine XO.nil ?_
          refine XQ.then_normal ?_
          refine XC.seq ?_
          refine XC.seq ?_
          refine XC.weaken (E' := [(0, _), (2, _), (10, _), (15, _), (16, _), (17, _), (19, _), (20, _), (21, _)]) ⟨rfl, rfl, rfl, rfl, rfl, rfl, rfl, rfl, rfl, trivial⟩ ?_
          refine XC.region ?_
          refine XO.rd rfl rfl rfl (Reads.move rfl) ?_
          refine XO.rd rfl rfl rfl (Reads.move rfl) ?_
          refine XO.rd rfl rfl rfl (Reads.index_slot (q := k * 4) Tryd.underlying22 z39 rfl rfl (by omega) (hY.isSome (by decide) (by omega)) (by omega)) ?_
          refine XO.rd rfl rfl rfl (Reads.index_arr_slot (q := k * 4 + 3) Tryd.underlying39 z3 rfl rfl (by decide) (hY.addr (by decide) (by omega)) (by omega)) ?_
          refine XO.rd rfl rfl rfl (Reads.load_at k3 rfl (Arr.q4 hY hk3 3 _ rfl)) ?_
          refine XO.callp rfl rfl en18 (pickL_any ops[k].d 8 _ hq.d (by decide)) ⟨rfl, rfl, trivial⟩ ?_
          refine XO.rd rfl rfl rfl (Reads.cmp rfl rfl rfl) ?_
          refine XO.nil ?_
          refine XQ.then_normal ?_
          refine XC.cond rfl (fun h4 => ?_) (fun h4 => ?_)
          · skip
            simp only [cmpInt, beq_iff_eq] at h4
            obtain ⟨ss, hss⟩ : ∃ ss, ss = (s.extract 0 (min s.size 201)) := ⟨_, rfl⟩
            have hsz : ss.size ≤ 1000000 := by rw [hss, ByteArray.size_extract]; omega
            rw [← hss]
            refine XC.region ?_
            refine XO.rd rfl rfl rfl (Reads.move rfl) ?_
            refine XO.rd rfl rfl rfl (Reads.assign rfl) ?_
            refine XO.nil ?_
            refine XQ.then_normal ?_
            refine XC.seq ?_
            refine XC.region ?_
            refine XO.rd rfl rfl rfl (Reads.move rfl) ?_
            refine XO.rd rfl rfl rfl (Reads.move rfl) ?_
            refine XO.callo (vs := [_, _]) (L1 := twoL bk x hh) rfl rfl rfl en20 ⟨rfl, rfl, trivial⟩ (send_two hn hEs hsz) (List.Perm.refl _) ?_
            rintro v I' L' _ ⟨rfl, hI', h', rfl, hE'⟩
            replace hI' := hI'.symm
            subst hI'
            refine XO.rd rfl rfl rfl (Reads.move rfl) ?_
            refine XO.rd rfl rfl rfl (Reads.move rfl) ?_
            refine XO.callo (vs := [_, _]) (L1 := twoR rk x rr) rfl rfl rfl en21 ⟨rfl, rfl, trivial⟩ (rsend_two hn hRs hsz) (perm_take [6, 6, 6, 6]) ?_
            rintro v I' L' _ ⟨rfl, hI', r', rfl, hR'⟩
            replace hI' := hI'.symm
            subst hI'
            refine XO.perm (perm_take [4, 4, 4, 4, 4, 4]) ?_
            refine XO.rd rfl rfl rfl (Reads.cmp_no rfl rfl rfl (by simp only [cmpInt, decide_eq_false_iff_not, beq_eq_false_iff_ne, bne_eq_false_iff_eq] <;> omega)) ?_
            refine XO.nil ?_
            refine XQ.then_normal ?_
            refine XC.cond rfl (fun hx => by cases hx) (fun _ => ?_)
            refine XC.skip ?_
            refine XQ.block_normal ?_
            refine XQ.joined ⟨upd x n (sendF (x n) ss).1, h', r', ps, VP, _⟩ ⟨Im.le_refl _, hE', hR', hPv, hst.ok, hst.pos, by have := hst.pool; simp only at this ⊢; omega⟩ ⟨rfl, rfl, rfl, rfl, rfl, rfl, rfl, rfl, trivial⟩ rfl (List.Perm.refl _)
          · skip
            simp only [cmpInt, beq_eq_false_iff_ne] at h4
            obtain ⟨ss, hss⟩ : ∃ ss, ss = bodyB ops[k].c := ⟨_, rfl⟩
            have hsz : ss.size ≤ 1000000 := by rw [hss]; have := bodyB_size ops[k].c; omega
            rw [← hss]
            refine XC.skip ?_
            refine XQ.then_normal ?_
            refine XC.seq ?_
            refine XC.region ?_
            refine XO.rd rfl rfl rfl (Reads.move rfl) ?_
            refine XO.rd rfl rfl rfl (Reads.move rfl) ?_
            refine XO.callo (vs := [_, _]) (L1 := twoL bk x hh) rfl rfl rfl en20 ⟨rfl, rfl, trivial⟩ (send_two hn hEs hsz) (List.Perm.refl _) ?_
            rintro v I' L' _ ⟨rfl, hI', h', rfl, hE'⟩
            replace hI' := hI'.symm
            subst hI'
            refine XO.rd rfl rfl rfl (Reads.move rfl) ?_
            refine XO.rd rfl rfl rfl (Reads.move rfl) ?_
            refine XO.callo (vs := [_, _]) (L1 := twoR rk x rr) rfl rfl rfl en21 ⟨rfl, rfl, trivial⟩ (rsend_two hn hRs hsz) (perm_take [6, 6, 6, 6]) ?_
            rintro v I' L' _ ⟨rfl, hI', r', rfl, hR'⟩
            replace hI' := hI'.symm
            subst hI'
            refine XO.perm (perm_take [4, 4, 4, 4, 4, 4]) ?_
            refine XO.rd rfl rfl rfl (Reads.cmp_no rfl rfl rfl (by simp only [cmpInt, decide_eq_false_iff_not, beq_eq_false_iff_ne, bne_eq_false_iff_eq] <;> omega)) ?_
            refine XO.nil ?_
            refine XQ.then_normal ?_
            refine XC.cond rfl (fun hx => by cases hx) (fun _ => ?_)
            refine XC.skip ?_
            refine XQ.block_normal ?_
            refine XQ.joined ⟨upd x n (sendF (x n) ss).1, h', r', ps, VP, _⟩ ⟨Im.le_refl _, hE', hR', hPv, hst.ok, hst.pos, by have := hst.pool; simp only at this ⊢; omega⟩ ⟨rfl, rfl, rfl, rfl, rfl, rfl, rfl, rfl, trivial⟩ rfl (List.Perm.refl _)
        · skip
          simp only [cmpInt, beq_eq_false_iff_ne] at h3
          refine XC.seq ?_
          refine XC.region ?_
          refine XO.rd rfl rfl rfl (Reads.cmp rfl rfl rfl) ?_
          refine XO.rd rfl rfl rfl (Reads.assign rfl) ?_
          refine XO.nil ?_
          refine XQ.then_normal ?_
          refine XC.cond rfl (fun h5 => ?_) (fun h5 => ?_)
          · skip
            simp only [cmpInt, beq_iff_eq] at h5
            refine XC.seq ?_
            refine XC.region ?_
            refine XO.rd rfl rfl rfl (Reads.move rfl) ?_
            refine XO.callo (vs := [_]) (L1 := twoL bk x hh) rfl rfl rfl en22 ⟨rfl, trivial⟩ (out_two hn hEs hG) (List.Perm.refl _) ?_
            rintro v I' L' _ ⟨Va, rfl, hI', rfl, hVa, hVal⟩
            replace hI' := hI'.symm
            subst hI'
            refine XO.own_eq (L' := (Va.ent 24 :: (twoL bk x hh ++ (twoR rk x rr ++ (VP.ent 24 :: Lf))))) rfl ?_
            refine XO.vec_done (α := Pkt) (by decide) hVa (flat_pkt _ _) (fun J5 hle5 hs5 => ?_)
            replace hI := Im.le_trans hI hle5
            replace hG := hG.mono hle5
            replace hY := hY.mono hle5
            replace hP := hP.mono hle5
            replace hQ := hQ.mono hle5
            obtain ⟨blka, lena, capa⟩ := Va
            simp only at hVal hs5 ⊢
            subst hVal
            have hO5 := hs5.arr.1
            refine XO.rd rfl rfl rfl (Reads.assign rfl) ?_
            refine XO.nil ?_
            refine XQ.then_normal ?_
            refine XC.seq ?_
            refine XC.seq ?_
            refine XC.weaken (E' := [(0, _), (2, _), (10, _), (15, _), (16, _), (17, _), (19, _), (20, _), (22, _)]) ⟨rfl, rfl, rfl, rfl, rfl, rfl, rfl, rfl, rfl, trivial⟩ ?_
            refine XC.region ?_
            refine XO.rd rfl rfl rfl (Reads.move rfl) ?_
            refine XO.rd rfl rfl rfl (Reads.move rfl) ?_
            refine XO.callo (vs := [_]) (L1 := twoR rk x rr) rfl rfl rfl en24 ⟨rfl, trivial⟩ (rout_two hn hRs) (perm_take [6, 6, 6, 6]) ?_
            rintro v I' L' _ ⟨Vb, rfl, hI', rfl, hVb, hVbl⟩
            replace hI' := hI'.symm
            subst hI'
            refine XO.perm (perm_take [0, 4, 4, 4, 4, 4, 4]) ?_
            refine XO.own_eq (L' := (Vb.ent 24 :: (twoL bk x hh ++ (twoR rk x rr ++ (VP.ent 24 :: Lf))))) rfl ?_
            refine XO.vec_done (α := Pkt) (by decide) hVb (flat_pkt _ _) (fun J6 hle6 hs6 => ?_)
            replace hI := Im.le_trans hI hle6
            replace hG := hG.mono hle6
            replace hY := hY.mono hle6
            replace hP := hP.mono hle6
            replace hQ := hQ.mono hle6
            replace hO5 := hO5.mono hle6
            obtain ⟨blkb, lenb, capb⟩ := Vb
            simp only at hVbl hs6 ⊢
            subst hVbl
            have hO6 := hs6.arr.1
            refine XO.callp rfl rfl en23 (same_is (c := true) (decide_eq_true rfl) (by have := outF_len (x n); omega) hO5 hO6) ⟨rfl, rfl, trivial⟩ ?_
            refine XO.rd rfl rfl rfl (Reads.not rfl) ?_
            refine XO.nil ?_
            refine XQ.then_normal ?_
            refine XC.cond rfl (fun hx => by cases hx) (fun _ => ?_)
            refine XC.skip ?_
            refine XQ.then_normal ?_
            refine XC.region ?_
            refine XO.rd rfl rfl rfl (Reads.move rfl) ?_
            refine XO.rd rfl rfl rfl (Reads.move rfl) ?_
            have hO4 := outF_len (x n)
            refine XO.append (V := VP) (news := pktC (outF (x n))) 10 rfl rfl Tryd.underlying37 el24 rfl rfl hPv rfl (.slice Tryd.underlying37 (.inr (.inl (arr_pktC hO5))) (pktC_len _) (pktC_one _)) (by dsimp only; omega) (by dsimp only; omega) ?_
            intro VP' hVP' hVPl'
            refine XO.own_eq (L' := (twoL bk x hh ++ (twoR rk x rr ++ (VP'.ent 24 :: Lf)))) rfl ?_
            refine XO.rd rfl rfl rfl (Reads.assign rfl) ?_
            refine XO.nil ?_
            refine XQ.block_normal ?_
            refine XQ.joined ⟨x, hh, rr, ps ++ outF (x n), VP', _⟩ ⟨Im.le_trans hle5 hle6, hEs, hRs, by simp only; rw [pktC_append]; exact hVP', fun q hq => (List.mem_append.1 hq).elim (hst.ok q) (out_pool (hEs n hn).ok q), by simp only; rw [List.length_append]; omega, by simp only; rw [List.length_append]; omega⟩ ⟨rfl, rfl, rfl, rfl, rfl, rfl, rfl, rfl, trivial⟩ rfl (List.Perm.refl _)
          · skip
            simp only [cmpInt, beq_eq_false_iff_ne] at h5
            refine XC.seq ?_
            refine XC.region ?_
            refine XO.rd rfl rfl rfl (Reads.move rfl) ?_
            refine XO.rd rfl rfl rfl (Reads.move rfl) ?_
            refine XO.rd rfl rfl rfl (Reads.move rfl) ?_
            refine XO.rd rfl rfl rfl (Reads.index_slot (q := k * 4) Tryd.underlying22 z39 rfl rfl (by omega) (hY.isSome (by decide) (by omega)) (by omega)) ?_
            refine XO.rd rfl rfl rfl (Reads.index_arr_slot (q := k * 4 + 2) Tryd.underlying39 z3 rfl rfl (by decide) (hY.addr (by decide) (by omega)) (by omega)) ?_
            refine XO.rd rfl rfl rfl (Reads.load_at k3 rfl (Arr.q4 hY hk3 2 _ rfl)) ?_
            refine XO.rd rfl rfl rfl (Reads.move rfl) ?_
            refine XO.rd rfl rfl rfl (Reads.len_slice Tryd.underlying37 rfl) ?_
            refine XO.callp rfl rfl en18 (pickL_any ops[k].c ((VP.len : Nat) : Int) _ hq.c (by omega)) ⟨rfl, rfl, trivial⟩ ?_
            have hpr := pickI_range (c := ops[k].c) (n := ((VP.len : Nat) : Int)) (by omega)
            obtain ⟨kk, hjj⟩ : ∃ kk : Nat, pickI ops[k].c ((VP.len : Nat) : Int) = kk := ⟨(pickI ops[k].c ((VP.len : Nat) : Int)).toNat, by omega⟩
            have hkk : kk < ps.length := by omega
            have hpk := hst.ok _ (List.getElem_mem hkk)
            have hkin := hpk.in_
            rw [hjj]
            refine XO.rd rfl rfl rfl (Reads.index_slot (q := kk * 4) Tryd.underlying37 z24 rfl rfl (by omega) (vec_isSomes (k := kk * 4 + 0) hPv (pktC_at _ hkk 0 _ rfl)) (by omega)) ?_
            refine XO.rd rfl rfl rfl (Reads.load_agg_vecs (V := VP) (vs := ps[kk].cells) k24 z24 rfl hPv (e := 24) (List.mem_of_getElem? (i := 10) rfl) (Nat.succ_pos _) (pktC_at _ hkk)) ?_
            refine XO.alloc (cs := #[.int .i64 0, .int .i64 0, .string ⟨#[]⟩, .string ⟨#[]⟩]) rfl rfl zo24 rfl (fun b23 => ?_)
            refine XO.store_agg (vs := ps[kk].cells) 0 rfl z24 rfl rfl (by intro v hv; simp at hv; rcases hv with rfl | rfl | rfl | rfl <;> rfl) rfl (Nat.le_refl 4) ?_
            refine XO.own_eq (congrArg (fun c => some (b23, Obj.cells c 24 (0, 0)) :: _) (show _ = ps[kk].cells.toArray from rfl)) ?_
            refine XO.nil ?_
            refine XQ.then_normal ?_
            refine XC.seq ?_
            refine XC.seq ?_
            refine XC.weaken (E' := [(0, _), (2, _), (10, _), (15, _), (16, _), (17, _), (18, _), (19, _), (20, _), (23, _)]) ⟨rfl, rfl, rfl, rfl, rfl, rfl, rfl, rfl, rfl, rfl, trivial⟩ ?_
            refine XC.region ?_
            refine XO.rd rfl rfl rfl (Reads.move rfl) ?_
            refine XO.rd rfl rfl rfl (Reads.move rfl) ?_
            refine XO.rd rfl rfl rfl (Reads.index_slot (q := k * 4) Tryd.underlying22 z39 rfl rfl (by omega) (hY.isSome (by decide) (by omega)) (by omega)) ?_
            refine XO.rd rfl rfl rfl (Reads.index_arr_slot (q := k * 4 + 3) Tryd.underlying39 z3 rfl rfl (by decide) (hY.addr (by decide) (by omega)) (by omega)) ?_
            refine XO.rd rfl rfl rfl (Reads.load_at k3 rfl (Arr.q4 hY hk3 3 _ rfl)) ?_
            refine XO.callp rfl rfl en18 (pickL_any ops[k].d 4 _ hq.d (by decide)) ⟨rfl, rfl, trivial⟩ ?_
            refine XO.rd rfl rfl rfl (Reads.cmp rfl rfl rfl) ?_
            refine XO.nil ?_
            refine XQ.then_normal ?_
            refine XC.cond rfl (fun h6 => ?_) (fun h6 => ?_)
            · skip
              simp only [cmpInt, beq_iff_eq] at h6
              refine XC.draw m_mixed (some 13) (.pure 0 (.pure 1 (.pure 2 (.pure 3 (.pure 4 (.pure 5 (.pure 6 (.pure 7 (.pure 8 (.pure 9 (.pure 10 (.pure 11 (.eff 12 (.eff 13 (.done))))))))))))))) [some (b23, .cells ps[kk].cells.toArray 24 (0, 0))] (by kernel_rfl) (List.Sublist.cons_cons _ (List.nil_sublist _)) ?_
              refine XR.rd rfl rfl rfl (Reads.load_whole (c := ps[kk].cells.toArray) k24 z24 rfl (WholeAt.of 0 rfl) rfl) ?_
              refine XR.rd rfl rfl rfl (Reads.move rfl) ?_
              refine XR.rd rfl rfl rfl (Reads.move rfl) ?_
              refine XR.rd rfl rfl rfl (Reads.index_slot (q := k * 4) Tryd.underlying22 z39 rfl rfl (by omega) (hY.isSome (by decide) (by omega)) (by omega)) ?_
              refine XR.rd rfl rfl rfl (Reads.index_arr_slot (q := k * 4 + 3) Tryd.underlying39 z3 rfl rfl (by decide) (hY.addr (by decide) (by omega)) (by omega)) ?_
              refine XR.rd rfl rfl rfl (Reads.load_at k3 rfl (Arr.q4 hY hk3 3 _ rfl)) ?_
              refine XR.rd rfl rfl rfl (Reads.tdiv rfl rfl hq.d (by decide)) ?_
              refine XR.rd rfl rfl rfl (Reads.move rfl) ?_
              refine XR.rd rfl rfl rfl (Reads.move rfl) ?_
              refine XR.rd rfl rfl rfl (Reads.index_slot (q := k * 4) Tryd.underlying22 z39 rfl rfl (by omega) (hY.isSome (by decide) (by omega)) (by omega)) ?_
              refine XR.rd rfl rfl rfl (Reads.index_arr_slot (q := k * 4 + 2) Tryd.underlying39 z3 rfl rfl (by decide) (hY.addr (by decide) (by omega)) (by omega)) ?_
              refine XR.rd rfl rfl rfl (Reads.load_at k3 rfl (Arr.q4 hY hk3 2 _ rfl)) ?_
              refine XR.callp rfl rfl rfl en25 (bent_any ps[kk] (ops[k].d.tdiv 4) ops[k].c _ hkin (in64_tdiv hq.d (by decide)) hq.c) ⟨rfl, rfl, rfl, trivial⟩ (List.Sublist.cons_cons _ (List.nil_sublist _)) ?_
              refine XR.store_agg (vs := (bentF ps[kk] (ops[k].d.tdiv 4) ops[k].c).cells) 0 rfl rfl z24 rfl rfl (by intro v hv; simp at hv; rcases hv with rfl | rfl | rfl | rfl <;> rfl) rfl (Nat.le_refl 4) (.inl rfl) ?_
              refine XR.own_eq (congrArg (fun c => some (b23, Obj.cells c 24 (0, 0)) :: _) (show _ = (bentF ps[kk] (ops[k].d.tdiv 4) ops[k].c).cells.toArray from rfl)) ?_
              obtain ⟨P, hPd⟩ : ∃ P, P = (bentF ps[kk] (ops[k].d.tdiv 4) ops[k].c) := ⟨_, rfl⟩
              have hPin : P.In := hPd ▸ hpk.bent hq.c
              rw [← hPd]
              refine XR.nil ?_
              refine XQ.then_normal ?_
              refine XC.seq ?_
              refine XC.region ?_
              refine XO.rd rfl rfl rfl (Reads.move rfl) ?_
              refine XO.rd rfl rfl rfl (Reads.load_whole (c := P.cells.toArray) k24 z24 rfl (WholeAt.of 0 rfl) rfl) ?_
              refine XO.callo (vs := [_, _]) (L1 := twoL bk x hh) rfl rfl rfl en26 ⟨rfl, rfl, trivial⟩ (in_two hn hEs hPin hG) (perm_take [1, 1, 1, 1, 1, 1]) ?_
              rintro v I' L' _ ⟨V3, h', rfl, hI', rfl, hV3, hV3l, hE'⟩
              replace hI' := hI'.symm
              subst hI'
              refine XO.own_eq (L' := (V3.ent 9 :: (twoL bk (upd x n (inF (x n) P).1) h' ++ (some (b23, .cells P.cells.toArray 24 (0, 0)) :: (twoR rk x rr ++ (VP.ent 24 :: Lf)))))) rfl ?_
              refine XO.vec_done (α := ByteArray) (by decide) hV3 (flat_strs _ _) (fun J7 hle7 hs7 => ?_)
              replace hI := Im.le_trans hI hle7
              replace hG := hG.mono hle7
              replace hY := hY.mono hle7
              replace hP := hP.mono hle7
              replace hQ := hQ.mono hle7
              refine XO.rd rfl rfl rfl (Reads.move rfl) ?_
              refine XO.rd rfl rfl rfl (Reads.extract rfl rfl) ?_
              refine XO.rd rfl rfl rfl (Reads.extract rfl rfl) ?_
              refine XO.rd rfl rfl rfl (Reads.assign rfl) ?_
              refine XO.rd rfl rfl rfl (Reads.assign rfl) ?_
              refine XO.nil ?_
              refine XQ.then_normal ?_
              refine XC.seq ?_
              refine XC.region ?_
              refine XO.rd rfl rfl rfl (Reads.move rfl) ?_
              refine XO.rd rfl rfl rfl (Reads.load_whole (c := P.cells.toArray) k24 z24 rfl (WholeAt.of 6 rfl) rfl) ?_
              refine XO.callo (vs := [_, _]) (L1 := twoR rk x rr) rfl rfl rfl en27 ⟨rfl, rfl, trivial⟩ (rin_two hn hRs hPin) (perm_take [7, 7, 7, 7]) ?_
              rintro v I' L' _ ⟨V4, r', rfl, hI', rfl, hV4, hV4l, hR'⟩
              replace hI' := hI'.symm
              subst hI'
              refine XO.own_eq (L' := (V4.ent 9 :: (twoR rk (upd x n (inF (x n) P).1) r' ++ (twoL bk (upd x n (inF (x n) P).1) h' ++ (some (b23, .cells P.cells.toArray 24 (0, 0)) :: (VP.ent 24 :: Lf)))))) rfl ?_
              refine XO.vec_done (α := ByteArray) (by decide) hV4 (flat_strs _ _) (fun J8 hle8 hs8 => ?_)
              replace hI := Im.le_trans hI hle8
              replace hG := hG.mono hle8
              replace hY := hY.mono hle8
              replace hP := hP.mono hle8
              replace hQ := hQ.mono hle8
              refine XO.rd rfl rfl rfl (Reads.move rfl) ?_
              refine XO.rd rfl rfl rfl (Reads.extract rfl rfl) ?_
              refine XO.rd rfl rfl rfl (Reads.extract rfl rfl) ?_
              refine XO.rd rfl rfl rfl (Reads.assign rfl) ?_
              refine XO.rd rfl rfl rfl (Reads.assign rfl) ?_
              refine XO.nil ?_
              refine XQ.then_normal ?_
              refine XC.seq ?_
              refine XC.weaken (E' := [(0, _), (2, _), (10, _), (15, _), (16, _), (17, _), (18, _), (19, _), (20, _), (23, _), (24, _), (25, _), (26, _), (27, _)]) ⟨rfl, rfl, rfl, rfl, rfl, rfl, rfl, rfl, rfl, rfl, rfl, rfl, rfl, rfl, trivial⟩ ?_
              refine XC.draw m_mixed none (.pure 0 (.pure 1 (.pure 2 (.pure 3 (.pure 4 (.pure 5 (.eff 6 (.pure 7 (.pure 8 (.pure 9 (.pure 10 (.pure 12 (.pure 14 (.pure 16 (.eff 11 (.eff 13 (.eff 15 (.eff 17 (.pure 18 (.pure 19 (.done))))))))))))))))))))) [some (b23, .cells P.cells.toArray 24 (0, 0))] (by kernel_rfl) (List.Sublist.cons _ (List.Sublist.cons _ (List.Sublist.cons _ (List.Sublist.cons _ (List.Sublist.cons _ (List.Sublist.cons _ (List.Sublist.cons _ (List.Sublist.cons _ (List.Sublist.cons _ (List.Sublist.cons _ (List.Sublist.cons_cons _ (List.nil_sublist _)))))))))))) ?_
              refine XR.rd rfl rfl rfl (Reads.move rfl) ?_
              refine XR.rd rfl rfl rfl (Reads.move rfl) ?_
              refine XR.rd rfl rfl rfl (Reads.cmp_no rfl rfl rfl (by simp only [cmpInt, decide_eq_false_iff_not, beq_eq_false_iff_ne, bne_eq_false_iff_eq] <;> omega)) ?_
              refine XR.rd rfl rfl rfl (Reads.move rfl) ?_
              refine XR.rd rfl (wg rfl rfl rfl) rfl (Reads.move rfl) ?_
              refine XR.rd rfl (wg rfl rfl rfl) rfl (Reads.move rfl) ?_
              refine XR.callp rfl (wg rfl rfl rfl) rfl en28 (strings_is (c := true) (xs := (inF (x n) P).2.1) (ys := (inF (x n) P).2.1) (decide_eq_true rfl) (by have := inF_len (x n) P; omega) hs7 hle8 hs8 (Im.le_refl _)) ⟨rfl, rfl, trivial⟩ (List.Sublist.cons _ (List.Sublist.cons _ (List.Sublist.cons _ (List.Sublist.cons _ (List.Sublist.cons _ (List.Sublist.cons _ (List.Sublist.cons _ (List.Sublist.cons _ (List.Sublist.cons _ (List.Sublist.cons _ (List.Sublist.cons_cons _ (List.nil_sublist _)))))))))))) ?_
              refine XR.rd rfl (wg rfl rfl rfl) rfl (Reads.not rfl) ?_
              refine XR.rd rfl rfl rfl (Reads.pick_false rfl rfl) ?_
              refine XR.rd rfl rfl rfl (Reads.move rfl) ?_
              refine XR.rd rfl (wg rfl rfl rfl) rfl (Reads.move rfl) ?_
              refine XR.rd rfl (wg rfl rfl rfl) rfl (Reads.load_whole (c := P.cells.toArray) k24 z24 rfl (WholeAt.of 0 rfl) rfl) ?_
              refine XR.rd rfl (wg rfl rfl rfl) rfl (Reads.move rfl) ?_
              refine XR.rd rfl (wg rfl rfl rfl) rfl (Reads.load_whole (c := P.cells.toArray) k24 z24 rfl (WholeAt.of 0 rfl) rfl) ?_
              refine XR.callp rfl (wg rfl rfl rfl) rfl en17 (key_any ((n : Nat) : Int) _ (by omega)) ⟨rfl, trivial⟩ (List.Sublist.cons _ (List.Sublist.cons _ (List.Sublist.cons _ (List.Sublist.cons _ (List.Sublist.cons _ (List.Sublist.cons _ (List.Sublist.cons _ (List.Sublist.cons _ (List.Sublist.cons _ (List.Sublist.cons _ (List.Sublist.cons_cons _ (List.nil_sublist _)))))))))))) ?_
              refine XR.callp rfl (wg rfl rfl rfl) rfl en29 (genuine_is (key := keyB ((n : Nat) : Int)) (p := P) rfl (by rw [keyB_size]; decide) hPin hG) ⟨rfl, rfl, trivial⟩ (List.Sublist.cons _ (List.Sublist.cons _ (List.Sublist.cons _ (List.Sublist.cons _ (List.Sublist.cons _ (List.Sublist.cons _ (List.Sublist.cons _ (List.Sublist.cons _ (List.Sublist.cons _ (List.Sublist.cons _ (List.Sublist.cons_cons _ (List.nil_sublist _)))))))))))) ?_
              refine XR.callp rfl (wg rfl rfl rfl) rfl en17 (key_any ((n : Nat) : Int) _ (by omega)) ⟨rfl, trivial⟩ (List.Sublist.cons _ (List.Sublist.cons _ (List.Sublist.cons _ (List.Sublist.cons _ (List.Sublist.cons _ (List.Sublist.cons _ (List.Sublist.cons _ (List.Sublist.cons _ (List.Sublist.cons _ (List.Sublist.cons _ (List.Sublist.cons_cons _ (List.nil_sublist _)))))))))))) ?_
              refine XR.callp rfl (wg rfl rfl rfl) rfl en30 (rgenuine_any (keyB ((n : Nat) : Int)) P _ hPin (by rw [keyB_size]; decide)) ⟨rfl, rfl, trivial⟩ (List.Sublist.cons _ (List.Sublist.cons _ (List.Sublist.cons _ (List.Sublist.cons _ (List.Sublist.cons _ (List.Sublist.cons _ (List.Sublist.cons _ (List.Sublist.cons _ (List.Sublist.cons _ (List.Sublist.cons _ (List.Sublist.cons_cons _ (List.nil_sublist _)))))))))))) ?_
              refine XR.rd rfl (wg rfl rfl rfl) rfl (Reads.neq_bool Tryd.underlying4 rfl rfl) ?_
              rw [bne_self_eq_false]
              refine XR.rd rfl rfl rfl (Reads.pick_false rfl rfl) ?_
              refine XR.nil ?_
              refine XQ.then_normal ?_
              refine XC.cond rfl (fun hx => by cases hx) (fun _ => ?_)
              refine XC.skip ?_
              refine XQ.block_normal ?_
              refine XQ.perm (perm_take [10]) ?_
              refine XQ.dropn 1 ?_
              refine XQ.perm (perm_take [4, 4, 4, 4, 4, 4]) ?_
              refine XQ.joined ⟨(upd x n (inF (x n) P).1), h', r', ps, VP, _⟩ ⟨Im.le_trans hle7 hle8, hE', hR', hPv, hst.ok, hst.pos, by have := hst.pool; simp only at this ⊢; omega⟩ ⟨rfl, rfl, rfl, rfl, rfl, rfl, rfl, rfl, trivial⟩ rfl (List.Perm.refl _)
            · skip
              simp only [cmpInt, beq_eq_false_iff_ne] at h6
              obtain ⟨P, hPd⟩ : ∃ P, P = ps[kk] := ⟨_, rfl⟩
              have hPin : P.In := hPd ▸ hkin
              rw [← hPd]
              refine XC.skip ?_
              refine XQ.then_normal ?_
              refine XC.seq ?_
              refine XC.region ?_
              refine XO.rd rfl rfl rfl (Reads.move rfl) ?_
              refine XO.rd rfl rfl rfl (Reads.load_whole (c := P.cells.toArray) k24 z24 rfl (WholeAt.of 0 rfl) rfl) ?_
              refine XO.callo (vs := [_, _]) (L1 := twoL bk x hh) rfl rfl rfl en26 ⟨rfl, rfl, trivial⟩ (in_two hn hEs hPin hG) (perm_take [1, 1, 1, 1, 1, 1]) ?_
              rintro v I' L' _ ⟨V3, h', rfl, hI', rfl, hV3, hV3l, hE'⟩
              replace hI' := hI'.symm
              subst hI'
              refine XO.own_eq (L' := (V3.ent 9 :: (twoL bk (upd x n (inF (x n) P).1) h' ++ (some (b23, .cells P.cells.toArray 24 (0, 0)) :: (twoR rk x rr ++ (VP.ent 24 :: Lf)))))) rfl ?_
              refine XO.vec_done (α := ByteArray) (by decide) hV3 (flat_strs _ _) (fun J7 hle7 hs7 => ?_)
              replace hI := Im.le_trans hI hle7
              replace hG := hG.mono hle7
              replace hY := hY.mono hle7
              replace hP := hP.mono hle7
              replace hQ := hQ.mono hle7
              refine XO.rd rfl rfl rfl (Reads.move rfl) ?_
              refine XO.rd rfl rfl rfl (Reads.extract rfl rfl) ?_
              refine XO.rd rfl rfl rfl (Reads.extract rfl rfl) ?_
              refine XO.rd rfl rfl rfl (Reads.assign rfl) ?_
              refine XO.rd rfl rfl rfl (Reads.assign rfl) ?_
              refine XO.nil ?_
              refine XQ.then_normal ?_
              refine XC.seq ?_
              refine XC.region ?_
              refine XO.rd rfl rfl rfl (Reads.move rfl) ?_
              refine XO.rd rfl rfl rfl (Reads.load_whole (c := P.cells.toArray) k24 z24 rfl (WholeAt.of 6 rfl) rfl) ?_
              refine XO.callo (vs := [_, _]) (L1 := twoR rk x rr) rfl rfl rfl en27 ⟨rfl, rfl, trivial⟩ (rin_two hn hRs hPin) (perm_take [7, 7, 7, 7]) ?_
              rintro v I' L' _ ⟨V4, r', rfl, hI', rfl, hV4, hV4l, hR'⟩
              replace hI' := hI'.symm
              subst hI'
              refine XO.own_eq (L' := (V4.ent 9 :: (twoR rk (upd x n (inF (x n) P).1) r' ++ (twoL bk (upd x n (inF (x n) P).1) h' ++ (some (b23, .cells P.cells.toArray 24 (0, 0)) :: (VP.ent 24 :: Lf)))))) rfl ?_
              refine XO.vec_done (α := ByteArray) (by decide) hV4 (flat_strs _ _) (fun J8 hle8 hs8 => ?_)
              replace hI := Im.le_trans hI hle8
              replace hG := hG.mono hle8
              replace hY := hY.mono hle8
              replace hP := hP.mono hle8
              replace hQ := hQ.mono hle8
              refine XO.rd rfl rfl rfl (Reads.move rfl) ?_
              refine XO.rd rfl rfl rfl (Reads.extract rfl rfl) ?_
              refine XO.rd rfl rfl rfl (Reads.extract rfl rfl) ?_
              refine XO.rd rfl rfl rfl (Reads.assign rfl) ?_
              refine XO.rd rfl rfl rfl (Reads.assign rfl) ?_
              refine XO.nil ?_
              refine XQ.then_normal ?_
              refine XC.seq ?_
              refine XC.draw m_mixed none (.pure 0 (.pure 1 (.pure 2 (.pure 3 (.pure 4 (.pure 5 (.eff 6 (.pure 7 (.pure 8 (.pure 9 (.pure 10 (.pure 12 (.pure 14 (.pure 16 (.eff 11 (.eff 13 (.eff 15 (.eff 17 (.pure 18 (.pure 19 (.done))))))))))))))))))))) [some (b23, .cells P.cells.toArray 24 (0, 0))] (by kernel_rfl) (List.Sublist.cons _ (List.Sublist.cons _ (List.Sublist.cons _ (List.Sublist.cons _ (List.Sublist.cons _ (List.Sublist.cons _ (List.Sublist.cons _ (List.Sublist.cons _ (List.Sublist.cons _ (List.Sublist.cons _ (List.Sublist.cons_cons _ (List.nil_sublist _)))))))))))) ?_
              refine XR.rd rfl rfl rfl (Reads.move rfl) ?_
              refine XR.rd rfl rfl rfl (Reads.move rfl) ?_
              refine XR.rd rfl rfl rfl (Reads.cmp_no rfl rfl rfl (by simp only [cmpInt, decide_eq_false_iff_not, beq_eq_false_iff_ne, bne_eq_false_iff_eq] <;> omega)) ?_
              refine XR.rd rfl rfl rfl (Reads.move rfl) ?_
              refine XR.rd rfl (wg rfl rfl rfl) rfl (Reads.move rfl) ?_
              refine XR.rd rfl (wg rfl rfl rfl) rfl (Reads.move rfl) ?_
              refine XR.callp rfl (wg rfl rfl rfl) rfl en28 (strings_is (c := true) (xs := (inF (x n) P).2.1) (ys := (inF (x n) P).2.1) (decide_eq_true rfl) (by have := inF_len (x n) P; omega) hs7 hle8 hs8 (Im.le_refl _)) ⟨rfl, rfl, trivial⟩ (List.Sublist.cons _ (List.Sublist.cons _ (List.Sublist.cons _ (List.Sublist.cons _ (List.Sublist.cons _ (List.Sublist.cons _ (List.Sublist.cons _ (List.Sublist.cons _ (List.Sublist.cons _ (List.Sublist.cons _ (List.Sublist.cons_cons _ (List.nil_sublist _)))))))))))) ?_
              refine XR.rd rfl (wg rfl rfl rfl) rfl (Reads.not rfl) ?_
              refine XR.rd rfl rfl rfl (Reads.pick_false rfl rfl) ?_
              refine XR.rd rfl rfl rfl (Reads.move rfl) ?_
              refine XR.rd rfl (wg rfl rfl rfl) rfl (Reads.move rfl) ?_
              refine XR.rd rfl (wg rfl rfl rfl) rfl (Reads.load_whole (c := P.cells.toArray) k24 z24 rfl (WholeAt.of 0 rfl) rfl) ?_
              refine XR.rd rfl (wg rfl rfl rfl) rfl (Reads.move rfl) ?_
              refine XR.rd rfl (wg rfl rfl rfl) rfl (Reads.load_whole (c := P.cells.toArray) k24 z24 rfl (WholeAt.of 0 rfl) rfl) ?_
              refine XR.callp rfl (wg rfl rfl rfl) rfl en17 (key_any ((n : Nat) : Int) _ (by omega)) ⟨rfl, trivial⟩ (List.Sublist.cons _ (List.Sublist.cons _ (List.Sublist.cons _ (List.Sublist.cons _ (List.Sublist.cons _ (List.Sublist.cons _ (List.Sublist.cons _ (List.Sublist.cons _ (List.Sublist.cons _ (List.Sublist.cons _ (List.Sublist.cons_cons _ (List.nil_sublist _)))))))))))) ?_
              refine XR.callp rfl (wg rfl rfl rfl) rfl en29 (genuine_is (key := keyB ((n : Nat) : Int)) (p := P) rfl (by rw [keyB_size]; decide) hPin hG) ⟨rfl, rfl, trivial⟩ (List.Sublist.cons _ (List.Sublist.cons _ (List.Sublist.cons _ (List.Sublist.cons _ (List.Sublist.cons _ (List.Sublist.cons _ (List.Sublist.cons _ (List.Sublist.cons _ (List.Sublist.cons _ (List.Sublist.cons _ (List.Sublist.cons_cons _ (List.nil_sublist _)))))))))))) ?_
              refine XR.callp rfl (wg rfl rfl rfl) rfl en17 (key_any ((n : Nat) : Int) _ (by omega)) ⟨rfl, trivial⟩ (List.Sublist.cons _ (List.Sublist.cons _ (List.Sublist.cons _ (List.Sublist.cons _ (List.Sublist.cons _ (List.Sublist.cons _ (List.Sublist.cons _ (List.Sublist.cons _ (List.Sublist.cons _ (List.Sublist.cons _ (List.Sublist.cons_cons _ (List.nil_sublist _)))))))))))) ?_
              refine XR.callp rfl (wg rfl rfl rfl) rfl en30 (rgenuine_any (keyB ((n : Nat) : Int)) P _ hPin (by rw [keyB_size]; decide)) ⟨rfl, rfl, trivial⟩ (List.Sublist.cons _ (List.Sublist.cons _ (List.Sublist.cons _ (List.Sublist.cons _ (List.Sublist.cons _ (List.Sublist.cons _ (List.Sublist.cons _ (List.Sublist.cons _ (List.Sublist.cons _ (List.Sublist.cons _ (List.Sublist.cons_cons _ (List.nil_sublist _)))))))))))) ?_
              refine XR.rd rfl (wg rfl rfl rfl) rfl (Reads.neq_bool Tryd.underlying4 rfl rfl) ?_
              rw [bne_self_eq_false]
              refine XR.rd rfl rfl rfl (Reads.pick_false rfl rfl) ?_
              refine XR.nil ?_
              refine XQ.then_normal ?_
              refine XC.cond rfl (fun hx => by cases hx) (fun _ => ?_)
              refine XC.skip ?_
              refine XQ.block_normal ?_
              refine XQ.perm (perm_take [10]) ?_
              refine XQ.dropn 1 ?_
              refine XQ.perm (perm_take [4, 4, 4, 4, 4, 4]) ?_
              refine XQ.joined ⟨(upd x n (inF (x n) P).1), h', r', ps, VP, _⟩ ⟨Im.le_trans hle7 hle8, hE', hR', hPv, hst.ok, hst.pos, by have := hst.pool; simp only at this ⊢; omega⟩ ⟨rfl, rfl, rfl, rfl, rfl, rfl, rfl, rfl, trivial⟩ rfl (List.Perm.refl _)
      · skip
        obtain ⟨x2, hh2, rr2, ps2, VP2, J10⟩ := q2
        obtain ⟨hJle2, hst2⟩ := hq2
        simp only at hJle2 ⊢
        have hEs2 : ∀ n, n < 2 → EndIs (x2 n) (hh2 n) := hst2.is
        have hRs2 : ∀ n, n < 2 → RIs (x2 n) (rr2 n) := hst2.ris
        replace hI := Im.le_trans hI hJle2
        replace hG := hG.mono hJle2
        replace hY := hY.mono hJle2
        replace hP := hP.mono hJle2
        replace hQ := hQ.mono hJle2
        refine XQ.then_normal ?_
        refine XC.seq ?_
        refine XC.region ?_
        refine XO.rd rfl rfl rfl (Reads.move rfl) ?_
        refine XO.callo (vs := [_]) (L1 := twoL bk x2 hh2) rfl rfl rfl en31 ⟨rfl, trivial⟩ (two_num hn (sent_any (bk n) (x2 n) (hh2 n) _ (hEs2 _ hn))) (List.Perm.refl _) ?_
        rintro v I' L' _ ⟨rfl, hI', rfl⟩
        replace hI' := hI'.symm
        subst hI'
        refine XO.rd rfl rfl rfl (Reads.move rfl) ?_
        refine XO.callo (vs := [_]) (L1 := twoR rk x2 rr2) rfl rfl rfl en32 ⟨rfl, trivial⟩ (rtwo_num hn (rsent_any (rk n) (x2 n) (rr2 n) _ (hRs2 _ hn))) (perm_take [6, 6, 6, 6]) ?_
        rintro v I' L' _ ⟨rfl, hI', rfl⟩
        replace hI' := hI'.symm
        subst hI'
        refine XO.perm (perm_take [4, 4, 4, 4, 4, 4]) ?_
        refine XO.own_eq (L' := (twoL bk x2 hh2 ++ (twoR rk x2 rr2 ++ (VP2.ent 24 :: Lf)))) rfl ?_
        refine XO.rd rfl rfl rfl (Reads.cmp_no rfl rfl rfl (by simp only [cmpInt, decide_eq_false_iff_not, beq_eq_false_iff_ne, bne_eq_false_iff_eq] <;> omega)) ?_
        refine XO.rd rfl rfl rfl (Reads.move rfl) ?_
        refine XO.rd (wg rfl rfl rfl) rfl rfl (Reads.move rfl) ?_
        refine XO.callo (vs := [_]) (L1 := twoL bk x2 hh2) (wg rfl rfl rfl) rfl rfl en33 ⟨rfl, trivial⟩ (two_num hn (waiting_any (bk n) (x2 n) (hh2 n) _ (hEs2 _ hn))) (List.Perm.refl _) ?_
        rintro v I' L' _ ⟨rfl, hI', rfl⟩
        replace hI' := hI'.symm
        subst hI'
        refine XO.rd (wg rfl rfl rfl) rfl rfl (Reads.move rfl) ?_
        refine XO.callo (vs := [_]) (L1 := twoR rk x2 rr2) (wg rfl rfl rfl) rfl rfl en34 ⟨rfl, trivial⟩ (rtwo_num hn (rwaiting_any (rk n) (x2 n) (rr2 n) _ (hRs2 _ hn))) (perm_take [6, 6, 6, 6]) ?_
        rintro v I' L' _ ⟨rfl, hI', rfl⟩
        replace hI' := hI'.symm
        subst hI'
        refine XO.perm (perm_take [4, 4, 4, 4, 4, 4]) ?_
        refine XO.own_eq (L' := (twoL bk x2 hh2 ++ (twoR rk x2 rr2 ++ (VP2.ent 24 :: Lf)))) rfl ?_
        refine XO.rd (wg rfl rfl rfl) rfl rfl (Reads.cmp_no rfl rfl rfl (by simp only [cmpInt, decide_eq_false_iff_not, beq_eq_false_iff_ne, bne_eq_false_iff_eq] <;> omega)) ?_
        refine XO.rd rfl rfl rfl (Reads.pick_false rfl rfl) ?_
        refine XO.rd rfl rfl rfl (Reads.move rfl) ?_
        refine XO.rd (wg rfl rfl rfl) rfl rfl (Reads.move rfl) ?_
        refine XO.callo (vs := [_]) (L1 := twoL bk x2 hh2) (wg rfl rfl rfl) rfl rfl en35 ⟨rfl, trivial⟩ (two_num hn (received_any (bk n) (x2 n) (hh2 n) _ (hEs2 _ hn))) (List.Perm.refl _) ?_
        rintro v I' L' _ ⟨rfl, hI', rfl⟩
        replace hI' := hI'.symm
        subst hI'
        refine XO.rd (wg rfl rfl rfl) rfl rfl (Reads.move rfl) ?_
        refine XO.callo (vs := [_]) (L1 := twoR rk x2 rr2) (wg rfl rfl rfl) rfl rfl en36 ⟨rfl, trivial⟩ (rtwo_num hn (rreceived_any (rk n) (x2 n) (rr2 n) _ (hRs2 _ hn))) (perm_take [6, 6, 6, 6]) ?_
        rintro v I' L' _ ⟨rfl, hI', rfl⟩
        replace hI' := hI'.symm
        subst hI'
        refine XO.perm (perm_take [4, 4, 4, 4, 4, 4]) ?_
        refine XO.own_eq (L' := (twoL bk x2 hh2 ++ (twoR rk x2 rr2 ++ (VP2.ent 24 :: Lf)))) rfl ?_
        refine XO.rd (wg rfl rfl rfl) rfl rfl (Reads.cmp_no rfl rfl rfl (by simp only [cmpInt, decide_eq_false_iff_not, beq_eq_false_iff_ne, bne_eq_false_iff_eq] <;> omega)) ?_
        refine XO.rd rfl rfl rfl (Reads.pick_false rfl rfl) ?_
        refine XO.nil ?_
        refine XQ.then_normal ?_
        refine XC.cond rfl (fun hx => by cases hx) (fun _ => ?_)
        refine XC.skip ?_
        refine XQ.block_normal ?_
        refine XQ.then_normal ?_
        refine XC.region ?_
        refine XO.rd rfl rfl rfl (Reads.move rfl) ?_
        refine XO.rd rfl rfl rfl (Reads.add rfl rfl (by omega)) ?_
        refine XO.rd rfl rfl rfl (Reads.assign rfl) ?_
        refine XO.nil ?_
        refine XQ.back (k + 1, ⟨x2, hh2, rr2, ps2, VP2, _⟩) ⟨Im.le_trans hJle hJle2, by simp only; omega, by simp only; omega, hst2⟩ (by simp only; omega) ⟨rfl, rfl, rfl, rfl, rfl, rfl, trivial⟩ rfl (List.Perm.refl _)
    · skip
      simp only [cmpInt, decide_eq_false_iff_not] at h2
      refine XC.exit ?_
      refine XQ.then_exit ?_
      refine XQ.then_exit ?_
      refine XQ.block_exit ?_
      refine XQ.then_normal ?_
      refine XC.seq ?_
      refine XC.region ?_
      refine XO.rd rfl rfl rfl (Reads.assign rfl) ?_
      refine XO.nil ?_
      refine XQ.then_normal ?_
      refine XC.ret ?_
      refine XQ.dropn 11 ?_
      refine XQ.done1 (L := []) rfl rfl hI ?_
      exact ⟨rfl, rfl⟩
  · skip
    simp only [cmpInt, decide_eq_false_iff_not] at h1
    refine XO.s (wg rfl rfl rfl) rfl ?_
    refine XO.s (wg rfl rfl rfl) rfl ?_
    refine XO.rd rfl rfl rfl (Reads.pick_false rfl rfl) ?_
    refine XO.nil ?_
    refine XQ.then_normal ?_
    refine XC.cond rfl (fun hx => by cases hx) (fun _ => ?_)
    refine XC.exit ?_
    refine XQ.then_exit ?_
    refine XQ.then_exit ?_
    refine XQ.block_exit ?_
    refine XQ.then_normal ?_
    refine XC.seq ?_
    refine XC.region ?_
    refine XO.rd rfl rfl rfl (Reads.assign rfl) ?_
    refine XO.nil ?_
    refine XQ.then_normal ?_
    refine XC.ret ?_
    refine XQ.dropn 11 ?_
    refine XQ.done1 (L := []) rfl rfl hI ?_
    exact ⟨rfl, rfl⟩

end Go.Proofs.YtkjhhifhgcihpaaDoor
