/- Two ends, and two of the reference, as one: what the walk of LinkMatchesReference uses. -/
import Derived.Test.YtkjhhifhgcihpaaDoorD13
import Derived.Test.YtkjhhifhgcihpaaDoorR2
import Derived.Test.YtkjhhifhgcihpaaDoorR3
namespace Go.Xe
open Go Go.RowKit
section
variable {P : Program} {f : FuncId} {args : List Value} {I : Im} {L : Own} {Post : Value → Im → Own → Prop}
theorem FSo.frame {R : Own} (h : FSo P f args I L Post) : FSo P f args I (L ++ R) (fun u I' L' => ∃ L1, L' = L1 ++ R ∧ Post u I' L1) := fun K w Lf hS =>
  (h K w (R ++ Lf) (by rw [← List.append_assoc]; exact hS)).mono fun _ _ ⟨v, I', L', he, hi, hs, hq⟩ => ⟨v, I', L' ++ R, he, hi, by rw [List.append_assoc]; exact hs, L', rfl, hq⟩
theorem FSo.permOut {Post' : Value → Im → Own → Prop} (h : FSo P f args I L Post) (hp : ∀ u I' L', Post u I' L' → ∃ M, L'.Perm M ∧ Post' u I' M) : FSo P f args I L Post' := fun K w Lf hS =>
  (h K w Lf hS).mono fun _ _ ⟨v, I', L', he, hi, hs, hq⟩ => by
    obtain ⟨M, hM, hp'⟩ := hp v I' L' hq
    exact ⟨v, I', M, he, hi, hs.perm (hM.append_right Lf), hp'⟩
end
end Go.Xe
namespace Go.Lk
open Go Go.Xe Go.Sh
def twoR (b : Nat → Nat) (x : Nat → LEnd) (r : Nat → RH) : Own := refL (b 0) (x 0) (r 0) ++ refL (b 1) (x 1) (r 1)
theorem twoR_out {b : Nat → Nat} {x : Nat → LEnd} {h : Nat → RH} {n : Nat} (hn : n < 2) : (twoR b x h).Perm (refL (b n) (x n) (h n) ++ refL (b (1 - n)) (x (1 - n)) (h (1 - n))) := by
  match n, hn with
  | 0, _ => exact List.Perm.refl _
  | 1, _ => exact List.perm_append_comm
theorem twoR_in {b : Nat → Nat} {x : Nat → LEnd} {h : Nat → RH} {n : Nat} {y : LEnd} {h' : RH} (hn : n < 2) : (refL (b n) y h' ++ refL (b (1 - n)) (x (1 - n)) (h (1 - n))).Perm (twoR b (upd x n y) (upd h n h')) := by
  match n, hn with
  | 0, _ => exact List.Perm.refl _
  | 1, _ => exact List.perm_append_comm
theorem upd_ris {x : Nat → LEnd} {h : Nat → RH} {n : Nat} {y : LEnd} {h' : RH} (hE : ∀ n, n < 2 → RIs (x n) (h n)) (hy : RIs y h') : ∀ m, m < 2 → RIs (upd x n y m) (upd h n h' m) := by
  intro m hm
  by_cases hmn : m = n
  · subst hmn; rw [upd_self, upd_self]; exact hy
  · rw [upd_other _ _ hmn, upd_other _ _ hmn]; exact hE m hm
section
variable {P : Program} {f : FuncId} {args : List Value} {I : Im} {bk : Nat → Nat} {x : Nat → LEnd} {n : Nat} {Post : Value → Im → Own → Prop} {v : Value}
theorem FSo.two {h : Nat → EH} (hn : n < 2) (hc : FSo P f args I (endL (bk n) (x n) (h n)) Post) :
    FSo P f args I (twoL bk x h) (fun u I' L' => ∃ L1, L' = L1 ++ endL (bk (1 - n)) (x (1 - n)) (h (1 - n)) ∧ Post u I' L1) := FSo.perm (twoL_out hn) hc.frame
theorem FSo.twoRef {h : Nat → RH} (hn : n < 2) (hc : FSo P f args I (refL (bk n) (x n) (h n)) Post) :
    FSo P f args I (twoR bk x h) (fun u I' L' => ∃ L1, L' = L1 ++ refL (bk (1 - n)) (x (1 - n)) (h (1 - n)) ∧ Post u I' L1) := FSo.perm (twoR_out hn) hc.frame
theorem two_num {h : Nat → EH} (hn : n < 2) (hc : FSo P f args I (endL (bk n) (x n) (h n)) (fun u I' L' => u = v ∧ I' = I ∧ L' = endL (bk n) (x n) (h n))) :
    FSo P f args I (twoL bk x h) (fun u I' L' => u = v ∧ I' = I ∧ L' = twoL bk x h) :=
  (FSo.two hn hc).permOut (by rintro u I' L' ⟨L1, rfl, rfl, rfl, rfl⟩; exact ⟨_, (twoL_out hn).symm, rfl, rfl, rfl⟩)
theorem rtwo_num {h : Nat → RH} (hn : n < 2) (hc : FSo P f args I (refL (bk n) (x n) (h n)) (fun u I' L' => u = v ∧ I' = I ∧ L' = refL (bk n) (x n) (h n))) :
    FSo P f args I (twoR bk x h) (fun u I' L' => u = v ∧ I' = I ∧ L' = twoR bk x h) :=
  (FSo.twoRef hn hc).permOut (by rintro u I' L' ⟨L1, rfl, rfl, rfl, rfl⟩; exact ⟨_, (twoR_out hn).symm, rfl, rfl, rfl⟩)
end
/-- a packet that may lie in the pool -/
def PoolOk (p : Pkt) : Prop := (-9223372036854775808 ≤ p.ser ∧ p.ser ≤ 9223372036854775807) ∧ (-9223372036854775808 ≤ p.ack ∧ p.ack ≤ 9223372036854775807) ∧ p.body.size ≤ 300
theorem PoolOk.in_ {p : Pkt} (h : PoolOk p) : p.In := ⟨h.1, h.2.1, by have := h.2.2; omega⟩
theorem PoolOk.bent {p : Pkt} (h : PoolOk p) {how n : Int} (hn : -9223372036854775808 ≤ n ∧ n ≤ 9223372036854775807) : (bentF p how n).In := by
  obtain ⟨h1, h2, h3⟩ := h
  have h6 := bodyB_size n
  unfold bentF
  split; · exact ⟨hn, h2, by simp only; omega⟩
  split; · exact ⟨h1, hn, by simp only; omega⟩
  split; · exact ⟨h1, h2, by show (p.body ++ _).size ≤ _; rw [ByteArray.size_append]; show p.body.size + 1 ≤ _; omega⟩
  split; · exact ⟨h1, h2, by simp only; omega⟩
  exact ⟨h1, h2, by simp only; omega⟩
theorem short_pool {p : Pkt} (h1 : -9223372036854775808 ≤ p.ser ∧ p.ser ≤ 9223372036854775807) (h2 : -9223372036854775808 ≤ p.ack ∧ p.ack ≤ 9223372036854775807) : PoolOk (shortF p) := by
  refine ⟨h1, h2, ?_⟩
  show (p.body.extract 0 (min p.body.size 201)).size ≤ 300
  rw [ByteArray.size_extract]; omega
theorem out_pool {x : LEnd} (h : x.Ok) : ∀ p ∈ outF x, PoolOk p := by
  intro p hp
  have hin := outF_in h p hp
  refine ⟨hin.ser, hin.ack, ?_⟩
  simp only [outF, List.mem_map] at hp
  obtain ⟨b, hb, rfl⟩ := hp
  unfold bareF at hb
  split at hb
  · simp only [List.mem_singleton] at hb; subst hb; simp [sealed, ByteArray.size]
  · simp only [List.mem_map, List.mem_range] at hb
    obtain ⟨i, hi, rfl⟩ := hb
    have := h.body _ (getD_mem (l := x.sent) (i := x.acked + i) (d := ⟨#[]⟩) (by omega))
    simp only [sealed]; omega
theorem flat_pktC {I : Im} : ∀ {cs : List Value} {ps : List Pkt}, Flat I cs ps → cs = pktC ps := by
  intro cs ps h
  induction h with
  | nil => rfl
  | cons h _ ih => rw [show _ = _ from h, ih]; simp [pktC]
theorem arr_pktC {I : Im} {a : Option Addr} {ps : List Pkt} (h : Arr I a ps) : ∀ j v, (pktC ps)[j]? = some v → At I a j v := by
  obtain ⟨cs, h1, h2⟩ := h.flat
  rw [flat_pktC h1] at h2; exact h2
theorem vec_one (b : Nat) (p : Pkt) : (⟨some (b, p.cells.toArray), 1, 1⟩ : Vec).Is 4 (pktC [p]) :=
  ⟨by simp [pktC], Nat.le_refl _, fun h => (by cases h), fun b' c h => by simp only [Option.some.injEq, Prod.mk.injEq] at h; obtain ⟨_, rfl⟩ := h; exact ⟨rfl, by simp [pktC]⟩⟩
theorem drainF_len : ∀ (f g : Nat) (e : Nat → Option ByteArray), (drainF f g e).1.length ≤ f
  | 0, g, e => by simp [drainF]
  | f + 1, g, e => by
    cases hs : e (g + 1) with
    | none => rw [drainF_stop hs]; simp
    | some s => rw [drainF_step hs]; have := drainF_len f (g + 1) (fun k => if k = g + 1 then none else e k); simp only [List.length_cons]; omega
theorem inF_len (x : LEnd) (p : Pkt) : (inF x p).2.1.length ≤ 101 := by
  unfold inF; split
  · exact drainF_len 101 _ _
  · simp
structure MSt where
  x : Nat → LEnd
  h : Nat → EH
  r : Nat → RH
  ps : List Pkt
  VP : Vec
  J : Im
structure MInv (m : Nat) (q : MSt) : Prop where
  is : ∀ n, n < 2 → EndIs (q.x n) (q.h n)
  ris : ∀ n, n < 2 → RIs (q.x n) (q.r n)
  p : q.VP.Is 4 (pktC q.ps)
  ok : ∀ p ∈ q.ps, PoolOk p
  pos : 0 < q.ps.length
  pool : q.ps.length ≤ 1 + 4 * m
end Go.Lk
namespace Go.Proofs.YtkjhhifhgcihpaaDoor
open Go Go.Lk Go.Xe Go.Sh
section
variable {bk : Nat → Nat} {x : Nat → LEnd} {n : Nat} {I : Im}
theorem send_two {h : Nat → EH} {s : ByteArray} (hn : n < 2) (hE : ∀ k, k < 2 → EndIs (x k) (h k)) (hs : s.size ≤ 1000000) :
    FSo Tryd.prog 20 [.pointer (some ⟨bk n, 0, none⟩), .string s] I (twoL bk x h) (fun u I' L' => u = .int .i64 (sendF (x n) s).2 ∧ I' = I ∧ ∃ h', L' = twoL bk (upd x n (sendF (x n) s).1) h' ∧ ∀ k, k < 2 → EndIs (upd x n (sendF (x n) s).1 k) (h' k)) :=
  (FSo.two hn (send_is rfl (hE n hn) hs)).permOut (by rintro u I' L' ⟨L1, rfl, rfl, rfl, h', rfl, hy⟩; exact ⟨_, twoL_in hn, rfl, rfl, _, rfl, upd_is hE hy⟩)
theorem out_two {h : Nat → EH} (hn : n < 2) (hE : ∀ k, k < 2 → EndIs (x k) (h k)) (hG : Glob I) :
    FSo Tryd.prog 22 [.pointer (some ⟨bk n, 0, none⟩)] I (twoL bk x h) (fun u I' L' => ∃ V : Vec, u = V.val ∧ I' = I ∧ L' = V.ent 24 :: twoL bk x h ∧ V.Is 4 (pktC (outF (x n))) ∧ V.len = (outF (x n)).length) :=
  (FSo.two hn (out_is rfl (hE n hn) hG)).permOut (by rintro u I' L' ⟨L1, rfl, V, rfl, rfl, rfl, hV, hl⟩; exact ⟨_, (twoL_out hn).symm.cons _, V, rfl, rfl, rfl, hV, hl⟩)
theorem in_two {h : Nat → EH} {p : Pkt} (hn : n < 2) (hE : ∀ k, k < 2 → EndIs (x k) (h k)) (hp : p.In) (hG : Glob I) :
    FSo Tryd.prog 26 [.pointer (some ⟨bk n, 0, none⟩), p.val] I (twoL bk x h) (fun u I' L' => ∃ (V : Vec) (h' : Nat → EH), u = .tuple #[V.val, .int .i64 (inF (x n) p).2.2] ∧ I' = I ∧ L' = V.ent 9 :: twoL bk (upd x n (inF (x n) p).1) h' ∧ V.Is 1 (strC (inF (x n) p).2.1) ∧ V.len = (inF (x n) p).2.1.length ∧ ∀ k, k < 2 → EndIs (upd x n (inF (x n) p).1 k) (h' k)) :=
  (FSo.two hn (in_is rfl (hE n hn) hp hG)).permOut (by rintro u I' L' ⟨L1, rfl, V, h', rfl, rfl, rfl, hV, hl, hy⟩; exact ⟨_, (twoL_in hn).cons _, V, _, rfl, rfl, rfl, hV, hl, upd_is hE hy⟩)
theorem rsend_two {h : Nat → RH} {s : ByteArray} (hn : n < 2) (hE : ∀ k, k < 2 → RIs (x k) (h k)) (hs : s.size ≤ 1000000) :
    FSo Tryd.prog 21 [.pointer (some ⟨bk n, 0, none⟩), .string s] I (twoR bk x h) (fun u I' L' => u = .int .i64 (sendF (x n) s).2 ∧ I' = I ∧ ∃ h', L' = twoR bk (upd x n (sendF (x n) s).1) h' ∧ ∀ k, k < 2 → RIs (upd x n (sendF (x n) s).1 k) (h' k)) :=
  (FSo.twoRef hn (rsend_any (bk n) (x n) (h n) s I (hE n hn) hs)).permOut (by rintro u I' L' ⟨L1, rfl, rfl, rfl, h', rfl, hy⟩; exact ⟨_, twoR_in hn, rfl, rfl, _, rfl, upd_ris hE hy⟩)
theorem rout_two {h : Nat → RH} (hn : n < 2) (hE : ∀ k, k < 2 → RIs (x k) (h k)) :
    FSo Tryd.prog 24 [.pointer (some ⟨bk n, 0, none⟩)] I (twoR bk x h) (fun u I' L' => ∃ V : Vec, u = V.val ∧ I' = I ∧ L' = V.ent 24 :: twoR bk x h ∧ V.Is 4 (pktC (outF (x n))) ∧ V.len = (outF (x n)).length) :=
  (FSo.twoRef hn (rout_any (bk n) (x n) (h n) I (hE n hn))).permOut (by rintro u I' L' ⟨L1, rfl, V, rfl, rfl, rfl, hV, hl⟩; exact ⟨_, (twoR_out hn).symm.cons _, V, rfl, rfl, rfl, hV, hl⟩)
theorem rin_two {h : Nat → RH} {p : Pkt} (hn : n < 2) (hE : ∀ k, k < 2 → RIs (x k) (h k)) (hp : p.In) :
    FSo Tryd.prog 27 [.pointer (some ⟨bk n, 0, none⟩), p.val] I (twoR bk x h) (fun u I' L' => ∃ (V : Vec) (h' : Nat → RH), u = .tuple #[V.val, .int .i64 (inF (x n) p).2.2] ∧ I' = I ∧ L' = V.ent 9 :: twoR bk (upd x n (inF (x n) p).1) h' ∧ V.Is 1 (strC (inF (x n) p).2.1) ∧ V.len = (inF (x n) p).2.1.length ∧ ∀ k, k < 2 → RIs (upd x n (inF (x n) p).1 k) (h' k)) :=
  (FSo.twoRef hn (rin_end (bk n) (x n) (h n) p I (hE n hn) hp)).permOut (by rintro u I' L' ⟨L1, rfl, V, h', rfl, rfl, rfl, hV, hl, hy⟩; exact ⟨_, (twoR_in hn).cons _, V, _, rfl, rfl, rfl, hV, hl, upd_ris hE hy⟩)
end
end Go.Proofs.YtkjhhifhgcihpaaDoor
