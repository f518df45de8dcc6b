/- Owned slices lent to a call; two ends as one; the states that LinkOnce goes through. -/
import Derived.Test.YtkjhhifhgcihpaaDoorD15
namespace Go.Xe
open Go Go.RowKit
section
variable {P : Program} {f : FuncId} {args : List Value} {I : Im} {L : Own} {Post : Value → Im → Own → Prop}
theorem FSo.frame {R : Own} (h : FSo P f args I L Post) : FSo P f args I (L ++ R) (fun u I' L' => ∃ L1, L' = L1 ++ R ∧ Post u I' L1) := fun K w Lf hS =>
  (h K w (R ++ Lf) (by rw [← List.append_assoc]; exact hS)).mono fun _ _ ⟨v, I', L', he, hi, hs, hq⟩ => ⟨v, I', L' ++ R, he, hi, by rw [List.append_assoc]; exact hs, L', rfl, hq⟩
theorem FSo.permOut {Post' : Value → Im → Own → Prop} (h : FSo P f args I L Post) (hp : ∀ u I' L', Post u I' L' → ∃ M, L'.Perm M ∧ Post' u I' M) : FSo P f args I L Post' := fun K w Lf hS =>
  (h K w Lf hS).mono fun _ _ ⟨v, I', L', he, hi, hs, hq⟩ => by
    obtain ⟨M, hM, hp'⟩ := hp v I' L' hq
    exact ⟨v, I', M, he, hi, hs.perm (hM.append_right Lf), hp'⟩
/-- an owned slice is lent to a call that only reads it -/
theorem FSo.lend {V : Vec} {e : TypeId} (h : I.le (V.give e I) → (∀ b c, V.blk = some (b, c) → I b = none) → FSo P f args (V.give e I) L Post) : FSo P f args I (V.ent e :: L) (fun u I' L' => I' = I ∧ ∃ J L1, Post u J L1 ∧ L' = V.ent e :: L1) := by
  intro K w Lf hS
  obtain ⟨hS', hb'⟩ := (show Sat K w I (V.ent e :: (L ++ Lf)) from hS).give_vec
  have hle : I.le (V.give e I) := Vec.le_give hb'
  refine (h hle hb' K w Lf hS').mono fun _ w' ⟨v, I', L', he, hi, hs, hq⟩ => ?_
  refine ⟨v, I, V.ent e :: L', he, Im.le_refl _, ?_, rfl, I', L', hq, rfl⟩
  have h0 := hs.shrink (Im.le_trans hle hi)
  cases hbk : V.blk with
  | none =>
    have : V.ent e = Option.none := by simp [Vec.ent, hbk]
    rw [this]; exact h0.empty
  | some p =>
    obtain ⟨b, c⟩ := p
    have hent : V.ent e = some (b, .cells c e (0, 0)) := by simp [Vec.ent, hbk]
    have hg : V.give e I = I.add b (.cells c e (0, 0)) := by simp [Vec.give, hbk]
    have hbI : (V.give e I) b = some (.cells c e (0, 0)) := by rw [hg]; simp [Im.add]
    have hbI' := hi _ _ hbI
    rw [hent]
    refine h0.take (hs.im _ _ hbI') (hb' b c hbk) (fun hm => ?_)
    obtain ⟨o, ho⟩ := mem_keys.1 hm
    have := hs.apart _ _ ho
    rw [hbI'] at this; cases this
end
theorem cutA_vec {V : Vec} (m s : Nat) : cutA V.addr m 0 s = V.addr := by
  unfold cutA; split
  · rfl
  · unfold Vec.addr; cases V.blk <;> simp [add_plain]
theorem Vec.arr {α : Type} [Enc α] {V : Vec} {e : TypeId} {I : Im} {cs : List Value} {xs : List α} (hz : 0 < Enc.sz α) (hV : V.Is (Enc.sz α) cs) (h : Flat I cs xs) (hb : ∀ b c, V.blk = some (b, c) → I b = none) : V.len = xs.length ∧ Arr (V.give e I) V.addr xs := by
  obtain ⟨h1, h2⟩ := Vec.sl (e := e) hz hV h hb
  obtain ⟨a, c, hv, _, ha⟩ := h2.ex
  refine ⟨h1, ?_⟩
  have : V.addr = a := by
    have := hv
    simp only [Vec.val, Value.slice.injEq] at this
    exact this.1
  rw [this]; exact ha
end Go.Xe
namespace Go.Lk
open Go Go.Xe Go.Sh
theorem FSo.two {P : Program} {f : FuncId} {args : List Value} {I : Im} {bk : Nat → Nat} {x : Nat → LEnd} {h : Nat → EH} {n : Nat} {Post : Value → Im → Own → Prop} (hn : n < 2) (hc : FSo P f args I (endL (bk n) (x n) (h n)) Post) :
    FSo P f args I (twoL bk x h) (fun u I' L' => ∃ L1, L' = L1 ++ endL (bk (1 - n)) (x (1 - n)) (h (1 - n)) ∧ Post u I' L1) :=
  FSo.perm (twoL_out hn) hc.frame
theorem two_num {P : Program} {f : FuncId} {args : List Value} {I : Im} {bk : Nat → Nat} {x : Nat → LEnd} {h : Nat → EH} {n : Nat} {v : Value} (hn : n < 2) (hc : FSo P f args I (endL (bk n) (x n) (h n)) (fun u I' L' => u = v ∧ I' = I ∧ L' = endL (bk n) (x n) (h n))) :
    FSo P f args I (twoL bk x h) (fun u I' L' => u = v ∧ I' = I ∧ L' = twoL bk x h) :=
  (FSo.two hn hc).permOut (by rintro u I' L' ⟨L1, rfl, rfl, rfl, rfl⟩; exact ⟨_, (twoL_out hn).symm, rfl, rfl, rfl⟩)
def intC (l : List Nat) : List Value := l.map fun (n : Nat) => .int .i64 (n : Int)
theorem intC_len (l : List Nat) : (intC l).length = l.length := by simp [intC]
theorem intC_append (a b : List Nat) : intC (a ++ b) = intC a ++ intC b := by simp [intC]
theorem intC_one (l : List Nat) : ∀ v ∈ intC l, v.oneCell' = true := by simp [intC, Value.oneCell']
theorem intC_get {l : List Nat} {j : Nat} (h : j < l.length) : (intC l)[j]? = some (.int .i64 ((l[j] : Nat) : Int)) := by simp [intC, h]
/-- the state of LinkOnce, in memory -/
structure OnSt where
  x : Nat → LEnd
  h : Nat → EH
  G : Nat → List ByteArray
  S : Nat → Vec
  T : Nat → Vec
  ps : List Pkt
  fr : List Nat
  VP : Vec
  VF : Vec
structure OnInv (m : Nat) (q : OnSt) : Prop where
  on : Once q.x q.G q.ps q.fr
  is : ∀ n, n < 2 → EndIs (q.x n) (q.h n)
  s : ∀ n, n < 2 → (q.S n).Is 1 (strC (q.x n).sent)
  t : ∀ n, n < 2 → (q.T n).Is 1 (strC (q.G n))
  p : q.VP.Is 4 (pktC q.ps)
  f : q.VF.Is 1 (intC q.fr)
  few : ∀ n, n < 2 → (q.x n).sent.length ≤ m
  pool : q.ps.length ≤ 4 * m
theorem OnInv.later {m : Nat} {q : OnSt} (h : OnInv m q) : OnInv (m + 1) q := ⟨h.on, h.is, h.s, h.t, h.p, h.f, fun n hn => by have := h.few n hn; omega, by have := h.pool; omega⟩
theorem OnInv.send {m : Nat} {q : OnSt} (h : OnInv m q) {n : Nat} (hn : n < 2) (hm : m < 100) {s : ByteArray} (hs : s.size ≤ 200) {h' : Nat → EH} {V' : Vec} {y : LEnd} (hy : sendF (q.x n) s = (y, 0)) (hE : ∀ k, k < 2 → EndIs (upd q.x n y k) (h' k)) (hV : V'.Is 1 (strC (q.x n).sent ++ strC [s])) :
    OnInv (m + 1) { q with x := upd q.x n y, h := h', S := upd q.S n V' } := by
  obtain ⟨h1, h2⟩ := h.on.send hn hs (by have := h.few n hn; omega)
  have e : y = { q.x n with sent := (q.x n).sent ++ [s] } := by rw [h1] at hy; exact (Prod.mk.inj hy).1.symm
  subst e
  refine ⟨h2, hE, fun k hk => ?_, h.t, h.p, h.f, fun k hk => ?_, by have := h.pool; simp only; omega⟩
  · by_cases e : k = n
    · subst e; simp only [upd_self]; rw [strC_append]; exact hV
    · simp only [upd_other _ _ e]; exact h.s k hk
  · have := h.few k hk
    by_cases e : k = n
    · subst e; simp only [upd_self, List.length_append, List.length_singleton]; omega
    · simp only [upd_other _ _ e]; omega
theorem OnInv.in_ {m : Nat} {q : OnSt} (h : OnInv m q) {n : Nat} (hn : n < 2) {p : Pkt} (hp : Sent q.x p (1 - n)) {y : LEnd} {ms : List ByteArray} {e : Int} (hi : inF (q.x n) p = (y, ms, e)) {h' : Nat → EH} {V' : Vec} (hE : ∀ k, k < 2 → EndIs (upd q.x n y k) (h' k)) (hV : V'.Is 1 (strC (q.G n) ++ strC ms)) :
    OnInv (m + 1) { q with x := upd q.x n y, h := h', G := upd q.G n (q.G n ++ ms), T := upd q.T n V' } := by
  obtain ⟨z, ns, h1, h2, h3⟩ := h.on.in_ hn hp
  obtain ⟨rfl, rfl⟩ : z = y ∧ ns = ms := by rw [hi] at h1; simp only [Prod.mk.injEq] at h1; exact ⟨h1.1.symm, h1.2.1.symm⟩
  refine ⟨h3, hE, fun k hk => ?_, fun k hk => ?_, h.p, h.f, fun k hk => ?_, by have := h.pool; simp only; omega⟩
  · by_cases e : k = n
    · subst e; simp only [upd_self, h2]; exact h.s k hk
    · simp only [upd_other _ _ e]; exact h.s k hk
  · by_cases e : k = n
    · subst e; simp only [upd_self]; rw [strC_append]; exact hV
    · simp only [upd_other _ _ e]; exact h.t k hk
  · have := h.few k hk
    by_cases e : k = n
    · subst e; simp only [upd_self, h2]; omega
    · simp only [upd_other _ _ e]; omega
theorem OnInv.in_len {m : Nat} {q : OnSt} (h : OnInv m q) {n : Nat} (hn : n < 2) {p : Pkt} (hp : Sent q.x p (1 - n)) {y : LEnd} {ms : List ByteArray} {e : Int} (hi : inF (q.x n) p = (y, ms, e)) : (q.G n).length + ms.length ≤ 100 := by
  obtain ⟨z, ns, h1, h2, h3⟩ := h.on.in_ hn hp
  obtain ⟨rfl, rfl⟩ : z = y ∧ ns = ms := by rw [hi] at h1; simp only [Prod.mk.injEq] at h1; exact ⟨h1.1.symm, h1.2.1.symm⟩
  have h4 := h3.got n hn
  have h5 := (h3.sys.ok n hn).got
  simp only [upd_self] at h4 h5
  have h6 := congrArg List.length h4
  rw [List.length_append, List.length_take] at h6
  omega
theorem OnInv.err {m : Nat} {q : OnSt} (h : OnInv m q) {n : Nat} {kk : Nat} (hn : n < 2) (hk : kk < q.ps.length) (hk' : kk < q.fr.length) {p : Pkt} {y : LEnd} {ms : List ByteArray} {e : Int} (hi : inF (q.x n) p = (y, ms, e)) (he : ¬ e = 0) (hp : p = q.ps[kk]) : q.fr[kk] = n := by
  have hs := h.on.pool kk hk hk'
  by_cases hf : q.fr[kk] = n
  · exact hf
  · exfalso
    have h2 := hs.f2
    have e1 : q.fr[kk] = 1 - n := by omega
    rw [e1, ← hp] at hs
    obtain ⟨z, ns, h1, _⟩ := h.on.in_ hn hs
    rw [hi] at h1
    simp only [Prod.mk.injEq] at h1
    exact he h1.2.2
theorem OnInv.bounds {m : Nat} {q : OnSt} (h : OnInv m q) {k : Nat} (hk : k < 2) : (q.G k).length = (q.x k).got ∧ (q.x k).got ≤ (q.x (1 - k)).sent.length ∧ q.G k = (q.x (1 - k)).sent.take (q.G k).length ∧ (q.x k).acked ≤ (q.x (1 - k)).got ∧ (q.x k).acked ≤ (q.x k).sent.length ∧ (q.x k).got ≤ 100 := by
  have h1 := h.on.got k hk
  have h2 := h.on.sys.got k hk
  have h3 := h.on.sys.acked k hk
  have h4 := (h.on.sys.ok k hk).acked
  have h5 := (h.on.sys.ok k hk).got
  have h6 : (q.G k).length = (q.x k).got := by rw [h1, List.length_take]; omega
  exact ⟨h6, h2, by rw [h6]; exact h1, h3, h4, h5⟩
/-- of what is found -/
theorem found_true {n kk : Nat} {p : Pkt} {ps : List Pkt} {fr : List Nat} {x : Nat → LEnd} (hn : n < 2) (hk : kk < ps.length) (hk' : kk < fr.length) (hs : Sent x ps[kk] fr[kk]) (hg : genF (keyB (1 - n : Nat)) p = true) (hb : p.sl = ps[kk].sl ∨ ∃ c, p.sl = keyB c) (h4 : ¬ p = ps[kk] ∨ fr[kk] = n)
    {b : Bool} (hf : b = false → collF (hashF (keyB (1 - n : Nat)) p) keyS = false ∧ ∀ j, (hj : j < ps.length) → (hj' : j < fr.length) → ¬ (ps[j] = p ∧ ¬ fr[j] = n) ∧ collF (hashF (keyB (1 - n : Nat)) p) (hashF (keyB (fr[j] : Nat)) ps[j]) = false) : b = true := by
  cases b with
  | true => rfl
  | false =>
    obtain ⟨h1, h2⟩ := hf rfl
    obtain ⟨h3, h5⟩ := h2 kk hk hk'
    exact (once_coll (k := kk) hn hs.f2 hg hs.gen hb h1 h5 h3 h4).elim
end Go.Lk
namespace Go.Proofs.YtkjhhifhgcihpaaDoor
open Go Go.Lk Go.Xe Go.Sh
theorem send_two {bk : Nat → Nat} {x : Nat → LEnd} {h : Nat → EH} {n : Nat} {y : LEnd} {s : ByteArray} {e : Int} {I : Im} (hn : n < 2) (he : sendF (x n) s = (y, e)) (hE : ∀ k, k < 2 → EndIs (x k) (h k)) (hs : s.size ≤ 1000000) :
    FSo Tryd.prog 20 [.pointer (some ⟨bk n, 0, none⟩), .string s] I (twoL bk x h) (fun u I' L' => u = .int .i64 e ∧ I' = I ∧ ∃ h', L' = twoL bk (upd x n y) h' ∧ ∀ k, k < 2 → EndIs (upd x n y k) (h' k)) :=
  (FSo.two hn (send_is he (hE n hn) hs)).permOut (by rintro u I' L' ⟨L1, rfl, rfl, rfl, h', rfl, hy⟩; exact ⟨_, twoL_in hn, rfl, rfl, _, rfl, upd_is hE hy⟩)
theorem out_two {bk : Nat → Nat} {x : Nat → LEnd} {h : Nat → EH} {n : Nat} {I : Im} (hn : n < 2) (hE : ∀ k, k < 2 → EndIs (x k) (h k)) (hG : Glob I) :
    FSo Tryd.prog 22 [.pointer (some ⟨bk n, 0, none⟩)] I (twoL bk x h) (fun u I' L' => ∃ V : Vec, u = V.val ∧ I' = I ∧ L' = V.ent 24 :: twoL bk x h ∧ V.Is 4 (pktC (outF (x n))) ∧ V.len = (outF (x n)).length) :=
  (FSo.two hn (out_is rfl (hE n hn) hG)).permOut (by rintro u I' L' ⟨L1, rfl, V, rfl, rfl, rfl, hV, hl⟩; exact ⟨_, (twoL_out hn).symm.cons _, V, rfl, rfl, rfl, hV, hl⟩)
theorem in_two {bk : Nat → Nat} {x : Nat → LEnd} {h : Nat → EH} {n : Nat} {y : LEnd} {p : Pkt} {ms : List ByteArray} {e : Int} {I : Im} (hn : n < 2) (he : inF (x n) p = (y, ms, e)) (hE : ∀ k, k < 2 → EndIs (x k) (h k)) (hp : p.In) (hG : Glob I) :
    FSo Tryd.prog 26 [.pointer (some ⟨bk n, 0, none⟩), p.val] I (twoL bk x h) (fun u I' L' => ∃ (V : Vec) (h' : Nat → EH), u = .tuple #[V.val, .int .i64 e] ∧ I' = I ∧ L' = V.ent 9 :: twoL bk (upd x n y) h' ∧ V.Is 1 (strC ms) ∧ V.len = ms.length ∧ ∀ k, k < 2 → EndIs (upd x n y k) (h' k)) :=
  (FSo.two hn (in_is he (hE n hn) hp hG)).permOut (by rintro u I' L' ⟨L1, rfl, V, h', rfl, rfl, rfl, hV, hl, hy⟩; exact ⟨_, (twoL_in hn).cons _, V, _, rfl, rfl, rfl, hV, hl, upd_is hE hy⟩)
/-- strings of two owned slices -/
theorem strings_vec {V W : Vec} {xs ys : List ByteArray} {m : Nat} {c : Bool} {I : Im} (hV : V.Is 1 (strC xs)) (hW : W.Is 1 (strC ys)) (hm : m ≤ ys.length) (hc : decide (xs = ys.take m) = c) (hl : xs.length ≤ 1000000000) :
    FSo Tryd.prog 28 [V.val, .slice W.addr m W.cap] I [V.ent 9, W.ent 9] (fun u I' L' => u = .bool c ∧ I' = I ∧ L' = [V.ent 9, W.ent 9]) := by
  subst hc
  refine (FSo.lend (V := V) (e := 9) (fun hle hb => FSo.lend (V := W) (e := 9) (Post := fun u _ L' => u = .bool (decide (xs = ys.take m)) ∧ L' = []) (fun hle' hb' => ?_))).permOut ?_
  · obtain ⟨h1, h2⟩ := Vec.arr (α := ByteArray) (e := 9) (by decide) hV (flat_strs _ _) hb
    obtain ⟨h3, h4⟩ := Vec.arr (α := ByteArray) (e := 9) (by decide) hW (flat_strs _ _) hb'
    have h5 := strings_any V.addr W.addr V.cap W.cap xs (ys.take m) _ (h2.mono hle') (h4.take m) hl
    rw [List.length_take, Nat.min_eq_left hm] at h5
    have : V.val = .slice V.addr xs.length V.cap := by rw [← h1]
    rw [this]
    exact h5.mono fun u I' L' _ ⟨hL, hu, _⟩ => ⟨hu, hL⟩
  · rintro u I' L' ⟨rfl, J, L1, ⟨rfl, J', L2, ⟨rfl, rfl⟩, rfl⟩, rfl⟩
    exact ⟨_, List.Perm.refl _, rfl, rfl, rfl⟩
theorem strings_av {b7 b8 : Nat} {S T : Nat → Vec} {k : Nat} {xs ys : List ByteArray} {m : Nat} {c : Bool} {I : Im} (hk : k < 2) (hV : (T k).Is 1 (strC xs)) (hW : (S (1 - k)).Is 1 (strC ys)) (hm : m ≤ ys.length) (hc : decide (xs = ys.take m) = c) (hl : xs.length ≤ 1000000000) :
    FSo Tryd.prog 28 [(T k).val, .slice (S (1 - k)).addr m (S (1 - k)).cap] I (avL b7 51 9 S ++ avL b8 51 9 T) (fun u I' L' => u = .bool c ∧ I' = I ∧ L' = avL b7 51 9 S ++ avL b8 51 9 T) := by
  have h := strings_vec (V := T k) (W := S (1 - k)) (I := I) hV hW hm hc hl
  match k, hk with
  | 0, _ =>
    refine (FSo.perm (perm_take [4, 2]) (h.frame (R := [some (b7, .cells #[(S 0).val, (S 1).val] 51 (0, 0)), (S 0).ent 9, some (b8, .cells #[(T 0).val, (T 1).val] 51 (0, 0)), (T 1).ent 9]))).permOut ?_
    rintro u I' L' ⟨L1, rfl, rfl, rfl, rfl⟩
    exact ⟨_, perm_take [2, 2, 1, 1, 0, 0], rfl, rfl, rfl⟩
  | 1, _ =>
    refine (FSo.perm (perm_take [5, 1]) (h.frame (R := [some (b7, .cells #[(S 0).val, (S 1).val] 51 (0, 0)), (S 1).ent 9, some (b8, .cells #[(T 0).val, (T 1).val] 51 (0, 0)), (T 0).ent 9]))).permOut ?_
    rintro u I' L' ⟨L1, rfl, rfl, rfl, rfl⟩
    exact ⟨_, perm_take [2, 1, 1, 1, 1, 0], rfl, rfl, rfl⟩
end Go.Proofs.YtkjhhifhgcihpaaDoor
