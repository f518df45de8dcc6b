/- Walks: ends, made and asked. -/
import Derived.Test.YtkjhhifhgcihpaaDoorD1
namespace Go.Proofs.YtkjhhifhgcihpaaDoor
open Go.Xe Go.Sh Go Go.Lk

theorem open_any (key other : ByteArray) (I : Im) (hk : key.size ≤ 1000000) (ho : other.size ≤ 1000000) : FSo Tryd.prog 40 [.string key, .string other] I [] (fun u I' L' => (key.size = 32 ∧ other.size = 32 ∧ ∃ b h, u = .tuple #[.pointer (some ⟨b, 0, none⟩), .int .i64 0] ∧ I' = I ∧ L' = endL b (newF key other) h ∧ EndIs (newF key other) h) ∨ (¬ (key.size = 32 ∧ other.size = 32) ∧ u = .tuple #[.pointer none, .int .i64 410] ∧ I' = I ∧ L' = [])) := by
  refine FSo.intro (n := 19) Tryd.func40 rfl rfl rfl (fun K Lf => ?_)
  refine XC.seq ?_
  refine XC.region ?_
  refine XO.rd rfl rfl rfl (Reads.assign rfl) ?_
  refine XO.rd rfl rfl rfl (Reads.assign rfl) ?_
  refine XO.nil ?_
  refine XQ.then_normal ?_
  refine XC.seq ?_
  refine XC.seq ?_
  refine XC.region ?_
  refine XO.rd rfl rfl rfl (Reads.move rfl) ?_
  refine XO.callp rfl rfl en50 (isKey_any key _) ⟨rfl, trivial⟩ ?_
  refine XO.rd rfl rfl rfl (Reads.not rfl) ?_
  refine XO.rd rfl rfl rfl (Reads.move rfl) ?_
  refine XO.split (d := 9) rfl (fun h1 => ?_) (fun h1 => ?_)
  · skip
    simp only [Bool.not_eq_true', decide_eq_false_iff_not] at h1
    refine XO.s (wg rfl rfl rfl) rfl ?_
    refine XO.s (wg rfl rfl rfl) rfl ?_
    refine XO.s (wg rfl rfl rfl) rfl ?_
    refine XO.rd rfl rfl rfl (Reads.pick_true rfl rfl) ?_
    refine XO.nil ?_
    refine XQ.then_normal ?_
    refine XC.cond rfl (fun _ => ?_) (fun hx => by cases hx)
    refine XC.seq ?_
    refine XC.region ?_
    refine XO.rd rfl rfl rfl (Reads.assign rfl) ?_
    refine XO.rd rfl rfl rfl (Reads.assign rfl) ?_
    refine XO.nil ?_
    refine XQ.then_normal ?_
    refine XC.ret ?_
    refine XQ.then_ret ?_
    refine XQ.done2 (L := []) rfl rfl rfl (Im.le_refl _) ?_
    exact .inr ⟨fun hh => absurd hh.1 (by assumption), rfl, rfl, rfl⟩
  · skip
    simp only [Bool.not_eq_false', decide_eq_true_eq] at h1
    refine XO.rd (wg rfl rfl rfl) rfl rfl (Reads.move rfl) ?_
    refine XO.callp (wg rfl rfl rfl) rfl en50 (isKey_any other _) ⟨rfl, trivial⟩ ?_
    refine XO.rd (wg rfl rfl rfl) rfl rfl (Reads.not rfl) ?_
    refine XO.rd rfl rfl rfl (Reads.pick_false rfl rfl) ?_
    refine XO.nil ?_
    refine XQ.then_normal ?_
    refine XC.cond rfl (fun h2 => ?_) (fun h2 => ?_)
    · skip
      simp only [Bool.not_eq_true', decide_eq_false_iff_not] at h2
      refine XC.seq ?_
      refine XC.region ?_
      refine XO.rd rfl rfl rfl (Reads.assign rfl) ?_
      refine XO.rd rfl rfl rfl (Reads.assign rfl) ?_
      refine XO.nil ?_
      refine XQ.then_normal ?_
      refine XC.ret ?_
      refine XQ.then_ret ?_
      refine XQ.done2 (L := []) rfl rfl rfl (Im.le_refl _) ?_
      exact .inr ⟨fun hh => absurd hh.2 (by assumption), rfl, rfl, rfl⟩
    · skip
      simp only [Bool.not_eq_false', decide_eq_true_eq] at h2
      refine XC.skip ?_
      refine XQ.then_normal ?_
      refine XC.seq ?_
      refine XC.region ?_
      refine XO.rd rfl rfl rfl (Reads.move rfl) ?_
      refine XO.rd rfl rfl rfl (Reads.move rfl) ?_
      refine XO.makeMap rfl rfl (fun bm => ?_)
      refine XO.rd rfl rfl rfl (bd73 (vs := [(0, _), (1, _), (5, _)]) #[_, _, .slice none 0 0, .int .i64 0, .int .i64 0, _] ⟨rfl, rfl, rfl, rfl, rfl, rfl, trivial⟩ rfl) ?_
      refine XO.box_agg rfl rfl rfl (fun b18 => ?_)
      refine XO.rd rfl rfl rfl (Reads.assign rfl) ?_
      refine XO.rd rfl rfl rfl (Reads.assign rfl) ?_
      refine XO.nil ?_
      refine XQ.then_normal ?_
      refine XC.ret ?_
      refine XQ.same (L' := endL b18 (newF key other) ⟨Vec.nil, bm, #[], 0⟩ ++ Lf) rfl ?_
      refine XQ.done2 (L := endL b18 (newF key other) ⟨Vec.nil, bm, #[], 0⟩) rfl rfl rfl (Im.le_refl _) ?_
      exact .inl ⟨by assumption, by assumption, _, _, rfl, rfl, rfl, ⟨Vec.nil_is 1, ⟨[], MapIs.nil, List.nodup_nil, fun k => rfl⟩, newF_ok (by assumption) (by assumption)⟩⟩

theorem sent_any (b : Nat) (x : LEnd) (h : EH) (I : Im) (hE : EndIs x h) : FSo Tryd.prog 31 [.pointer (some ⟨b, 0, none⟩)] I (endL b x h) (fun u I' L' => u = .int .i64 (x.sent.length : Int) ∧ I' = I ∧ L' = (endL b x h)) := by
  have hVl := hE.len
  have hso := hE.ok.sent
  have hac := hE.ok.acked
  refine FSo.intro (n := 10) Tryd.func31 rfl rfl rfl (fun K Lf => ?_)
  refine XC.seq ?_
  refine XC.region ?_
  refine XO.rd rfl rfl rfl (Reads.assign rfl) ?_
  refine XO.nil ?_
  refine XQ.then_normal ?_
  refine XC.seq ?_
  refine XC.seq ?_
  refine XC.region ?_
  refine XO.rd rfl rfl rfl (Reads.move rfl) ?_
  refine XO.rd rfl rfl rfl (Reads.ptr_eq_nil Tryd.underlying25 rfl rfl) ?_
  refine XO.nil ?_
  refine XQ.then_normal ?_
  refine XC.cond rfl (fun hx => by cases hx) (fun _ => ?_)
  refine XC.skip ?_
  refine XQ.then_normal ?_
  refine XC.seq ?_
  refine XC.region ?_
  refine XO.rd rfl rfl rfl (Reads.move rfl) ?_
  refine XO.rd rfl rfl rfl (Reads.nilCheck rfl) ?_
  refine XO.rd rfl rfl rfl (fa73_2 rfl) ?_
  refine XO.rd rfl rfl rfl (Reads.load_own k44 rfl (by first | exact OwnAt.of 0 rfl rfl | exact OwnAt.of 1 rfl rfl | exact OwnAt.of 2 rfl rfl | exact OwnAt.of 3 rfl rfl | exact OwnAt.of 4 rfl rfl | exact OwnAt.of 5 rfl rfl)) ?_
  refine XO.rd rfl rfl rfl (Reads.len_slice Tryd.underlying44 rfl) ?_
  refine XO.rd rfl rfl rfl (Reads.assign rfl) ?_
  refine XO.nil ?_
  refine XQ.then_normal ?_
  refine XC.ret ?_
  refine XQ.done1 (L := (endL b x h)) rfl rfl (Im.le_refl _) ?_
  exact ⟨by simp [hVl], rfl, rfl⟩

theorem sent_nil (I : Im) : FC Tryd.prog 31 [.pointer none] I (fun u I' => u = .int .i64 0 ∧ I' = I) := by
  refine FSo.intro (n := 10) Tryd.func31 rfl rfl rfl (fun K Lf => ?_)
  refine XC.seq ?_
  refine XC.region ?_
  refine XO.rd rfl rfl rfl (Reads.assign rfl) ?_
  refine XO.nil ?_
  refine XQ.then_normal ?_
  refine XC.seq ?_
  refine XC.seq ?_
  refine XC.region ?_
  refine XO.rd rfl rfl rfl (Reads.move rfl) ?_
  refine XO.rd rfl rfl rfl (Reads.nil_eq_nil Tryd.underlying25 rfl rfl) ?_
  refine XO.nil ?_
  refine XQ.then_normal ?_
  refine XC.cond rfl (fun _ => ?_) (fun hx => by cases hx)
  refine XC.seq ?_
  refine XC.region ?_
  refine XO.rd rfl rfl rfl (Reads.assign rfl) ?_
  refine XO.nil ?_
  refine XQ.then_normal ?_
  refine XC.ret ?_
  refine XQ.then_ret ?_
  refine XQ.done1 rfl rfl (Im.le_refl _) ?_
  exact ⟨rfl, rfl, rfl⟩

theorem waiting_any (b : Nat) (x : LEnd) (h : EH) (I : Im) (hE : EndIs x h) : FSo Tryd.prog 33 [.pointer (some ⟨b, 0, none⟩)] I (endL b x h) (fun u I' L' => u = .int .i64 ((x.sent.length : Int) - (x.acked : Int)) ∧ I' = I ∧ L' = (endL b x h)) := by
  have hVl := hE.len
  have hso := hE.ok.sent
  have hac := hE.ok.acked
  refine FSo.intro (n := 15) Tryd.func33 rfl rfl rfl (fun K Lf => ?_)
  refine XC.seq ?_
  refine XC.region ?_
  refine XO.rd rfl rfl rfl (Reads.assign rfl) ?_
  refine XO.nil ?_
  refine XQ.then_normal ?_
  refine XC.seq ?_
  refine XC.seq ?_
  refine XC.region ?_
  refine XO.rd rfl rfl rfl (Reads.move rfl) ?_
  refine XO.rd rfl rfl rfl (Reads.ptr_eq_nil Tryd.underlying25 rfl rfl) ?_
  refine XO.nil ?_
  refine XQ.then_normal ?_
  refine XC.cond rfl (fun hx => by cases hx) (fun _ => ?_)
  refine XC.skip ?_
  refine XQ.then_normal ?_
  refine XC.seq ?_
  refine XC.draw m_mixed none (.pure 0 (.pure 1 (.pure 2 (.pure 3 (.pure 4 (.pure 5 (.pure 6 (.pure 7 (.pure 8 (.pure 9 (.pure 10 (.done)))))))))))) _ (by kernel_rfl) (List.Sublist.refl _) ?_
  refine XR.rd rfl rfl rfl (Reads.move rfl) ?_
  refine XR.rd rfl rfl rfl (Reads.nilCheck rfl) ?_
  refine XR.rd rfl rfl rfl (fa73_2 rfl) ?_
  refine XR.rd rfl rfl rfl (Reads.load_own k44 rfl (by first | exact OwnAt.of 0 rfl rfl | exact OwnAt.of 1 rfl rfl | exact OwnAt.of 2 rfl rfl | exact OwnAt.of 3 rfl rfl | exact OwnAt.of 4 rfl rfl | exact OwnAt.of 5 rfl rfl)) ?_
  refine XR.rd rfl rfl rfl (Reads.len_slice Tryd.underlying44 rfl) ?_
  refine XR.rd rfl rfl rfl (Reads.move rfl) ?_
  refine XR.rd rfl rfl rfl (Reads.nilCheck rfl) ?_
  refine XR.rd rfl rfl rfl (fa73_3 rfl) ?_
  refine XR.rd rfl rfl rfl (Reads.load_own k3 rfl (by first | exact OwnAt.of 0 rfl rfl | exact OwnAt.of 1 rfl rfl | exact OwnAt.of 2 rfl rfl | exact OwnAt.of 3 rfl rfl | exact OwnAt.of 4 rfl rfl | exact OwnAt.of 5 rfl rfl)) ?_
  refine XR.rd rfl rfl rfl (Reads.sub rfl rfl (by omega)) ?_
  refine XR.rd rfl rfl rfl (Reads.assign rfl) ?_
  refine XR.nil ?_
  refine XQ.then_normal ?_
  refine XC.ret ?_
  refine XQ.done1 (L := (endL b x h)) rfl rfl (Im.le_refl _) ?_
  exact ⟨by simp [hVl], rfl, rfl⟩

theorem waiting_nil (I : Im) : FC Tryd.prog 33 [.pointer none] I (fun u I' => u = .int .i64 0 ∧ I' = I) := by
  refine FSo.intro (n := 15) Tryd.func33 rfl rfl rfl (fun K Lf => ?_)
  refine XC.seq ?_
  refine XC.region ?_
  refine XO.rd rfl rfl rfl (Reads.assign rfl) ?_
  refine XO.nil ?_
  refine XQ.then_normal ?_
  refine XC.seq ?_
  refine XC.seq ?_
  refine XC.region ?_
  refine XO.rd rfl rfl rfl (Reads.move rfl) ?_
  refine XO.rd rfl rfl rfl (Reads.nil_eq_nil Tryd.underlying25 rfl rfl) ?_
  refine XO.nil ?_
  refine XQ.then_normal ?_
  refine XC.cond rfl (fun _ => ?_) (fun hx => by cases hx)
  refine XC.seq ?_
  refine XC.region ?_
  refine XO.rd rfl rfl rfl (Reads.assign rfl) ?_
  refine XO.nil ?_
  refine XQ.then_normal ?_
  refine XC.ret ?_
  refine XQ.then_ret ?_
  refine XQ.done1 rfl rfl (Im.le_refl _) ?_
  exact ⟨rfl, rfl, rfl⟩

theorem received_any (b : Nat) (x : LEnd) (h : EH) (I : Im) (hE : EndIs x h) : FSo Tryd.prog 35 [.pointer (some ⟨b, 0, none⟩)] I (endL b x h) (fun u I' L' => u = .int .i64 (x.got : Int) ∧ I' = I ∧ L' = (endL b x h)) := by
  have hVl := hE.len
  have hso := hE.ok.sent
  have hac := hE.ok.acked
  refine FSo.intro (n := 9) Tryd.func35 rfl rfl rfl (fun K Lf => ?_)
  refine XC.seq ?_
  refine XC.region ?_
  refine XO.rd rfl rfl rfl (Reads.assign rfl) ?_
  refine XO.nil ?_
  refine XQ.then_normal ?_
  refine XC.seq ?_
  refine XC.seq ?_
  refine XC.region ?_
  refine XO.rd rfl rfl rfl (Reads.move rfl) ?_
  refine XO.rd rfl rfl rfl (Reads.ptr_eq_nil Tryd.underlying25 rfl rfl) ?_
  refine XO.nil ?_
  refine XQ.then_normal ?_
  refine XC.cond rfl (fun hx => by cases hx) (fun _ => ?_)
  refine XC.skip ?_
  refine XQ.then_normal ?_
  refine XC.seq ?_
  refine XC.region ?_
  refine XO.rd rfl rfl rfl (Reads.move rfl) ?_
  refine XO.rd rfl rfl rfl (Reads.nilCheck rfl) ?_
  refine XO.rd rfl rfl rfl (fa73_4 rfl) ?_
  refine XO.rd rfl rfl rfl (Reads.load_own k3 rfl (by first | exact OwnAt.of 0 rfl rfl | exact OwnAt.of 1 rfl rfl | exact OwnAt.of 2 rfl rfl | exact OwnAt.of 3 rfl rfl | exact OwnAt.of 4 rfl rfl | exact OwnAt.of 5 rfl rfl)) ?_
  refine XO.rd rfl rfl rfl (Reads.assign rfl) ?_
  refine XO.nil ?_
  refine XQ.then_normal ?_
  refine XC.ret ?_
  refine XQ.done1 (L := (endL b x h)) rfl rfl (Im.le_refl _) ?_
  exact ⟨by simp [hVl], rfl, rfl⟩

theorem received_nil (I : Im) : FC Tryd.prog 35 [.pointer none] I (fun u I' => u = .int .i64 0 ∧ I' = I) := by
  refine FSo.intro (n := 9) Tryd.func35 rfl rfl rfl (fun K Lf => ?_)
  refine XC.seq ?_
  refine XC.region ?_
  refine XO.rd rfl rfl rfl (Reads.assign rfl) ?_
  refine XO.nil ?_
  refine XQ.then_normal ?_
  refine XC.seq ?_
  refine XC.seq ?_
  refine XC.region ?_
  refine XO.rd rfl rfl rfl (Reads.move rfl) ?_
  refine XO.rd rfl rfl rfl (Reads.nil_eq_nil Tryd.underlying25 rfl rfl) ?_
  refine XO.nil ?_
  refine XQ.then_normal ?_
  refine XC.cond rfl (fun _ => ?_) (fun hx => by cases hx)
  refine XC.seq ?_
  refine XC.region ?_
  refine XO.rd rfl rfl rfl (Reads.assign rfl) ?_
  refine XO.nil ?_
  refine XQ.then_normal ?_
  refine XC.ret ?_
  refine XQ.then_ret ?_
  refine XQ.done1 rfl rfl (Im.le_refl _) ?_
  exact ⟨rfl, rfl, rfl⟩

theorem send_any (b : Nat) (x : LEnd) (h : EH) (s : ByteArray) (I : Im) (hE : EndIs x h) (hs : s.size ≤ 1000000) : FSo Tryd.prog 20 [.pointer (some ⟨b, 0, none⟩), .string s] I (endL b x h) (fun u I' L' => u = .int .i64 (sendF x s).2 ∧ I' = I ∧ ∃ h', L' = endL b (sendF x s).1 h' ∧ EndIs (sendF x s).1 h') := by
  have hVl := hE.len
  have hso := hE.ok.sent
  refine FSo.intro (n := 28) Tryd.func20 rfl rfl rfl (fun K Lf => ?_)
  refine XC.seq ?_
  refine XC.region ?_
  refine XO.rd rfl rfl rfl (Reads.assign rfl) ?_
  refine XO.nil ?_
  refine XQ.then_normal ?_
  refine XC.seq ?_
  refine XC.seq ?_
  refine XC.region ?_
  refine XO.rd rfl rfl rfl (Reads.move rfl) ?_
  refine XO.rd rfl rfl rfl (Reads.ptr_eq_nil Tryd.underlying25 rfl rfl) ?_
  refine XO.nil ?_
  refine XQ.then_normal ?_
  refine XC.cond rfl (fun hx => by cases hx) (fun _ => ?_)
  refine XC.skip ?_
  refine XQ.then_normal ?_
  refine XC.seq ?_
  refine XC.seq ?_
  refine XC.region ?_
  refine XO.rd rfl rfl rfl (Reads.move rfl) ?_
  refine XO.rd rfl rfl rfl (Reads.len_string Tryd.underlying9 rfl) ?_
  refine XO.rd rfl rfl rfl (Reads.cmp rfl rfl rfl) ?_
  refine XO.rd rfl rfl rfl (Reads.move rfl) ?_
  refine XO.split (d := 10) rfl (fun h1 => ?_) (fun h1 => ?_)
  · skip
    simp only [cmpInt, decide_eq_true_eq] at h1
    refine XO.s (wg rfl rfl rfl) rfl ?_
    refine XO.s (wg rfl rfl rfl) rfl ?_
    refine XO.s (wg rfl rfl rfl) rfl ?_
    refine XO.s (wg rfl rfl rfl) rfl ?_
    refine XO.s (wg rfl rfl rfl) rfl ?_
    refine XO.s (wg rfl rfl rfl) rfl ?_
    refine XO.rd rfl rfl rfl (Reads.pick_true rfl rfl) ?_
    refine XO.nil ?_
    refine XQ.then_normal ?_
    refine XC.cond rfl (fun _ => ?_) (fun hx => by cases hx)
    refine XC.seq ?_
    refine XC.region ?_
    refine XO.rd rfl rfl rfl (Reads.assign rfl) ?_
    refine XO.nil ?_
    refine XQ.then_normal ?_
    refine XC.ret ?_
    refine XQ.then_ret ?_
    refine XQ.done1 (L := (endL b x h)) rfl rfl (Im.le_refl _) ?_
    rw [show sendF x s = (x, 410) from if_neg (fun hh => by omega)]
    exact ⟨rfl, rfl, h, rfl, hE⟩
  · skip
    simp only [cmpInt, decide_eq_false_iff_not] at h1
    refine XO.rd (wg rfl rfl rfl) rfl rfl (Reads.move rfl) ?_
    refine XO.rd (wg rfl rfl rfl) rfl rfl (Reads.nilCheck rfl) ?_
    refine XO.rd (wg rfl rfl rfl) rfl rfl (fa73_2 rfl) ?_
    refine XO.rd (wg rfl rfl rfl) rfl rfl (Reads.load_own k44 rfl (by first | exact OwnAt.of 0 rfl rfl | exact OwnAt.of 1 rfl rfl | exact OwnAt.of 2 rfl rfl | exact OwnAt.of 3 rfl rfl | exact OwnAt.of 4 rfl rfl | exact OwnAt.of 5 rfl rfl)) ?_
    refine XO.rd (wg rfl rfl rfl) rfl rfl (Reads.len_slice Tryd.underlying44 rfl) ?_
    refine XO.rd (wg rfl rfl rfl) rfl rfl (Reads.cmp rfl rfl rfl) ?_
    refine XO.rd rfl rfl rfl (Reads.pick_false rfl rfl) ?_
    refine XO.nil ?_
    refine XQ.then_normal ?_
    refine XC.cond rfl (fun h2 => ?_) (fun h2 => ?_)
    · skip
      simp only [cmpInt, decide_eq_true_eq] at h2
      refine XC.seq ?_
      refine XC.region ?_
      refine XO.rd rfl rfl rfl (Reads.assign rfl) ?_
      refine XO.nil ?_
      refine XQ.then_normal ?_
      refine XC.ret ?_
      refine XQ.then_ret ?_
      refine XQ.done1 (L := (endL b x h)) rfl rfl (Im.le_refl _) ?_
      rw [show sendF x s = (x, 410) from if_neg (fun hh => by omega)]
      exact ⟨rfl, rfl, h, rfl, hE⟩
    · skip
      simp only [cmpInt, decide_eq_false_iff_not] at h2
      refine XC.skip ?_
      refine XQ.then_normal ?_
      refine XC.seq ?_
      refine XC.region ?_
      refine XO.rd rfl rfl rfl (Reads.move rfl) ?_
      refine XO.rd rfl rfl rfl (Reads.move rfl) ?_
      refine XO.rd rfl rfl rfl (Reads.nilCheck rfl) ?_
      refine XO.rd rfl rfl rfl (fa73_2 rfl) ?_
      refine XO.rd rfl rfl rfl (Reads.load_own k44 rfl (by first | exact OwnAt.of 0 rfl rfl | exact OwnAt.of 1 rfl rfl | exact OwnAt.of 2 rfl rfl | exact OwnAt.of 3 rfl rfl | exact OwnAt.of 4 rfl rfl | exact OwnAt.of 5 rfl rfl)) ?_
      refine XO.rd rfl rfl rfl (Reads.move rfl) ?_
      refine XO.buildL [.string s] [.string s] rfl rfl Tryd.underlying44 el9 rfl (by simp) ⟨rfl, rfl, trivial⟩ rfl rfl (fun bu => ?_)
      refine XO.append (V := h.V) (news := strC [s]) 2 rfl rfl Tryd.underlying44 el9 rfl rfl hE.vec rfl (.slice Tryd.underlying44 (readable_row 0 rfl rfl) rfl (strC_one _)) (by omega) (by omega) ?_
      intro V' hV' hVl'
      refine XO.rd rfl rfl rfl (Reads.nilCheck rfl) ?_
      refine XO.rd rfl rfl rfl (fa73_2 rfl) ?_
      refine XO.store 1 rfl z44 rfl rfl rfl rfl (by simp) ?_
      refine XO.nil ?_
      refine XQ.then_normal ?_
      refine XC.seq ?_
      refine XC.region ?_
      refine XO.rd rfl rfl rfl (Reads.assign rfl) ?_
      refine XO.nil ?_
      refine XQ.then_normal ?_
      refine XC.ret ?_
      have hsf : sendF x s = ({ x with sent := x.sent ++ [s] }, 0) := if_pos ⟨by omega, by omega⟩
      have hok := sendF_ok hE.ok s
      rw [hsf] at hok ⊢
      refine XQ.dropn 1 ?_
      refine XQ.done1 (L := endL b { x with sent := x.sent ++ [s] } { h with V := V' }) rfl rfl (Im.le_refl _) ?_
      exact ⟨rfl, rfl, _, rfl, ⟨by rw [strC_append]; exact hV', hE.map, hok⟩⟩

theorem send_nil (s : ByteArray) (I : Im) : FC Tryd.prog 20 [.pointer none, .string s] I (fun u I' => u = .int .i64 1 ∧ I' = I) := by
  refine FSo.intro (n := 28) Tryd.func20 rfl rfl rfl (fun K Lf => ?_)
  refine XC.seq ?_
  refine XC.region ?_
  refine XO.rd rfl rfl rfl (Reads.assign rfl) ?_
  refine XO.nil ?_
  refine XQ.then_normal ?_
  refine XC.seq ?_
  refine XC.seq ?_
  refine XC.region ?_
  refine XO.rd rfl rfl rfl (Reads.move rfl) ?_
  refine XO.rd rfl rfl rfl (Reads.nil_eq_nil Tryd.underlying25 rfl rfl) ?_
  refine XO.nil ?_
  refine XQ.then_normal ?_
  refine XC.cond rfl (fun _ => ?_) (fun hx => by cases hx)
  refine XC.seq ?_
  refine XC.region ?_
  refine XO.rd rfl rfl rfl (Reads.assign rfl) ?_
  refine XO.nil ?_
  refine XQ.then_normal ?_
  refine XC.ret ?_
  refine XQ.then_ret ?_
  refine XQ.done1 rfl rfl (Im.le_refl _) ?_
  exact ⟨rfl, rfl, rfl⟩

end Go.Proofs.YtkjhhifhgcihpaaDoor
