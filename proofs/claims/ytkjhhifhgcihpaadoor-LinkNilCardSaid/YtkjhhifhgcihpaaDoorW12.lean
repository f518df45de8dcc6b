/- Walk: LinkNil. -/
import Derived.Test.YtkjhhifhgcihpaaDoorD9
namespace Go.Proofs.YtkjhhifhgcihpaaDoor
open Go.Xe Go.Sh Go Go.Lk

theorem short_any (p : Pkt) (I : Im) : FC Tryd.prog 15 [.agg #[.int .i64 p.ser, .int .i64 p.ack, .string p.body, .string p.sl]] I (fun u I' => u = (shortF p).val ∧ I' = I) := by
  refine FSo.intro (n := 20) Tryd.func15 rfl rfl rfl (fun K Lf => ?_)
  refine XC.seq ?_
  refine XC.region ?_
  refine XO.box_agg rfl rfl rfl (fun b1 => ?_)
  refine XO.alloc (cs := #[.int .i64 0, .int .i64 0, .string ⟨#[]⟩, .string ⟨#[]⟩]) rfl rfl zo24 rfl (fun b2 => ?_)
  refine XO.nil ?_
  refine XQ.then_normal ?_
  refine XC.seq ?_
  refine XC.region ?_
  refine XO.rd rfl rfl rfl (fa24_2 rfl) ?_
  refine XO.rd rfl rfl rfl (Reads.load_own k9 rfl (by first | exact OwnAt.of 0 rfl rfl | exact OwnAt.of 1 rfl rfl | exact OwnAt.of 2 rfl rfl | exact OwnAt.of 3 rfl rfl)) ?_
  refine XO.rd rfl rfl rfl (fa24_2 rfl) ?_
  refine XO.rd rfl rfl rfl (Reads.load_own k9 rfl (by first | exact OwnAt.of 0 rfl rfl | exact OwnAt.of 1 rfl rfl | exact OwnAt.of 2 rfl rfl | exact OwnAt.of 3 rfl rfl)) ?_
  refine XO.rd rfl rfl rfl (Reads.len_string Tryd.underlying9 rfl) ?_
  refine XO.rd rfl rfl rfl (Reads.min rfl rfl) ?_
  rw [show min (p.body.size : Int) 201 = ((min p.body.size 201 : Nat) : Int) by omega]
  refine XO.rd rfl rfl rfl (Reads.sslice_to Tryd.underlying9 rfl rfl (Nat.min_le_left _ _)) ?_
  refine XO.rd rfl rfl rfl (fa24_2 rfl) ?_
  refine XO.store 1 rfl z9 rfl rfl rfl rfl (by show 2 < 4; decide) ?_
  refine XO.nil ?_
  refine XQ.then_normal ?_
  refine XC.seq ?_
  refine XC.region ?_
  refine XO.rd rfl rfl rfl (fa24_3 rfl) ?_
  refine XO.rd rfl rfl rfl (Reads.load_own (v := .string p.sl) k9 rfl (OwnAt.of 1 rfl rfl)) ?_
  refine XO.rd rfl rfl rfl (fa24_3 rfl) ?_
  refine XO.rd rfl rfl rfl (Reads.load_own (v := .string p.sl) k9 rfl (OwnAt.of 1 rfl rfl)) ?_
  refine XO.rd rfl rfl rfl (Reads.len_string Tryd.underlying9 rfl) ?_
  refine XO.rd rfl rfl rfl (Reads.min rfl rfl) ?_
  rw [show min (p.sl.size : Int) 33 = ((min p.sl.size 33 : Nat) : Int) by omega]
  refine XO.rd rfl rfl rfl (Reads.sslice_to Tryd.underlying9 rfl rfl (Nat.min_le_left _ _)) ?_
  refine XO.rd rfl rfl rfl (fa24_3 rfl) ?_
  refine XO.store 1 rfl z9 rfl rfl rfl rfl (by show 3 < 4; decide) ?_
  refine XO.own_eq (congrArg (fun c => _ :: some (b1, Obj.cells c 24 (0, 0)) :: _) (show _ = (shortF p).cells.toArray from rfl)) ?_
  refine XO.nil ?_
  refine XQ.then_normal ?_
  refine XC.seq ?_
  refine XC.region ?_
  refine XO.rd rfl rfl rfl (Reads.load_whole (c := (shortF p).cells.toArray) k24 z24 rfl (WholeAt.of 1 rfl) rfl) ?_
  refine XO.store_agg (vs := (shortF p).cells) 0 rfl z24 rfl rfl (by intro v hv; simp at hv; rcases hv with rfl | rfl | rfl | rfl <;> rfl) rfl (Nat.le_refl 4) ?_
  refine XO.own_eq (congrArg (fun c => some (b2, Obj.cells c 24 (0, 0)) :: _) (show _ = (shortF p).cells.toArray from rfl)) ?_
  refine XO.nil ?_
  refine XQ.then_normal ?_
  refine XC.ret ?_
  refine XQ.done1ca [] 2 rfl k24 z24 rfl (WholeAt.of 0 rfl) rfl rfl (Im.le_refl _) ?_
  exact ⟨rfl, rfl, rfl⟩

theorem linkNil_any (s : ByteArray) (p : Pkt) (I : Im) (hG : Glob I) : FC Tryd.prog 12 [.string s, .agg #[.int .i64 p.ser, .int .i64 p.ack, .string p.body, .string p.sl]] I (fun u I' => u = .bool true) := by
  refine FSo.intro (n := 55) Tryd.func12 rfl rfl rfl (fun K Lf => ?_)
  refine XC.seq ?_
  refine XC.region ?_
  refine XO.box_agg rfl rfl rfl (fun b3 => ?_)
  refine XO.rd rfl rfl rfl (Reads.assign rfl) ?_
  refine XO.nil ?_
  refine XQ.then_normal ?_
  refine XC.seq ?_
  refine XC.seq ?_
  refine XC.region ?_
  refine XO.callp rfl rfl en14 (FC.pure (sane_any _ hG)) trivial ?_
  refine XO.rd rfl rfl rfl (Reads.not rfl) ?_
  refine XO.nil ?_
  refine XQ.then_normal ?_
  refine XC.cond rfl (fun hx => by cases hx) (fun _ => ?_)
  refine XC.skip ?_
  refine XQ.then_normal ?_
  refine XC.seq ?_
  refine XC.region ?_
  refine XO.rd rfl rfl rfl (Reads.assign rfl) ?_
  refine XO.nil ?_
  refine XQ.then_normal ?_
  refine XC.seq ?_
  refine XC.region ?_
  refine XO.rd rfl rfl rfl (Reads.move rfl) ?_
  refine XO.rd rfl rfl rfl (Reads.load_whole k24 z24 rfl (by first | exact WholeAt.of 0 rfl | exact WholeAt.of 1 rfl | exact WholeAt.of 2 rfl | exact WholeAt.of 3 rfl | exact WholeAt.of 4 rfl | exact WholeAt.of 5 rfl) (by rfl)) ?_
  refine XO.callp rfl rfl en15 (short_any p _) ⟨rfl, trivial⟩ ?_
  refine XO.callp rfl rfl en26 (in_nil (shortF p) _) ⟨rfl, rfl, trivial⟩ ?_
  refine XO.rd rfl rfl rfl (Reads.move rfl) ?_
  refine XO.rd rfl rfl rfl (Reads.extract rfl rfl) ?_
  refine XO.rd rfl rfl rfl (Reads.extract rfl rfl) ?_
  refine XO.rd rfl rfl rfl (Reads.assign rfl) ?_
  refine XO.rd rfl rfl rfl (Reads.assign rfl) ?_
  refine XO.nil ?_
  refine XQ.then_normal ?_
  refine XC.seq ?_
  refine XC.region ?_
  refine XO.rd rfl rfl rfl (Reads.move rfl) ?_
  refine XO.rd rfl rfl rfl (Reads.move rfl) ?_
  refine XO.rd rfl rfl rfl (Reads.move rfl) ?_
  refine XO.rd rfl rfl rfl (Reads.len_string Tryd.underlying9 rfl) ?_
  refine XO.rd rfl rfl rfl (Reads.min rfl rfl) ?_
  rw [show min (s.size : Int) 201 = ((min s.size 201 : Nat) : Int) by omega]
  refine XO.rd rfl rfl rfl (Reads.sslice_to Tryd.underlying9 rfl rfl (Nat.min_le_left _ _)) ?_
  refine XO.callp rfl rfl en20 (send_nil _ _) ⟨rfl, rfl, trivial⟩ ?_
  refine XO.rd rfl rfl rfl (Reads.cmp rfl rfl rfl) ?_
  refine XO.rd rfl rfl rfl (Reads.move rfl) ?_
  refine XO.rd (wg rfl rfl rfl) rfl rfl (Reads.move rfl) ?_
  refine XO.rd (wg rfl rfl rfl) rfl rfl (Reads.cmp rfl rfl rfl) ?_
  refine XO.rd rfl rfl rfl (Reads.pick_true rfl rfl) ?_
  refine XO.rd rfl rfl rfl (Reads.move rfl) ?_
  refine XO.rd (wg rfl rfl rfl) rfl rfl (Reads.move rfl) ?_
  refine XO.rd (wg rfl rfl rfl) rfl rfl (Reads.len_slice Tryd.underlying44 rfl) ?_
  refine XO.rd (wg rfl rfl rfl) rfl rfl (Reads.cmp rfl rfl rfl) ?_
  refine XO.rd rfl rfl rfl (Reads.pick_true rfl rfl) ?_
  refine XO.rd rfl rfl rfl (Reads.move rfl) ?_
  refine XO.rd (wg rfl rfl rfl) rfl rfl (Reads.move rfl) ?_
  refine XO.callp (wg rfl rfl rfl) rfl en22 (out_nil _) ⟨rfl, trivial⟩ ?_
  refine XO.rd (wg rfl rfl rfl) rfl rfl (Reads.len_slice Tryd.underlying37 rfl) ?_
  refine XO.rd (wg rfl rfl rfl) rfl rfl (Reads.cmp rfl rfl rfl) ?_
  refine XO.rd rfl rfl rfl (Reads.pick_true rfl rfl) ?_
  refine XO.rd rfl rfl rfl (Reads.move rfl) ?_
  refine XO.rd (wg rfl rfl rfl) rfl rfl (Reads.move rfl) ?_
  refine XO.callp (wg rfl rfl rfl) rfl en31 (sent_nil _) ⟨rfl, trivial⟩ ?_
  refine XO.rd (wg rfl rfl rfl) rfl rfl (Reads.cmp rfl rfl rfl) ?_
  refine XO.rd rfl rfl rfl (Reads.pick_true rfl rfl) ?_
  refine XO.rd rfl rfl rfl (Reads.move rfl) ?_
  refine XO.rd (wg rfl rfl rfl) rfl rfl (Reads.move rfl) ?_
  refine XO.callp (wg rfl rfl rfl) rfl en33 (waiting_nil _) ⟨rfl, trivial⟩ ?_
  refine XO.rd (wg rfl rfl rfl) rfl rfl (Reads.cmp rfl rfl rfl) ?_
  refine XO.rd rfl rfl rfl (Reads.pick_true rfl rfl) ?_
  refine XO.rd rfl rfl rfl (Reads.move rfl) ?_
  refine XO.rd (wg rfl rfl rfl) rfl rfl (Reads.move rfl) ?_
  refine XO.callp (wg rfl rfl rfl) rfl en35 (received_nil _) ⟨rfl, trivial⟩ ?_
  refine XO.rd (wg rfl rfl rfl) rfl rfl (Reads.cmp rfl rfl rfl) ?_
  refine XO.rd rfl rfl rfl (Reads.pick_true rfl rfl) ?_
  refine XO.rd rfl rfl rfl (Reads.assign rfl) ?_
  refine XO.nil ?_
  refine XQ.then_normal ?_
  refine XC.ret ?_
  refine XQ.dropn 1 ?_
  refine XQ.done1 (L := []) rfl rfl (Im.le_refl _) ?_
  exact ⟨rfl, rfl⟩

end Go.Proofs.YtkjhhifhgcihpaaDoor
