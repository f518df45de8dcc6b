/- The walks' contracts, told with their answers; packets held against each other. -/
import Derived.Test.YtkjhhifhgcihpaaDoorD5
import Derived.Test.YtkjhhifhgcihpaaDoorD6
import Derived.Test.YtkjhhifhgcihpaaDoorD7
import Derived.KernelRfl
namespace Go.Proofs.YtkjhhifhgcihpaaDoor
open Go Go.Lk Go.Xe Go.Sh

theorem fields24 : (Tryd.prog.fieldsOf 24).toList.map (fun f => (f.name == "_", f.type, f.offset)) = [(false, 3, 0), (false, 3, 1), (false, 9, 2), (false, 9, 3)] := by kernel_rfl
theorem under24 : Tryd.prog.underlying 24 = some (.struct (Tryd.prog.fieldsOf 24)) := by kernel_rfl
theorem held24 : Tryd.prog.stoodInHeld 24 = false := by kernel_rfl
theorem guard24 : Tryd.prog.eqGuardType Tryd.prog.depth 24 = false := by kernel_rfl
theorem run_part1 {t : TypeId} {d : TypeDesc} {xs : Array Value} {off : Nat} {v : Value} {w : World} (hu : Tryd.prog.underlying t = some d) (hd : (match d with | .int _ | .string => true | _ => false) = true) (hx : xs[off]? = some v) : (part t xs off).run Tryd.prog w = .ok v w := by
  cases d <;> simp at hd <;> simp [part, isAgg, run_under hu, hx]
theorem eqF_step {P : Program} {d : Nat} {xs ys : Array Value} {f : Field} {fs : List Field} {t : TypeId} {off : Nat} {a b : Value} {c : Bool} {w : World} (hn : f.name ≠ "_") (ht : f.type = t) (ho : f.offset = off) (ra : (part t xs off).run P w = .ok a w) (rb : (part t ys off).run P w = .ok b w)
    (re : (Op.equalIn d t a b).run P w = .ok c w) : (Op.eqFields d xs ys (f :: fs)).run P w = if c = true then (Op.eqFields d xs ys fs).run P w else .ok false w := by
  subst ht; subst ho
  simp only [Op.eqFields, ne_eq, hn, not_false_eq_true, if_true, Sem.run_bind, ra, rb, re, Result.andThen_ok]
  cases c <;> simp
theorem pkt_eq (p q : Pkt) (w : World) : (Op.equalIn 10000 24 p.val q.val).run Tryd.prog w = .ok (decide (p = q)) w := by
  rw [show (10000 : Nat) = 9999 + 1 from rfl]
  show (Op.equalIn (9999 + 1) 24 (.agg #[.int .i64 p.ser, .int .i64 p.ack, .string p.body, .string p.sl]) (.agg #[.int .i64 q.ser, .int .i64 q.ack, .string q.body, .string q.sl])).run Tryd.prog w = _
  rw [run_equalIn_struct w 9999 24 _ _ under24 held24]
  have hf := fields24
  generalize (Tryd.prog.fieldsOf 24).toList = fs at hf
  have hl : fs.length = 4 := by have := congrArg List.length hf; simpa using this
  obtain ⟨f0, f1, f2, f3, rfl⟩ : ∃ f0 f1 f2 f3, fs = [f0, f1, f2, f3] := by
    clear hf
    match fs, hl with
    | [a, b, c, d], _ => exact ⟨a, b, c, d, rfl⟩
  · clear hl
    simp only [List.map_cons, List.map_nil, List.cons.injEq, Prod.mk.injEq, beq_eq_false_iff_ne] at hf
    obtain ⟨⟨a0, b0, c0⟩, ⟨a1, b1, c1⟩, ⟨a2, b2, c2⟩, ⟨a3, b3, c3⟩, _⟩ := hf
    have e0 : ∀ (a b : Int) (w : World), (Op.equalIn (9998 + 1) 3 (.int .i64 a) (.int .i64 b)).run Tryd.prog w = .ok (decide (a = b)) w := fun a b w => by rw [run_equalIn_int w 9998 3 .i64 .i64 a b Tryd.underlying3]; rfl
    have e1 : ∀ (a b : ByteArray) (w : World), (Op.equalIn (9998 + 1) 9 (.string a) (.string b)).run Tryd.prog w = .ok (decide (a = b)) w := fun a b w => by
      rw [run_equalIn_string w 9998 9 a b Tryd.underlying9, bytes_beq]
    have r0 : ∀ (p : Pkt) (w : World), (part 3 #[.int .i64 p.ser, .int .i64 p.ack, .string p.body, .string p.sl] 0).run Tryd.prog w = .ok (.int .i64 p.ser) w := fun p w => run_part1 Tryd.underlying3 rfl rfl
    have r1 : ∀ (p : Pkt) (w : World), (part 3 #[.int .i64 p.ser, .int .i64 p.ack, .string p.body, .string p.sl] 1).run Tryd.prog w = .ok (.int .i64 p.ack) w := fun p w => run_part1 Tryd.underlying3 rfl rfl
    have r2 : ∀ (p : Pkt) (w : World), (part 9 #[.int .i64 p.ser, .int .i64 p.ack, .string p.body, .string p.sl] 2).run Tryd.prog w = .ok (.string p.body) w := fun p w => run_part1 Tryd.underlying9 rfl rfl
    have r3 : ∀ (p : Pkt) (w : World), (part 9 #[.int .i64 p.ser, .int .i64 p.ack, .string p.body, .string p.sl] 3).run Tryd.prog w = .ok (.string p.sl) w := fun p w => run_part1 Tryd.underlying9 rfl rfl
    have hpq : (p = q) ↔ p.ser = q.ser ∧ p.ack = q.ack ∧ p.body = q.body ∧ p.sl = q.sl := by
      constructor
      · rintro rfl; exact ⟨rfl, rfl, rfl, rfl⟩
      · obtain ⟨a, b, c, d⟩ := p; obtain ⟨a', b', c', d'⟩ := q
        rintro ⟨rfl, rfl, rfl, rfl⟩; rfl
    have hd : decide (p = q) = (decide (p.ser = q.ser) && (decide (p.ack = q.ack) && (decide (p.body = q.body) && decide (p.sl = q.sl)))) := by
      rw [Bool.eq_iff_iff]; simp [hpq]
    rw [hd, eqF_step a0 b0 c0 (r0 p w) (r0 q w) (e0 _ _ w), eqF_step a1 b1 c1 (r1 p w) (r1 q w) (e0 _ _ w), eqF_step a2 b2 c2 (r2 p w) (r2 q w) (e1 _ _ w), eqF_step a3 b3 c3 (r3 p w) (r3 q w) (e1 _ _ w)]
    cases decide (p.ser = q.ser) <;> cases decide (p.ack = q.ack) <;> cases decide (p.body = q.body) <;> cases decide (p.sl = q.sl) <;> rfl
section
variable {dst : Option Tmp} {ty : TypeId} {pos : String} {after : Array Edge} {guard : Option (Nat × Bool)} {E : Env} {I : Im} {L : Own} {x y : Operand}
theorem Reads.pkt_eq {yt : TypeId} {p q : Pkt} (hx : ev E x = some p.val) (hy : ev E y = some q.val) : Reads Tryd.prog ⟨dst, .binOp .eql 24 x y yt, ty, pos, after, guard⟩ E I L (.bool (decide (p = q))) := Reads.struct_eq guard24 (_root_.Go.Proofs.YtkjhhifhgcihpaaDoor.pkt_eq p q) hx hy
theorem Reads.pkt_ne {yt : TypeId} {p q : Pkt} (hx : ev E x = some p.val) (hy : ev E y = some q.val) : Reads Tryd.prog ⟨dst, .binOp .neq 24 x y yt, ty, pos, after, guard⟩ E I L (.bool (!decide (p = q))) := Reads.struct_ne guard24 (_root_.Go.Proofs.YtkjhhifhgcihpaaDoor.pkt_eq p q) hx hy
end
theorem genuine_is {key : ByteArray} {p : Pkt} {c : Bool} {I : Im} (h : genF key p = c) (hk : key.size ≤ 1000000) (hp : p.In) (hG : Glob I) : FC Tryd.prog 29 [.string key, p.val] I (fun u I' => u = .bool c ∧ I' = I) := by subst h; exact FC.pure (genuine_all key p I hk hp hG)
theorem send_is {b : Nat} {x y : LEnd} {h : EH} {s : ByteArray} {e : Int} {I : Im} (he : sendF x s = (y, e)) (hE : EndIs x h) (hs : s.size ≤ 1000000) : FSo Tryd.prog 20 [.pointer (some ⟨b, 0, none⟩), .string s] I (endL b x h) (fun u I' L' => u = .int .i64 e ∧ I' = I ∧ ∃ h', L' = endL b y h' ∧ EndIs y h') := by
  have := send_any b x h s I hE hs; rw [he] at this; exact this
theorem in_is {b : Nat} {x y : LEnd} {h : EH} {p : Pkt} {ms : List ByteArray} {e : Int} {I : Im} (he : inF x p = (y, ms, e)) (hE : EndIs x h) (hp : p.In) (hG : Glob I) :
    FSo Tryd.prog 26 [.pointer (some ⟨b, 0, none⟩), p.val] I (endL b x h) (fun u I' L' => ∃ (V : Vec) (h' : EH), u = .tuple #[V.val, .int .i64 e] ∧ I' = I ∧ L' = V.ent 9 :: endL b y h' ∧ V.Is 1 (strC ms) ∧ V.len = ms.length ∧ EndIs y h') := by
  have := in_any b x h p I hE hp hG; rw [he] at this; exact this
theorem out_is {b : Nat} {x : LEnd} {h : EH} {ps : List Pkt} {I : Im} (he : outF x = ps) (hE : EndIs x h) (hG : Glob I) :
    FSo Tryd.prog 22 [.pointer (some ⟨b, 0, none⟩)] I (endL b x h) (fun u I' L' => ∃ V : Vec, u = V.val ∧ I' = I ∧ L' = V.ent 24 :: endL b x h ∧ V.Is 4 (pktC ps) ∧ V.len = ps.length) := by
  subst he; exact out_any b x h I hE hG
theorem strings_is {va vb : Value} {xs ys : List ByteArray} {c : Bool} {I I1 I2 : Im} (h : decide (xs = ys) = c) (hl : xs.length ≤ 1000000000) (ha : Sl I1 va xs) (h1 : I1.le I) (hb : Sl I2 vb ys) (h2 : I2.le I) :
    FC Tryd.prog 28 [va, vb] I (fun u I' => u = .bool c ∧ I' = I) := by
  subst h
  obtain ⟨a, ca, rfl, _, hA⟩ := ha.ex
  obtain ⟨b, cb, rfl, _, hB⟩ := hb.ex
  exact strings_any a b ca cb xs ys I (hA.mono h1) (hB.mono h2) hl
end Go.Proofs.YtkjhhifhgcihpaaDoor
