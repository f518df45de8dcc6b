/- Dials, and hands, held against each other. -/
import Derived.Test.YtmlliafhpbfdbaaDoorT
import Derived.Test.YtmlliafhpbfdbaaDoorMK
import Derived.KernelRfl
namespace Go.Proofs.YtmlliafhpbfdbaaDoor
open Go Go.At Go.Xe Go.Sh

theorem run_part1 {t : TypeId} {d : TypeDesc} {xs : Array Value} {off : Nat} {v : Value} {w : World} (hu : Tryd.prog.underlying t = some d) (hd : (match d with | .int _ | .string => true | _ => false) = true) (hx : xs[off]? = some v) : (part t xs off).run Tryd.prog w = .ok v w := by
  cases d <;> simp at hd <;> simp [part, isAgg, run_under hu, hx]
theorem eqF_step {P : Program} {d : Nat} {xs ys : Array Value} {f : Field} {fs : List Field} {t : TypeId} {off : Nat} {a b : Value} {c : Bool} {w : World} (hn : f.name ≠ "_") (ht : f.type = t) (ho : f.offset = off) (ra : (part t xs off).run P w = .ok a w) (rb : (part t ys off).run P w = .ok b w)
    (re : (Op.equalIn d t a b).run P w = .ok c w) : (Op.eqFields d xs ys (f :: fs)).run P w = if c = true then (Op.eqFields d xs ys fs).run P w else .ok false w := by
  subst ht; subst ho
  simp only [Op.eqFields, ne_eq, hn, not_false_eq_true, if_true, Sem.run_bind, ra, rb, re, Result.andThen_ok]
  cases c <;> simp
theorem fields34 : (Tryd.prog.fieldsOf 34).toList.map (fun f => (f.name == "_", f.type, f.offset)) = [(false, 3, 0), (false, 3, 1), (false, 3, 2), (false, 3, 3)] := by kernel_rfl
theorem under34 : Tryd.prog.underlying 34 = some (.struct (Tryd.prog.fieldsOf 34)) := by kernel_rfl
theorem held34 : Tryd.prog.stoodInHeld 34 = false := by kernel_rfl
theorem guard34 : Tryd.prog.eqGuardType Tryd.prog.depth 34 = false := by kernel_rfl
theorem dial_eq (p q : Dial) (w : World) : (Op.equalIn 10000 34 (.agg p.cs.toArray) (.agg q.cs.toArray)).run Tryd.prog w = .ok (decide (p = q)) w := by
  rw [show (10000 : Nat) = 9999 + 1 from rfl]
  show (Op.equalIn (9999 + 1) 34 (.agg #[.int .i64 p.a, .int .i64 p.b, .int .i64 p.t, .int .i64 p.n]) (.agg #[.int .i64 q.a, .int .i64 q.b, .int .i64 q.t, .int .i64 q.n])).run Tryd.prog w = _
  rw [run_equalIn_struct w 9999 34 _ _ under34 held34]
  have hf := fields34
  generalize (Tryd.prog.fieldsOf 34).toList = fs at hf
  have hl : fs.length = 4 := by have := congrArg List.length hf; simpa using this
  obtain ⟨f0, f1, f2, f3, rfl⟩ : ∃ f0 f1 f2 f3, fs = [f0, f1, f2, f3] := by
    clear hf
    match fs, hl with
    | [a, b, c, d], _ => exact ⟨a, b, c, d, rfl⟩
  · clear hl
    simp only [List.map_cons, List.map_nil, List.cons.injEq, Prod.mk.injEq, beq_eq_false_iff_ne] at hf
    obtain ⟨⟨a0, b0, c0⟩, ⟨a1, b1, c1⟩, ⟨a2, b2, c2⟩, ⟨a3, b3, c3⟩, _⟩ := hf
    have e0 : ∀ (a b : Int) (w : World), (Op.equalIn (9998 + 1) 3 (.int .i64 a) (.int .i64 b)).run Tryd.prog w = .ok (decide (a = b)) w := fun a b w => by rw [run_equalIn_int w 9998 3 .i64 .i64 a b Tryd.underlying3]; rfl
    have e1 : ∀ (a b : ByteArray) (w : World), (Op.equalIn (9998 + 1) 9 (.string a) (.string b)).run Tryd.prog w = .ok (decide (a = b)) w := fun a b w => by
      rw [run_equalIn_string w 9998 9 a b Tryd.underlying9, bytes_beq]
    have r0 : ∀ (p : Dial) (w : World), (part 3 #[.int .i64 p.a, .int .i64 p.b, .int .i64 p.t, .int .i64 p.n] 0).run Tryd.prog w = .ok (.int .i64 p.a) w := fun p w => run_part1 Tryd.underlying3 rfl rfl
    have r1 : ∀ (p : Dial) (w : World), (part 3 #[.int .i64 p.a, .int .i64 p.b, .int .i64 p.t, .int .i64 p.n] 1).run Tryd.prog w = .ok (.int .i64 p.b) w := fun p w => run_part1 Tryd.underlying3 rfl rfl
    have r2 : ∀ (p : Dial) (w : World), (part 3 #[.int .i64 p.a, .int .i64 p.b, .int .i64 p.t, .int .i64 p.n] 2).run Tryd.prog w = .ok (.int .i64 p.t) w := fun p w => run_part1 Tryd.underlying3 rfl rfl
    have r3 : ∀ (p : Dial) (w : World), (part 3 #[.int .i64 p.a, .int .i64 p.b, .int .i64 p.t, .int .i64 p.n] 3).run Tryd.prog w = .ok (.int .i64 p.n) w := fun p w => run_part1 Tryd.underlying3 rfl rfl
    have hd : decide (p = q) = (decide (p.a = q.a) && (decide (p.b = q.b) && (decide (p.t = q.t) && decide (p.n = q.n)))) := by
      rw [Bool.eq_iff_iff]; simp [dial_ext_iff]
    rw [hd, eqF_step a0 b0 c0 (r0 p w) (r0 q w) (e0 _ _ w), eqF_step a1 b1 c1 (r1 p w) (r1 q w) (e0 _ _ w), eqF_step a2 b2 c2 (r2 p w) (r2 q w) (e0 _ _ w), eqF_step a3 b3 c3 (r3 p w) (r3 q w) (e0 _ _ w)]
    cases decide (p.a = q.a) <;> cases decide (p.b = q.b) <;> cases decide (p.t = q.t) <;> cases decide (p.n = q.n) <;> rfl
section
variable {dst : Option Tmp} {ty : TypeId} {pos : String} {after : Array Edge} {guard : Option (Nat × Bool)} {E : Env} {I : Im} {L : Own} {x y : Operand}
theorem Reads.dial_eq {yt : TypeId} {p q : Dial} (hx : ev E x = some (.agg p.cs.toArray)) (hy : ev E y = some (.agg q.cs.toArray)) : Reads Tryd.prog ⟨dst, .binOp .eql 34 x y yt, ty, pos, after, guard⟩ E I L (.bool (decide (p = q))) := Reads.struct_eq guard34 (_root_.Go.Proofs.YtmlliafhpbfdbaaDoor.dial_eq p q) hx hy
theorem Reads.dial_ne {yt : TypeId} {p q : Dial} (hx : ev E x = some (.agg p.cs.toArray)) (hy : ev E y = some (.agg q.cs.toArray)) : Reads Tryd.prog ⟨dst, .binOp .neq 34 x y yt, ty, pos, after, guard⟩ E I L (.bool (!decide (p = q))) := Reads.struct_ne guard34 (_root_.Go.Proofs.YtmlliafhpbfdbaaDoor.dial_eq p q) hx hy
end
theorem fields53 : (Tryd.prog.fieldsOf 53).toList.map (fun f => (f.name == "_", f.type, f.offset)) = [(false, 3, 0), (false, 3, 1), (false, 9, 2)] := by kernel_rfl
theorem under53 : Tryd.prog.underlying 53 = some (.struct (Tryd.prog.fieldsOf 53)) := by kernel_rfl
theorem held53 : Tryd.prog.stoodInHeld 53 = false := by kernel_rfl
theorem guard53 : Tryd.prog.eqGuardType Tryd.prog.depth 53 = false := by kernel_rfl
theorem hand_eq (p q : Hand) (w : World) : (Op.equalIn 10000 53 (.agg p.cs.toArray) (.agg q.cs.toArray)).run Tryd.prog w = .ok (decide (p = q)) w := by
  rw [show (10000 : Nat) = 9999 + 1 from rfl]
  show (Op.equalIn (9999 + 1) 53 (.agg #[.int .i64 p.c, .int .i64 p.l, .string p.s]) (.agg #[.int .i64 q.c, .int .i64 q.l, .string q.s])).run Tryd.prog w = _
  rw [run_equalIn_struct w 9999 53 _ _ under53 held53]
  have hf := fields53
  generalize (Tryd.prog.fieldsOf 53).toList = fs at hf
  have hl : fs.length = 3 := by have := congrArg List.length hf; simpa using this
  obtain ⟨f0, f1, f2, rfl⟩ : ∃ f0 f1 f2, fs = [f0, f1, f2] := by
    clear hf
    match fs, hl with
    | [a, b, c], _ => exact ⟨a, b, c, rfl⟩
  · clear hl
    simp only [List.map_cons, List.map_nil, List.cons.injEq, Prod.mk.injEq, beq_eq_false_iff_ne] at hf
    obtain ⟨⟨a0, b0, c0⟩, ⟨a1, b1, c1⟩, ⟨a2, b2, c2⟩, _⟩ := hf
    have e0 : ∀ (a b : Int) (w : World), (Op.equalIn (9998 + 1) 3 (.int .i64 a) (.int .i64 b)).run Tryd.prog w = .ok (decide (a = b)) w := fun a b w => by rw [run_equalIn_int w 9998 3 .i64 .i64 a b Tryd.underlying3]; rfl
    have e1 : ∀ (a b : ByteArray) (w : World), (Op.equalIn (9998 + 1) 9 (.string a) (.string b)).run Tryd.prog w = .ok (decide (a = b)) w := fun a b w => by
      rw [run_equalIn_string w 9998 9 a b Tryd.underlying9, bytes_beq]
    have r0 : ∀ (p : Hand) (w : World), (part 3 #[.int .i64 p.c, .int .i64 p.l, .string p.s] 0).run Tryd.prog w = .ok (.int .i64 p.c) w := fun p w => run_part1 Tryd.underlying3 rfl rfl
    have r1 : ∀ (p : Hand) (w : World), (part 3 #[.int .i64 p.c, .int .i64 p.l, .string p.s] 1).run Tryd.prog w = .ok (.int .i64 p.l) w := fun p w => run_part1 Tryd.underlying3 rfl rfl
    have r2 : ∀ (p : Hand) (w : World), (part 9 #[.int .i64 p.c, .int .i64 p.l, .string p.s] 2).run Tryd.prog w = .ok (.string p.s) w := fun p w => run_part1 Tryd.underlying9 rfl rfl
    have hd : decide (p = q) = (decide (p.c = q.c) && (decide (p.l = q.l) && decide (p.s = q.s))) := by
      rw [Bool.eq_iff_iff]; simp [hand_ext_iff]
    rw [hd, eqF_step a0 b0 c0 (r0 p w) (r0 q w) (e0 _ _ w), eqF_step a1 b1 c1 (r1 p w) (r1 q w) (e0 _ _ w), eqF_step a2 b2 c2 (r2 p w) (r2 q w) (e1 _ _ w)]
    cases decide (p.c = q.c) <;> cases decide (p.l = q.l) <;> cases decide (p.s = q.s) <;> rfl
section
variable {dst : Option Tmp} {ty : TypeId} {pos : String} {after : Array Edge} {guard : Option (Nat × Bool)} {E : Env} {I : Im} {L : Own} {x y : Operand}
theorem Reads.hand_eq {yt : TypeId} {p q : Hand} (hx : ev E x = some (.agg p.cs.toArray)) (hy : ev E y = some (.agg q.cs.toArray)) : Reads Tryd.prog ⟨dst, .binOp .eql 53 x y yt, ty, pos, after, guard⟩ E I L (.bool (decide (p = q))) := Reads.struct_eq guard53 (_root_.Go.Proofs.YtmlliafhpbfdbaaDoor.hand_eq p q) hx hy
theorem Reads.hand_ne {yt : TypeId} {p q : Hand} (hx : ev E x = some (.agg p.cs.toArray)) (hy : ev E y = some (.agg q.cs.toArray)) : Reads Tryd.prog ⟨dst, .binOp .neq 53 x y yt, ty, pos, after, guard⟩ E I L (.bool (!decide (p = q))) := Reads.struct_ne guard53 (_root_.Go.Proofs.YtmlliafhpbfdbaaDoor.hand_eq p q) hx hy
end
end Go.Proofs.YtmlliafhpbfdbaaDoor
