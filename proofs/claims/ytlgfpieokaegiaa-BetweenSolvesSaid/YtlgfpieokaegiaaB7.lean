/- Walks of layer 6: the chapter's examples. -/
import Derived.Test.YtlgfpieokaegiaaB5
import Derived.Test.YtlgfpieokaegiaaB6
namespace Go.Proofs.Ytlgfpieokaegiaa
open Go.Xe


theorem tables_eq (a c : Option Addr) (ca cc : Nat) (xs : List (List Int)) (I : Im) (hA : Arr I a xs) (hC : Arr I c xs) (hl : xs.length ≤ 1000000) (hr : ∀ r ∈ xs, r.length ≤ 1000000) : FC Try.prog 24 [.slice a xs.length ca, .slice c xs.length cc] I (fun u I' => u = .bool true ∧ I' = I) := by
  have h := tables_any a c ca cc xs xs I hA hC hl hr; simpa using h
theorem ints_eq (a c : Option Addr) (ca cc : Nat) (xs : List Int) (I : Im) (hA : Arr I a xs) (hC : Arr I c xs) (hl : xs.length ≤ 1000000) : FC Try.prog 25 [.slice a xs.length ca, .slice c xs.length cc] I (fun u I' => u = .bool true ∧ I' = I) := by
  have h := ints_any a c ca cc xs xs I hA hC hl; simpa using h
theorem ex_steps : (exB 0).Steps ⟨0, 2, 3⟩ := fun _ => ⟨2, by decide, by decide, by decide, [0, 1], by decide⟩
theorem ex_steps2 : (exB 0).Steps ⟨0, 2, 2⟩ := fun h => absurd h (by decide)
theorem ex_csteps : (exB (-4)).CSteps := fun _ _ => ⟨3, 0, by decide, [1, 2], by decide, by decide, by decide, by decide, by decide, by decide⟩
theorem ex_csteps0 : (exB 0).CSteps := fun _ h => absurd h (by decide)
theorem example_any (m : Int) (I : Im) : FC Try.prog 37 [.int .i64 m] I (fun u I' => BtwV I' u (exB m)) := by
  refine FSo.intro (n := 9) Try.func37 rfl rfl rfl (fun K Lf => ?_)
  refine XC.seq ?_
  refine XC.region ?_
  refine XO.alloc (cs := #[.int .i64 0, .slice none 0 0]) rfl rfl zo28 rfl (fun b2 => ?_)
  refine XO.nil ?_
  refine XQ.then_normal ?_
  refine XC.seq ?_
  refine XC.region ?_
  refine XO.rd rfl rfl rfl (bd30 (vs := [(0, _), (1, _), (2, _)]) #[_, _, _] ⟨rfl, rfl, rfl, rfl, rfl, rfl, trivial⟩ rfl) ?_
  refine XO.rd rfl rfl rfl (bd30 (vs := [(0, _), (1, _), (2, _)]) #[_, _, _] ⟨rfl, rfl, rfl, rfl, rfl, rfl, trivial⟩ rfl) ?_
  refine XO.rd rfl rfl rfl (Reads.move rfl) ?_
  refine XO.rd rfl rfl rfl (bd30 (vs := [(0, _), (1, _), (2, _)]) #[_, _, _] ⟨rfl, rfl, rfl, rfl, rfl, rfl, trivial⟩ rfl) ?_
  refine XO.lit (α := Bnd) (exB m).bs ((exB m).bs.map fun x => .agg x.cs.toArray) (bndC (exB m).bs) rfl rfl Try.underlying26 el30 rfl (by simp [exB]) ⟨rfl, rfl, rfl, rfl, rfl, rfl, trivial⟩ rfl rfl (by decide) rfl (flat_bnd _ _) (fun b7 I1 hle1 hs1 => ?_)
  refine XO.rd rfl rfl rfl (bd28 (vs := [(0, _), (1, _)]) #[_, _] ⟨rfl, rfl, rfl, rfl, trivial⟩ rfl) ?_
  refine XO.store_agg (vs := [.int .i64 3, .slice (some ⟨b7, 0, none⟩) 3 3]) 0 rfl z28 rfl rfl (by simp [Value.oneCell']) rfl (by simp) ?_
  refine XO.nil ?_
  refine XQ.then_normal ?_
  refine XC.ret ?_
  refine XQ.done1ca [] 1 rfl k28 z28 rfl (WholeAt.of 0 rfl) rfl rfl hle1 ?_
  exact ⟨rfl, some ⟨b7, 0, none⟩, 3, rfl, Nat.le_refl _, hs1.arr.1⟩

theorem sane_any (I : Im) : FC Try.prog 10 [] I (fun u I' => u = .bool true) := by
  have hI := Im.le_refl I
  refine FSo.intro (n := 174) Try.func10 rfl rfl rfl (fun K Lf => ?_)
  refine XC.seq ?_
  refine XC.region ?_
  refine XO.rd rfl rfl rfl (Reads.assign rfl) ?_
  refine XO.nil ?_
  refine XQ.then_normal ?_
  refine XC.seq ?_
  refine XC.region ?_
  refine XO.call rfl rfl en37 (example_any 0 _) ⟨rfl, trivial⟩ ?_
  rintro u J1 hle1 hr
  replace hI := Im.le_trans hI hle1
  obtain ⟨a, cap, rfl, hcap, hA⟩ := hr
  refine XO.alloc (cs := #[.int .i64 0, .slice none 0 0]) rfl rfl zo28 rfl (fun b1 => ?_)
  refine XO.store_agg (vs := [.int .i64 3, .slice a 3 cap]) 0 rfl z28 rfl rfl (by simp [Value.oneCell']) rfl (by simp) ?_
  refine XO.nil ?_
  refine XQ.then_normal ?_
  refine XC.seq ?_
  refine XC.region ?_
  refine XO.rd rfl rfl rfl (Reads.load_whole k28 z28 rfl (by first | exact WholeAt.of 0 rfl | exact WholeAt.of 1 rfl | exact WholeAt.of 2 rfl | exact WholeAt.of 3 rfl | exact WholeAt.of 4 rfl | exact WholeAt.of 5 rfl) (by rfl)) ?_
  refine XO.call rfl rfl en16 (close_any (exB 0) a cap _ hA (by decide)) ⟨rfl, trivial⟩ ?_
  rintro u J2 hle2 hr
  replace hI := Im.le_trans hI hle2
  replace hA := hA.mono hle2
  obtain ⟨v2, rfl, h20⟩ := hr.yes ex_close
  obtain ⟨a2, c2, rfl, _, h2⟩ := h20.ex
  refine XO.rd rfl rfl rfl (Reads.move rfl) ?_
  refine XO.rd rfl rfl rfl (Reads.extract rfl rfl) ?_
  refine XO.rd rfl rfl rfl (Reads.extract rfl rfl) ?_
  refine XO.rd rfl rfl rfl (Reads.assign rfl) ?_
  refine XO.rd rfl rfl rfl (Reads.assign rfl) ?_
  refine XO.nil ?_
  refine XQ.then_normal ?_
  refine XC.seq ?_
  refine XC.region ?_
  refine XO.rd rfl rfl rfl (Reads.load_whole k28 z28 rfl (by first | exact WholeAt.of 0 rfl | exact WholeAt.of 1 rfl | exact WholeAt.of 2 rfl | exact WholeAt.of 3 rfl | exact WholeAt.of 4 rfl | exact WholeAt.of 5 rfl) (by rfl)) ?_
  refine XO.call rfl rfl en18 (solve_any (exB 0) a cap _ hA (by decide)) ⟨rfl, trivial⟩ ?_
  rintro u J3 hle3 hr
  replace hI := Im.le_trans hI hle3
  replace hA := hA.mono hle3
  replace h2 := h2.mono hle3
  obtain ⟨v4, rfl, h40⟩ := hr.yes ex_solve
  obtain ⟨a4, c4, rfl, _, h4⟩ := h40.ex
  refine XO.rd rfl rfl rfl (Reads.move rfl) ?_
  refine XO.rd rfl rfl rfl (Reads.extract rfl rfl) ?_
  refine XO.rd rfl rfl rfl (Reads.extract rfl rfl) ?_
  refine XO.rd rfl rfl rfl (Reads.assign rfl) ?_
  refine XO.rd rfl rfl rfl (Reads.assign rfl) ?_
  refine XO.nil ?_
  refine XQ.then_normal ?_
  refine XC.seq ?_
  refine XC.region ?_
  refine XO.rd rfl rfl rfl (Reads.load_whole k28 z28 rfl (by first | exact WholeAt.of 0 rfl | exact WholeAt.of 1 rfl | exact WholeAt.of 2 rfl | exact WholeAt.of 3 rfl | exact WholeAt.of 4 rfl | exact WholeAt.of 5 rfl) (by rfl)) ?_
  refine XO.rd rfl rfl rfl (bd30 (vs := [(0, _), (1, _), (2, _)]) #[_, _, _] ⟨rfl, rfl, rfl, rfl, rfl, rfl, trivial⟩ rfl) ?_
  refine XO.call rfl rfl en33 (implied_any (exB 0) ⟨0, 2, 3⟩ a cap _ hA (by decide) ex_steps) ⟨rfl, rfl, trivial⟩ ?_
  rintro u J4 hle4 hr
  replace hI := Im.le_trans hI hle4
  replace hA := hA.mono hle4
  replace h2 := h2.mono hle4
  replace h4 := h4.mono hle4
  obtain ⟨v6, rfl, h60⟩ := hr.yes ex_implied
  obtain ⟨a6, c6, rfl, _, h6⟩ := h60.ex
  refine XO.rd rfl rfl rfl (Reads.move rfl) ?_
  refine XO.rd rfl rfl rfl (Reads.extract rfl rfl) ?_
  refine XO.rd rfl rfl rfl (Reads.extract rfl rfl) ?_
  refine XO.rd rfl rfl rfl (Reads.assign rfl) ?_
  refine XO.rd rfl rfl rfl (Reads.assign rfl) ?_
  refine XO.nil ?_
  refine XQ.then_normal ?_
  refine XC.seq ?_
  refine XC.region ?_
  refine XO.rd rfl rfl rfl (Reads.load_whole k28 z28 rfl (by first | exact WholeAt.of 0 rfl | exact WholeAt.of 1 rfl | exact WholeAt.of 2 rfl | exact WholeAt.of 3 rfl | exact WholeAt.of 4 rfl | exact WholeAt.of 5 rfl) (by rfl)) ?_
  refine XO.rd rfl rfl rfl (bd30 (vs := [(0, _), (1, _), (2, _)]) #[_, _, _] ⟨rfl, rfl, rfl, rfl, rfl, rfl, trivial⟩ rfl) ?_
  refine XO.call rfl rfl en33 (implied_any (exB 0) ⟨0, 2, 2⟩ a cap _ hA (by decide) ex_steps2) ⟨rfl, rfl, trivial⟩ ?_
  rintro u J5 hle5 hr
  replace hI := Im.le_trans hI hle5
  replace hA := hA.mono hle5
  replace h2 := h2.mono hle5
  replace h4 := h4.mono hle5
  replace h6 := h6.mono hle5
  obtain rfl := hr.no ex_implied2
  refine XO.rd rfl rfl rfl (Reads.move rfl) ?_
  refine XO.rd rfl rfl rfl (Reads.extract rfl rfl) ?_
  refine XO.rd rfl rfl rfl (Reads.extract rfl rfl) ?_
  refine XO.rd rfl rfl rfl (Reads.assign rfl) ?_
  refine XO.rd rfl rfl rfl (Reads.assign rfl) ?_
  refine XO.nil ?_
  refine XQ.then_normal ?_
  refine XC.seq ?_
  refine XC.region ?_
  refine XO.call rfl rfl en37 (example_any (-4) _) ⟨rfl, trivial⟩ ?_
  rintro u J6 hle6 hr
  replace hI := Im.le_trans hI hle6
  replace hA := hA.mono hle6
  replace h2 := h2.mono hle6
  replace h4 := h4.mono hle6
  replace h6 := h6.mono hle6
  obtain ⟨a46, ca46, rfl, _, ha46⟩ := hr
  refine XO.call rfl rfl en20 (cycle_any (exB (-4)) a46 ca46 _ ha46 (by decide) ex_csteps) ⟨rfl, trivial⟩ ?_
  rintro u J7 hle7 hr
  replace hI := Im.le_trans hI hle7
  replace hA := hA.mono hle7
  replace h2 := h2.mono hle7
  replace h4 := h4.mono hle7
  replace h6 := h6.mono hle7
  replace ha46 := ha46.mono hle7
  obtain ⟨v10, rfl, h100⟩ := hr.yes ex_cycle
  obtain ⟨a10, c10, rfl, _, h10⟩ := h100.ex
  refine XO.rd rfl rfl rfl (Reads.move rfl) ?_
  refine XO.rd rfl rfl rfl (Reads.extract rfl rfl) ?_
  refine XO.rd rfl rfl rfl (Reads.extract rfl rfl) ?_
  refine XO.rd rfl rfl rfl (Reads.assign rfl) ?_
  refine XO.rd rfl rfl rfl (Reads.assign rfl) ?_
  refine XO.nil ?_
  refine XQ.then_normal ?_
  refine XC.seq ?_
  refine XC.region ?_
  refine XO.rd rfl rfl rfl (Reads.load_whole k28 z28 rfl (by first | exact WholeAt.of 0 rfl | exact WholeAt.of 1 rfl | exact WholeAt.of 2 rfl | exact WholeAt.of 3 rfl | exact WholeAt.of 4 rfl | exact WholeAt.of 5 rfl) (by rfl)) ?_
  refine XO.call rfl rfl en20 (cycle_any (exB 0) a cap _ hA (by decide) ex_csteps0) ⟨rfl, trivial⟩ ?_
  rintro u J8 hle8 hr
  replace hI := Im.le_trans hI hle8
  replace hA := hA.mono hle8
  replace h2 := h2.mono hle8
  replace h4 := h4.mono hle8
  replace h6 := h6.mono hle8
  replace ha46 := ha46.mono hle8
  replace h10 := h10.mono hle8
  obtain rfl := hr.no ex_cycle0
  refine XO.rd rfl rfl rfl (Reads.move rfl) ?_
  refine XO.rd rfl rfl rfl (Reads.extract rfl rfl) ?_
  refine XO.rd rfl rfl rfl (Reads.extract rfl rfl) ?_
  refine XO.rd rfl rfl rfl (Reads.assign rfl) ?_
  refine XO.rd rfl rfl rfl (Reads.assign rfl) ?_
  refine XO.nil ?_
  refine XQ.then_normal ?_
  refine XC.seq ?_
  refine XC.weaken (E' := [(1, _), (2, _), (3, _), (4, _), (5, _), (6, _), (7, _), (9, _), (10, _), (11, _), (13, _)]) ⟨rfl, rfl, rfl, rfl, rfl, rfl, rfl, rfl, rfl, rfl, rfl, trivial⟩ ?_
  refine XC.region ?_
  refine XO.call rfl rfl en37 (example_any (-4) _) ⟨rfl, trivial⟩ ?_
  rintro u J9 hle9 hr
  replace hI := Im.le_trans hI hle9
  replace hA := hA.mono hle9
  replace h2 := h2.mono hle9
  replace h4 := h4.mono hle9
  replace h6 := h6.mono hle9
  replace ha46 := ha46.mono hle9
  replace h10 := h10.mono hle9
  obtain ⟨a56, ca56, rfl, _, ha56⟩ := hr
  refine XO.call rfl rfl en18 (solve_any (exB (-4)) a56 ca56 _ ha56 (by decide)) ⟨rfl, trivial⟩ ?_
  rintro u J10 hle10 hr
  replace hI := Im.le_trans hI hle10
  replace hA := hA.mono hle10
  replace h2 := h2.mono hle10
  replace h4 := h4.mono hle10
  replace h6 := h6.mono hle10
  replace ha46 := ha46.mono hle10
  replace h10 := h10.mono hle10
  replace ha56 := ha56.mono hle10
  obtain rfl := hr.no ex_solve4
  refine XO.rd rfl rfl rfl (Reads.move rfl) ?_
  refine XO.rd rfl rfl rfl (Reads.extract rfl rfl) ?_
  refine XO.rd rfl rfl rfl (Reads.extract rfl rfl) ?_
  refine XO.rd rfl rfl rfl (Reads.assign rfl) ?_
  refine XO.rd rfl rfl rfl (Reads.assign rfl) ?_
  refine XO.nil ?_
  refine XQ.then_normal ?_
  refine XC.seq ?_
  refine XC.region ?_
  refine XO.rd rfl rfl rfl (Reads.load_whole k28 z28 rfl (by first | exact WholeAt.of 0 rfl | exact WholeAt.of 1 rfl | exact WholeAt.of 2 rfl | exact WholeAt.of 3 rfl | exact WholeAt.of 4 rfl | exact WholeAt.of 5 rfl) (by rfl)) ?_
  refine XO.alloc (cs := #[.int .i64 0, .slice none 0 0]) rfl rfl zo28 rfl (fun b16 => ?_)
  refine XO.store_agg (vs := [.int .i64 3, .slice a 3 cap]) 0 rfl z28 rfl rfl (by simp [Value.oneCell']) rfl (by simp) ?_
  refine XO.nil ?_
  refine XQ.then_normal ?_
  refine XC.seq ?_
  refine XC.region ?_
  refine XO.rd rfl rfl rfl (fa28_1 rfl) ?_
  refine XO.rd rfl rfl rfl (Reads.load_own k26 rfl (by first | exact OwnAt.of 0 rfl rfl | exact OwnAt.of 1 rfl rfl | exact OwnAt.of 2 rfl rfl | exact OwnAt.of 3 rfl rfl | exact OwnAt.of 4 rfl rfl | exact OwnAt.of 5 rfl rfl)) ?_
  refine XO.rd rfl rfl rfl (Reads.slice_to Try.underlying26 z30 rfl rfl (by have : (3 : Nat) ≤ cap := hcap; omega)) ?_
  refine XO.rd rfl rfl rfl (fa28_1 rfl) ?_
  refine XO.store 0 rfl z26 rfl rfl rfl rfl (by simp) ?_
  refine XO.nil ?_
  refine XQ.then_normal ?_
  refine XC.seq ?_
  refine XC.region ?_
  refine XO.rd rfl rfl rfl (Reads.load_whole k28 z28 rfl (by first | exact WholeAt.of 0 rfl | exact WholeAt.of 1 rfl | exact WholeAt.of 2 rfl | exact WholeAt.of 3 rfl | exact WholeAt.of 4 rfl | exact WholeAt.of 5 rfl) (by rfl)) ?_
  refine XO.call rfl rfl en16 (close_any exO a cap _ (show Arr _ a exO.bs from hA.take 2) (by decide)) ⟨rfl, trivial⟩ ?_
  rintro u J11 hle11 hr
  replace hI := Im.le_trans hI hle11
  replace hA := hA.mono hle11
  replace h2 := h2.mono hle11
  replace h4 := h4.mono hle11
  replace h6 := h6.mono hle11
  replace ha46 := ha46.mono hle11
  replace h10 := h10.mono hle11
  replace ha56 := ha56.mono hle11
  obtain ⟨v17, rfl, h170⟩ := hr.yes ex_open
  obtain ⟨a17, c17, rfl, _, h17⟩ := h170.ex
  refine XO.rd rfl rfl rfl (Reads.move rfl) ?_
  refine XO.rd rfl rfl rfl (Reads.extract rfl rfl) ?_
  refine XO.rd rfl rfl rfl (Reads.extract rfl rfl) ?_
  refine XO.rd rfl rfl rfl (Reads.assign rfl) ?_
  refine XO.rd rfl rfl rfl (Reads.assign rfl) ?_
  refine XO.nil ?_
  refine XQ.then_normal ?_
  refine XC.seq ?_
  refine XC.seq ?_
  refine XC.region ?_
  refine XO.rd rfl rfl rfl (Reads.move rfl) ?_
  refine XO.rd rfl rfl rfl (Reads.cmp rfl rfl rfl) ?_
  refine XO.rd rfl rfl rfl (Reads.move rfl) ?_
  refine XO.rd (wg rfl rfl rfl) rfl rfl (Reads.move rfl) ?_
  refine XO.rd (wg rfl rfl rfl) rfl rfl (Reads.cmp rfl rfl rfl) ?_
  refine XO.rd rfl rfl rfl (Reads.pick_false rfl rfl) ?_
  refine XO.rd rfl rfl rfl (Reads.move rfl) ?_
  refine XO.rd (wg rfl rfl rfl) rfl rfl (Reads.move rfl) ?_
  refine XO.rd (wg rfl rfl rfl) rfl rfl (Reads.cmp rfl rfl rfl) ?_
  refine XO.rd rfl rfl rfl (Reads.pick_false rfl rfl) ?_
  refine XO.rd rfl rfl rfl (Reads.move rfl) ?_
  refine XO.rd (wg rfl rfl rfl) rfl rfl (Reads.move rfl) ?_
  refine XO.rd (wg rfl rfl rfl) rfl rfl (Reads.cmp rfl rfl rfl) ?_
  refine XO.rd rfl rfl rfl (Reads.pick_false rfl rfl) ?_
  refine XO.nil ?_
  refine XQ.then_normal ?_
  refine XC.cond rfl (fun hx => by cases hx) (fun _ => ?_)
  refine XC.skip ?_
  refine XQ.then_normal ?_
  refine XC.seq ?_
  refine XC.weaken (E' := [(1, _), (2, _), (4, _), (6, _), (7, _), (9, _), (10, _), (11, _), (13, _), (17, _)]) ⟨rfl, rfl, rfl, rfl, rfl, rfl, rfl, rfl, rfl, rfl, trivial⟩ ?_
  refine XC.region ?_
  refine XO.rd rfl rfl rfl (Reads.move rfl) ?_
  refine XO.lit (α := Int) [0, 5, 3] (([0, 5, 3] : List Int).map fun x => Value.int .i64 x) (([0, 5, 3] : List Int).map fun x => Value.int .i64 x) rfl rfl Try.underlying22 el3 rfl (by decide) ⟨rfl, rfl, rfl, rfl, rfl, rfl, trivial⟩ rfl rfl (by decide) rfl (flat_ints _ _) (fun b85 J12 hle12 hb85 => ?_)
  replace hI := Im.le_trans hI hle12
  replace hA := hA.mono hle12
  replace h2 := h2.mono hle12
  replace h4 := h4.mono hle12
  replace h6 := h6.mono hle12
  replace ha46 := ha46.mono hle12
  replace h10 := h10.mono hle12
  replace ha56 := ha56.mono hle12
  replace h17 := h17.mono hle12
  refine XO.lit (α := Int) [-2, 0, -2] (([-2, 0, -2] : List Int).map fun x => Value.int .i64 x) (([-2, 0, -2] : List Int).map fun x => Value.int .i64 x) rfl rfl Try.underlying22 el3 rfl (by decide) ⟨rfl, rfl, rfl, rfl, rfl, rfl, trivial⟩ rfl rfl (by decide) rfl (flat_ints _ _) (fun b86 J13 hle13 hb86 => ?_)
  replace hI := Im.le_trans hI hle13
  replace hA := hA.mono hle13
  replace h2 := h2.mono hle13
  replace h4 := h4.mono hle13
  replace h6 := h6.mono hle13
  replace ha46 := ha46.mono hle13
  replace h10 := h10.mono hle13
  replace ha56 := ha56.mono hle13
  replace h17 := h17.mono hle13
  replace hb85 := hb85.mono hle13
  refine XO.lit (α := Int) [0, 5, 0] (([0, 5, 0] : List Int).map fun x => Value.int .i64 x) (([0, 5, 0] : List Int).map fun x => Value.int .i64 x) rfl rfl Try.underlying22 el3 rfl (by decide) ⟨rfl, rfl, rfl, rfl, rfl, rfl, trivial⟩ rfl rfl (by decide) rfl (flat_ints _ _) (fun b87 J14 hle14 hb87 => ?_)
  replace hI := Im.le_trans hI hle14
  replace hA := hA.mono hle14
  replace h2 := h2.mono hle14
  replace h4 := h4.mono hle14
  replace h6 := h6.mono hle14
  replace ha46 := ha46.mono hle14
  replace h10 := h10.mono hle14
  replace ha56 := ha56.mono hle14
  replace h17 := h17.mono hle14
  replace hb85 := hb85.mono hle14
  replace hb86 := hb86.mono hle14
  refine XO.lit (α := List Int) [[0, 5, 3], [-2, 0, -2], [0, 5, 0]] [.slice (some ⟨b85, 0, none⟩) 3 3, .slice (some ⟨b86, 0, none⟩) 3 3, .slice (some ⟨b87, 0, none⟩) 3 3] [.slice (some ⟨b85, 0, none⟩) 3 3, .slice (some ⟨b86, 0, none⟩) 3 3, .slice (some ⟨b87, 0, none⟩) 3 3] rfl rfl Try.underlying38 el22 rfl (by simp) ⟨rfl, rfl, rfl, rfl, rfl, rfl, trivial⟩ rfl rfl (by decide) rfl (.cons (cs := [_]) ⟨_, rfl, hb85⟩ (.cons (cs := [_]) ⟨_, rfl, hb86⟩ (.cons (cs := [_]) ⟨_, rfl, hb87⟩ .nil))) (fun b88 J15 hle15 hb88 => ?_)
  replace hI := Im.le_trans hI hle15
  replace hA := hA.mono hle15
  replace h2 := h2.mono hle15
  replace h4 := h4.mono hle15
  replace h6 := h6.mono hle15
  replace ha46 := ha46.mono hle15
  replace h10 := h10.mono hle15
  replace ha56 := ha56.mono hle15
  replace h17 := h17.mono hle15
  replace hb85 := hb85.mono hle15
  replace hb86 := hb86.mono hle15
  replace hb87 := hb87.mono hle15
  refine XO.callp rfl rfl en24 (tables_eq a2 (some ⟨b88, 0, none⟩) c2 3 [[0, 5, 3], [-2, 0, -2], [0, 5, 0]] _ h2 hb88.arr.1 (by decide) (by decide)) ⟨rfl, rfl, trivial⟩ ?_
  refine XO.rd rfl rfl rfl (Reads.move rfl) ?_
  refine XO.rd (wg rfl rfl rfl) rfl rfl (Reads.move rfl) ?_
  refine XO.lit (α := Int) [0, 5, 3] (([0, 5, 3] : List Int).map fun x => Value.int .i64 x) (([0, 5, 3] : List Int).map fun x => Value.int .i64 x) (wg rfl rfl rfl) rfl Try.underlying22 el3 rfl (by decide) ⟨rfl, rfl, rfl, rfl, rfl, rfl, trivial⟩ rfl rfl (by decide) rfl (flat_ints _ _) (fun b92 J16 hle16 hb92 => ?_)
  replace hI := Im.le_trans hI hle16
  replace hA := hA.mono hle16
  replace h2 := h2.mono hle16
  replace h4 := h4.mono hle16
  replace h6 := h6.mono hle16
  replace ha46 := ha46.mono hle16
  replace h10 := h10.mono hle16
  replace ha56 := ha56.mono hle16
  replace h17 := h17.mono hle16
  replace hb85 := hb85.mono hle16
  replace hb86 := hb86.mono hle16
  replace hb87 := hb87.mono hle16
  replace hb88 := hb88.mono hle16
  refine XO.lit (α := Int) [far, 0, -2] (([far, 0, -2] : List Int).map fun x => Value.int .i64 x) (([far, 0, -2] : List Int).map fun x => Value.int .i64 x) (wg rfl rfl rfl) rfl Try.underlying22 el3 rfl (by decide) ⟨rfl, rfl, rfl, rfl, rfl, rfl, trivial⟩ rfl rfl (by decide) rfl (flat_ints _ _) (fun b93 J17 hle17 hb93 => ?_)
  replace hI := Im.le_trans hI hle17
  replace hA := hA.mono hle17
  replace h2 := h2.mono hle17
  replace h4 := h4.mono hle17
  replace h6 := h6.mono hle17
  replace ha46 := ha46.mono hle17
  replace h10 := h10.mono hle17
  replace ha56 := ha56.mono hle17
  replace h17 := h17.mono hle17
  replace hb85 := hb85.mono hle17
  replace hb86 := hb86.mono hle17
  replace hb87 := hb87.mono hle17
  replace hb88 := hb88.mono hle17
  replace hb92 := hb92.mono hle17
  refine XO.lit (α := Int) [far, far, 0] (([far, far, 0] : List Int).map fun x => Value.int .i64 x) (([far, far, 0] : List Int).map fun x => Value.int .i64 x) (wg rfl rfl rfl) rfl Try.underlying22 el3 rfl (by decide) ⟨rfl, rfl, rfl, rfl, rfl, rfl, trivial⟩ rfl rfl (by decide) rfl (flat_ints _ _) (fun b94 J18 hle18 hb94 => ?_)
  replace hI := Im.le_trans hI hle18
  replace hA := hA.mono hle18
  replace h2 := h2.mono hle18
  replace h4 := h4.mono hle18
  replace h6 := h6.mono hle18
  replace ha46 := ha46.mono hle18
  replace h10 := h10.mono hle18
  replace ha56 := ha56.mono hle18
  replace h17 := h17.mono hle18
  replace hb85 := hb85.mono hle18
  replace hb86 := hb86.mono hle18
  replace hb87 := hb87.mono hle18
  replace hb88 := hb88.mono hle18
  replace hb92 := hb92.mono hle18
  replace hb93 := hb93.mono hle18
  refine XO.lit (α := List Int) [[0, 5, 3], [far, 0, -2], [far, far, 0]] [.slice (some ⟨b92, 0, none⟩) 3 3, .slice (some ⟨b93, 0, none⟩) 3 3, .slice (some ⟨b94, 0, none⟩) 3 3] [.slice (some ⟨b92, 0, none⟩) 3 3, .slice (some ⟨b93, 0, none⟩) 3 3, .slice (some ⟨b94, 0, none⟩) 3 3] (wg rfl rfl rfl) rfl Try.underlying38 el22 rfl (by simp) ⟨rfl, rfl, rfl, rfl, rfl, rfl, trivial⟩ rfl rfl (by decide) rfl (.cons (cs := [_]) ⟨_, rfl, hb92⟩ (.cons (cs := [_]) ⟨_, rfl, hb93⟩ (.cons (cs := [_]) ⟨_, rfl, hb94⟩ .nil))) (fun b95 J19 hle19 hb95 => ?_)
  replace hI := Im.le_trans hI hle19
  replace hA := hA.mono hle19
  replace h2 := h2.mono hle19
  replace h4 := h4.mono hle19
  replace h6 := h6.mono hle19
  replace ha46 := ha46.mono hle19
  replace h10 := h10.mono hle19
  replace ha56 := ha56.mono hle19
  replace h17 := h17.mono hle19
  replace hb85 := hb85.mono hle19
  replace hb86 := hb86.mono hle19
  replace hb87 := hb87.mono hle19
  replace hb88 := hb88.mono hle19
  replace hb92 := hb92.mono hle19
  replace hb93 := hb93.mono hle19
  replace hb94 := hb94.mono hle19
  refine XO.callp (wg rfl rfl rfl) rfl en24 (tables_eq a17 (some ⟨b95, 0, none⟩) c17 3 [[0, 5, 3], [far, 0, -2], [far, far, 0]] _ h17 hb95.arr.1 (by decide) (by decide)) ⟨rfl, rfl, trivial⟩ ?_
  refine XO.rd rfl rfl rfl (Reads.pick_true rfl rfl) ?_
  refine XO.rd rfl rfl rfl (Reads.move rfl) ?_
  refine XO.rd (wg rfl rfl rfl) rfl rfl (Reads.move rfl) ?_
  refine XO.lit (α := Int) [-2, 0, -2] (([-2, 0, -2] : List Int).map fun x => Value.int .i64 x) (([-2, 0, -2] : List Int).map fun x => Value.int .i64 x) (wg rfl rfl rfl) rfl Try.underlying22 el3 rfl (by decide) ⟨rfl, rfl, rfl, rfl, rfl, rfl, trivial⟩ rfl rfl (by decide) rfl (flat_ints _ _) (fun b100 J20 hle20 hb100 => ?_)
  replace hI := Im.le_trans hI hle20
  replace hA := hA.mono hle20
  replace h2 := h2.mono hle20
  replace h4 := h4.mono hle20
  replace h6 := h6.mono hle20
  replace ha46 := ha46.mono hle20
  replace h10 := h10.mono hle20
  replace ha56 := ha56.mono hle20
  replace h17 := h17.mono hle20
  replace hb85 := hb85.mono hle20
  replace hb86 := hb86.mono hle20
  replace hb87 := hb87.mono hle20
  replace hb88 := hb88.mono hle20
  replace hb92 := hb92.mono hle20
  replace hb93 := hb93.mono hle20
  replace hb94 := hb94.mono hle20
  replace hb95 := hb95.mono hle20
  refine XO.callp (wg rfl rfl rfl) rfl en25 (ints_eq a4 (some ⟨b100, 0, none⟩) c4 3 [-2, 0, -2] _ h4 hb100.arr.1 (by decide)) ⟨rfl, rfl, trivial⟩ ?_
  refine XO.rd rfl rfl rfl (Reads.pick_true rfl rfl) ?_
  refine XO.rd rfl rfl rfl (Reads.assign rfl) ?_
  refine XO.nil ?_
  refine XQ.then_normal ?_
  refine XC.seq ?_
  refine XC.region ?_
  refine XO.rd rfl rfl rfl (Reads.move rfl) ?_
  refine XO.rd rfl rfl rfl (Reads.move rfl) ?_
  refine XO.rd (wg rfl rfl rfl) rfl rfl (Reads.move rfl) ?_
  refine XO.lit (α := Int) [0, 1] (([0, 1] : List Int).map fun x => Value.int .i64 x) (([0, 1] : List Int).map fun x => Value.int .i64 x) (wg rfl rfl rfl) rfl Try.underlying22 el3 rfl (by decide) ⟨rfl, rfl, rfl, rfl, trivial⟩ rfl rfl (by decide) rfl (flat_ints _ _) (fun b106 J21 hle21 hb106 => ?_)
  replace hI := Im.le_trans hI hle21
  replace hA := hA.mono hle21
  replace h2 := h2.mono hle21
  replace h4 := h4.mono hle21
  replace h6 := h6.mono hle21
  replace ha46 := ha46.mono hle21
  replace h10 := h10.mono hle21
  replace ha56 := ha56.mono hle21
  replace h17 := h17.mono hle21
  replace hb85 := hb85.mono hle21
  replace hb86 := hb86.mono hle21
  replace hb87 := hb87.mono hle21
  replace hb88 := hb88.mono hle21
  replace hb92 := hb92.mono hle21
  replace hb93 := hb93.mono hle21
  replace hb94 := hb94.mono hle21
  replace hb95 := hb95.mono hle21
  replace hb100 := hb100.mono hle21
  refine XO.callp (wg rfl rfl rfl) rfl en25 (ints_eq a6 (some ⟨b106, 0, none⟩) c6 2 [0, 1] _ h6 hb106.arr.1 (by decide)) ⟨rfl, rfl, trivial⟩ ?_
  refine XO.rd rfl rfl rfl (Reads.pick_true rfl rfl) ?_
  refine XO.rd rfl rfl rfl (Reads.move rfl) ?_
  refine XO.rd (wg rfl rfl rfl) rfl rfl (Reads.move rfl) ?_
  refine XO.rd (wg rfl rfl rfl) rfl rfl (Reads.not rfl) ?_
  refine XO.rd rfl rfl rfl (Reads.pick_true rfl rfl) ?_
  refine XO.rd rfl rfl rfl (Reads.move rfl) ?_
  refine XO.rd (wg rfl rfl rfl) rfl rfl (Reads.move rfl) ?_
  refine XO.rd rfl rfl rfl (Reads.pick_true rfl rfl) ?_
  refine XO.rd rfl rfl rfl (Reads.move rfl) ?_
  refine XO.rd (wg rfl rfl rfl) rfl rfl (Reads.move rfl) ?_
  refine XO.lit (α := Int) [0, 1, 2] (([0, 1, 2] : List Int).map fun x => Value.int .i64 x) (([0, 1, 2] : List Int).map fun x => Value.int .i64 x) (wg rfl rfl rfl) rfl Try.underlying22 el3 rfl (by decide) ⟨rfl, rfl, rfl, rfl, rfl, rfl, trivial⟩ rfl rfl (by decide) rfl (flat_ints _ _) (fun b118 J22 hle22 hb118 => ?_)
  replace hI := Im.le_trans hI hle22
  replace hA := hA.mono hle22
  replace h2 := h2.mono hle22
  replace h4 := h4.mono hle22
  replace h6 := h6.mono hle22
  replace ha46 := ha46.mono hle22
  replace h10 := h10.mono hle22
  replace ha56 := ha56.mono hle22
  replace h17 := h17.mono hle22
  replace hb85 := hb85.mono hle22
  replace hb86 := hb86.mono hle22
  replace hb87 := hb87.mono hle22
  replace hb88 := hb88.mono hle22
  replace hb92 := hb92.mono hle22
  replace hb93 := hb93.mono hle22
  replace hb94 := hb94.mono hle22
  replace hb95 := hb95.mono hle22
  replace hb100 := hb100.mono hle22
  replace hb106 := hb106.mono hle22
  refine XO.callp (wg rfl rfl rfl) rfl en25 (ints_eq a10 (some ⟨b118, 0, none⟩) c10 3 [0, 1, 2] _ h10 hb118.arr.1 (by decide)) ⟨rfl, rfl, trivial⟩ ?_
  refine XO.rd rfl rfl rfl (Reads.pick_true rfl rfl) ?_
  refine XO.rd rfl rfl rfl (Reads.move rfl) ?_
  refine XO.rd (wg rfl rfl rfl) rfl rfl (Reads.move rfl) ?_
  refine XO.rd (wg rfl rfl rfl) rfl rfl (Reads.not rfl) ?_
  refine XO.rd rfl rfl rfl (Reads.pick_true rfl rfl) ?_
  refine XO.rd rfl rfl rfl (Reads.assign rfl) ?_
  refine XO.nil ?_
  refine XQ.then_normal ?_
  refine XC.seq ?_
  refine XC.weaken (E' := [(1, _), (19, _), (20, _)]) ⟨rfl, rfl, rfl, trivial⟩ ?_
  refine XC.region ?_
  refine XO.call rfl rfl en37 (example_any (-4) _) ⟨rfl, trivial⟩ ?_
  rintro u J23 hle23 hr
  replace hI := Im.le_trans hI hle23
  replace hA := hA.mono hle23
  replace h2 := h2.mono hle23
  replace h4 := h4.mono hle23
  replace h6 := h6.mono hle23
  replace ha46 := ha46.mono hle23
  replace h10 := h10.mono hle23
  replace ha56 := ha56.mono hle23
  replace h17 := h17.mono hle23
  replace hb85 := hb85.mono hle23
  replace hb86 := hb86.mono hle23
  replace hb87 := hb87.mono hle23
  replace hb88 := hb88.mono hle23
  replace hb92 := hb92.mono hle23
  replace hb93 := hb93.mono hle23
  replace hb94 := hb94.mono hle23
  replace hb95 := hb95.mono hle23
  replace hb100 := hb100.mono hle23
  replace hb106 := hb106.mono hle23
  replace hb118 := hb118.mono hle23
  obtain ⟨a125, ca125, rfl, _, ha125⟩ := hr
  refine XO.lit (α := Int) [1, 2, 0] (([1, 2, 0] : List Int).map fun x => Value.int .i64 x) (([1, 2, 0] : List Int).map fun x => Value.int .i64 x) rfl rfl Try.underlying22 el3 rfl (by decide) ⟨rfl, rfl, rfl, rfl, rfl, rfl, trivial⟩ rfl rfl (by decide) rfl (flat_ints _ _) (fun b126 J24 hle24 hb126 => ?_)
  replace hI := Im.le_trans hI hle24
  replace hA := hA.mono hle24
  replace h2 := h2.mono hle24
  replace h4 := h4.mono hle24
  replace h6 := h6.mono hle24
  replace ha46 := ha46.mono hle24
  replace h10 := h10.mono hle24
  replace ha56 := ha56.mono hle24
  replace h17 := h17.mono hle24
  replace hb85 := hb85.mono hle24
  replace hb86 := hb86.mono hle24
  replace hb87 := hb87.mono hle24
  replace hb88 := hb88.mono hle24
  replace hb92 := hb92.mono hle24
  replace hb93 := hb93.mono hle24
  replace hb94 := hb94.mono hle24
  replace hb95 := hb95.mono hle24
  replace hb100 := hb100.mono hle24
  replace hb106 := hb106.mono hle24
  replace hb118 := hb118.mono hle24
  replace ha125 := ha125.mono hle24
  refine XO.callp rfl rfl en29 (FC.boolEq (checkCycle_any (exB (-4)) a125 ca125 (some ⟨b126, 0, none⟩) [1, 2, 0] 3 _ ha125 hb126.arr.1 (by decide) (by decide)) ex_cc.1) ⟨rfl, rfl, trivial⟩ ?_
  refine XO.rd rfl rfl rfl (Reads.move rfl) ?_
  refine XO.rd (wg rfl rfl rfl) rfl rfl (Reads.load_whole k28 z28 rfl (by first | exact WholeAt.of 0 rfl | exact WholeAt.of 1 rfl | exact WholeAt.of 2 rfl | exact WholeAt.of 3 rfl | exact WholeAt.of 4 rfl | exact WholeAt.of 5 rfl) (by rfl)) ?_
  refine XO.lit (α := Int) [0, 1, 2] (([0, 1, 2] : List Int).map fun x => Value.int .i64 x) (([0, 1, 2] : List Int).map fun x => Value.int .i64 x) (wg rfl rfl rfl) rfl Try.underlying22 el3 rfl (by decide) ⟨rfl, rfl, rfl, rfl, rfl, rfl, trivial⟩ rfl rfl (by decide) rfl (flat_ints _ _) (fun b130 J25 hle25 hb130 => ?_)
  replace hI := Im.le_trans hI hle25
  replace hA := hA.mono hle25
  replace h2 := h2.mono hle25
  replace h4 := h4.mono hle25
  replace h6 := h6.mono hle25
  replace ha46 := ha46.mono hle25
  replace h10 := h10.mono hle25
  replace ha56 := ha56.mono hle25
  replace h17 := h17.mono hle25
  replace hb85 := hb85.mono hle25
  replace hb86 := hb86.mono hle25
  replace hb87 := hb87.mono hle25
  replace hb88 := hb88.mono hle25
  replace hb92 := hb92.mono hle25
  replace hb93 := hb93.mono hle25
  replace hb94 := hb94.mono hle25
  replace hb95 := hb95.mono hle25
  replace hb100 := hb100.mono hle25
  replace hb106 := hb106.mono hle25
  replace hb118 := hb118.mono hle25
  replace ha125 := ha125.mono hle25
  replace hb126 := hb126.mono hle25
  refine XO.callp (wg rfl rfl rfl) rfl en29 (FC.boolEq (checkCycle_any (exB 0) a cap (some ⟨b130, 0, none⟩) [0, 1, 2] 3 _ hA hb130.arr.1 (by decide) (by decide)) ex_cc.2) ⟨rfl, rfl, trivial⟩ ?_
  refine XO.rd (wg rfl rfl rfl) rfl rfl (Reads.not rfl) ?_
  refine XO.rd rfl rfl rfl (Reads.pick_true rfl rfl) ?_
  refine XO.rd rfl rfl rfl (Reads.move rfl) ?_
  refine XO.rd (wg rfl rfl rfl) rfl rfl (Reads.load_whole k28 z28 rfl (by first | exact WholeAt.of 0 rfl | exact WholeAt.of 1 rfl | exact WholeAt.of 2 rfl | exact WholeAt.of 3 rfl | exact WholeAt.of 4 rfl | exact WholeAt.of 5 rfl) (by rfl)) ?_
  refine XO.rd (wg rfl rfl rfl) rfl rfl (bd30 (vs := [(0, _), (1, _), (2, _)]) #[_, _, _] ⟨rfl, rfl, rfl, rfl, rfl, rfl, trivial⟩ rfl) ?_
  refine XO.lit (α := Int) [0, 1] (([0, 1] : List Int).map fun x => Value.int .i64 x) (([0, 1] : List Int).map fun x => Value.int .i64 x) (wg rfl rfl rfl) rfl Try.underlying22 el3 rfl (by decide) ⟨rfl, rfl, rfl, rfl, trivial⟩ rfl rfl (by decide) rfl (flat_ints _ _) (fun b137 J26 hle26 hb137 => ?_)
  replace hI := Im.le_trans hI hle26
  replace hA := hA.mono hle26
  replace h2 := h2.mono hle26
  replace h4 := h4.mono hle26
  replace h6 := h6.mono hle26
  replace ha46 := ha46.mono hle26
  replace h10 := h10.mono hle26
  replace ha56 := ha56.mono hle26
  replace h17 := h17.mono hle26
  replace hb85 := hb85.mono hle26
  replace hb86 := hb86.mono hle26
  replace hb87 := hb87.mono hle26
  replace hb88 := hb88.mono hle26
  replace hb92 := hb92.mono hle26
  replace hb93 := hb93.mono hle26
  replace hb94 := hb94.mono hle26
  replace hb95 := hb95.mono hle26
  replace hb100 := hb100.mono hle26
  replace hb106 := hb106.mono hle26
  replace hb118 := hb118.mono hle26
  replace ha125 := ha125.mono hle26
  replace hb126 := hb126.mono hle26
  replace hb130 := hb130.mono hle26
  refine XO.callp (wg rfl rfl rfl) rfl en31 (FC.boolEq (checkChain_any (exB 0) ⟨0, 2, 3⟩ a cap (some ⟨b137, 0, none⟩) [0, 1] 2 _ hA hb137.arr.1 (by decide) (by decide)) ex_cch.1) ⟨rfl, rfl, rfl, trivial⟩ ?_
  refine XO.rd rfl rfl rfl (Reads.pick_true rfl rfl) ?_
  refine XO.rd rfl rfl rfl (Reads.move rfl) ?_
  refine XO.rd (wg rfl rfl rfl) rfl rfl (Reads.load_whole k28 z28 rfl (by first | exact WholeAt.of 0 rfl | exact WholeAt.of 1 rfl | exact WholeAt.of 2 rfl | exact WholeAt.of 3 rfl | exact WholeAt.of 4 rfl | exact WholeAt.of 5 rfl) (by rfl)) ?_
  refine XO.rd (wg rfl rfl rfl) rfl rfl (bd30 (vs := [(0, _), (1, _), (2, _)]) #[_, _, _] ⟨rfl, rfl, rfl, rfl, rfl, rfl, trivial⟩ rfl) ?_
  refine XO.lit (α := Int) [0, 1] (([0, 1] : List Int).map fun x => Value.int .i64 x) (([0, 1] : List Int).map fun x => Value.int .i64 x) (wg rfl rfl rfl) rfl Try.underlying22 el3 rfl (by decide) ⟨rfl, rfl, rfl, rfl, trivial⟩ rfl rfl (by decide) rfl (flat_ints _ _) (fun b143 J27 hle27 hb143 => ?_)
  replace hI := Im.le_trans hI hle27
  replace hA := hA.mono hle27
  replace h2 := h2.mono hle27
  replace h4 := h4.mono hle27
  replace h6 := h6.mono hle27
  replace ha46 := ha46.mono hle27
  replace h10 := h10.mono hle27
  replace ha56 := ha56.mono hle27
  replace h17 := h17.mono hle27
  replace hb85 := hb85.mono hle27
  replace hb86 := hb86.mono hle27
  replace hb87 := hb87.mono hle27
  replace hb88 := hb88.mono hle27
  replace hb92 := hb92.mono hle27
  replace hb93 := hb93.mono hle27
  replace hb94 := hb94.mono hle27
  replace hb95 := hb95.mono hle27
  replace hb100 := hb100.mono hle27
  replace hb106 := hb106.mono hle27
  replace hb118 := hb118.mono hle27
  replace ha125 := ha125.mono hle27
  replace hb126 := hb126.mono hle27
  replace hb130 := hb130.mono hle27
  replace hb137 := hb137.mono hle27
  refine XO.callp (wg rfl rfl rfl) rfl en31 (FC.boolEq (checkChain_any (exB 0) ⟨0, 2, 2⟩ a cap (some ⟨b143, 0, none⟩) [0, 1] 2 _ hA hb143.arr.1 (by decide) (by decide)) ex_cch.2) ⟨rfl, rfl, rfl, trivial⟩ ?_
  refine XO.rd (wg rfl rfl rfl) rfl rfl (Reads.not rfl) ?_
  refine XO.rd rfl rfl rfl (Reads.pick_true rfl rfl) ?_
  refine XO.rd rfl rfl rfl (Reads.assign rfl) ?_
  refine XO.nil ?_
  refine XQ.then_normal ?_
  refine XC.seq ?_
  refine XC.region ?_
  refine XO.rd rfl rfl rfl (Reads.move rfl) ?_
  refine XO.rd rfl rfl rfl (Reads.move rfl) ?_
  refine XO.rd (wg rfl rfl rfl) rfl rfl (Reads.move rfl) ?_
  refine XO.rd rfl rfl rfl (Reads.pick_true rfl rfl) ?_
  refine XO.rd rfl rfl rfl (Reads.move rfl) ?_
  refine XO.rd (wg rfl rfl rfl) rfl rfl (Reads.move rfl) ?_
  refine XO.rd rfl rfl rfl (Reads.pick_true rfl rfl) ?_
  refine XO.rd rfl rfl rfl (Reads.move rfl) ?_
  refine XO.rd (wg rfl rfl rfl) rfl rfl (Reads.load_whole k28 z28 rfl (by first | exact WholeAt.of 0 rfl | exact WholeAt.of 1 rfl | exact WholeAt.of 2 rfl | exact WholeAt.of 3 rfl | exact WholeAt.of 4 rfl | exact WholeAt.of 5 rfl) (by rfl)) ?_
  refine XO.callp (wg rfl rfl rfl) rfl en22 (FC.boolEq (valid_any (exB 0) a cap _ hA (by decide)) ex_valid.1) ⟨rfl, trivial⟩ ?_
  refine XO.rd rfl rfl rfl (Reads.pick_true rfl rfl) ?_
  refine XO.rd rfl rfl rfl (Reads.move rfl) ?_
  refine XO.rd (wg rfl rfl rfl) rfl rfl (bd28 (vs := [(0, _)]) #[_, .slice none 0 0] ⟨rfl, rfl, trivial⟩ rfl) ?_
  refine XO.callp (wg rfl rfl rfl) rfl en22 (FC.boolEq (valid_any ⟨17, []⟩ none 0 _ Arr.nil (by decide)) ex_valid.2) ⟨rfl, trivial⟩ ?_
  refine XO.rd (wg rfl rfl rfl) rfl rfl (Reads.not rfl) ?_
  refine XO.rd rfl rfl rfl (Reads.pick_true rfl rfl) ?_
  refine XO.rd rfl rfl rfl (Reads.move rfl) ?_
  refine XO.rd (wg rfl rfl rfl) rfl rfl (Reads.load_whole k28 z28 rfl (by first | exact WholeAt.of 0 rfl | exact WholeAt.of 1 rfl | exact WholeAt.of 2 rfl | exact WholeAt.of 3 rfl | exact WholeAt.of 4 rfl | exact WholeAt.of 5 rfl) (by rfl)) ?_
  refine XO.lit (α := Int) [-2, 0, -2] (([-2, 0, -2] : List Int).map fun x => Value.int .i64 x) (([-2, 0, -2] : List Int).map fun x => Value.int .i64 x) (wg rfl rfl rfl) rfl Try.underlying22 el3 rfl (by decide) ⟨rfl, rfl, rfl, rfl, rfl, rfl, trivial⟩ rfl rfl (by decide) rfl (flat_ints _ _) (fun b165 J28 hle28 hb165 => ?_)
  replace hI := Im.le_trans hI hle28
  replace hA := hA.mono hle28
  replace h2 := h2.mono hle28
  replace h4 := h4.mono hle28
  replace h6 := h6.mono hle28
  replace ha46 := ha46.mono hle28
  replace h10 := h10.mono hle28
  replace ha56 := ha56.mono hle28
  replace h17 := h17.mono hle28
  replace hb85 := hb85.mono hle28
  replace hb86 := hb86.mono hle28
  replace hb87 := hb87.mono hle28
  replace hb88 := hb88.mono hle28
  replace hb92 := hb92.mono hle28
  replace hb93 := hb93.mono hle28
  replace hb94 := hb94.mono hle28
  replace hb95 := hb95.mono hle28
  replace hb100 := hb100.mono hle28
  replace hb106 := hb106.mono hle28
  replace hb118 := hb118.mono hle28
  replace ha125 := ha125.mono hle28
  replace hb126 := hb126.mono hle28
  replace hb130 := hb130.mono hle28
  replace hb137 := hb137.mono hle28
  replace hb143 := hb143.mono hle28
  refine XO.callp (wg rfl rfl rfl) rfl en27 (FC.boolEq (allowed_any (exB 0) a cap (some ⟨b165, 0, none⟩) [-2, 0, -2] 3 _ hA hb165.arr.1 (by decide) (by decide)) ex_allowed.1) ⟨rfl, rfl, trivial⟩ ?_
  refine XO.rd rfl rfl rfl (Reads.pick_true rfl rfl) ?_
  refine XO.rd rfl rfl rfl (Reads.move rfl) ?_
  refine XO.rd (wg rfl rfl rfl) rfl rfl (Reads.load_whole k28 z28 rfl (by first | exact WholeAt.of 0 rfl | exact WholeAt.of 1 rfl | exact WholeAt.of 2 rfl | exact WholeAt.of 3 rfl | exact WholeAt.of 4 rfl | exact WholeAt.of 5 rfl) (by rfl)) ?_
  refine XO.lit (α := Int) [-2, 0, -1] (([-2, 0, -1] : List Int).map fun x => Value.int .i64 x) (([-2, 0, -1] : List Int).map fun x => Value.int .i64 x) (wg rfl rfl rfl) rfl Try.underlying22 el3 rfl (by decide) ⟨rfl, rfl, rfl, rfl, rfl, rfl, trivial⟩ rfl rfl (by decide) rfl (flat_ints _ _) (fun b170 J29 hle29 hb170 => ?_)
  replace hI := Im.le_trans hI hle29
  replace hA := hA.mono hle29
  replace h2 := h2.mono hle29
  replace h4 := h4.mono hle29
  replace h6 := h6.mono hle29
  replace ha46 := ha46.mono hle29
  replace h10 := h10.mono hle29
  replace ha56 := ha56.mono hle29
  replace h17 := h17.mono hle29
  replace hb85 := hb85.mono hle29
  replace hb86 := hb86.mono hle29
  replace hb87 := hb87.mono hle29
  replace hb88 := hb88.mono hle29
  replace hb92 := hb92.mono hle29
  replace hb93 := hb93.mono hle29
  replace hb94 := hb94.mono hle29
  replace hb95 := hb95.mono hle29
  replace hb100 := hb100.mono hle29
  replace hb106 := hb106.mono hle29
  replace hb118 := hb118.mono hle29
  replace ha125 := ha125.mono hle29
  replace hb126 := hb126.mono hle29
  replace hb130 := hb130.mono hle29
  replace hb137 := hb137.mono hle29
  replace hb143 := hb143.mono hle29
  replace hb165 := hb165.mono hle29
  refine XO.callp (wg rfl rfl rfl) rfl en27 (FC.boolEq (allowed_any (exB 0) a cap (some ⟨b170, 0, none⟩) [-2, 0, -1] 3 _ hA hb170.arr.1 (by decide) (by decide)) ex_allowed.2) ⟨rfl, rfl, trivial⟩ ?_
  refine XO.rd (wg rfl rfl rfl) rfl rfl (Reads.not rfl) ?_
  refine XO.rd rfl rfl rfl (Reads.pick_true rfl rfl) ?_
  refine XO.rd rfl rfl rfl (Reads.assign rfl) ?_
  refine XO.nil ?_
  refine XQ.then_normal ?_
  refine XC.ret ?_
  refine XQ.dropn 2 ?_
  refine XQ.done1 rfl rfl hI ?_
  exact ⟨rfl, rfl⟩

end Go.Proofs.Ytlgfpieokaegiaa
