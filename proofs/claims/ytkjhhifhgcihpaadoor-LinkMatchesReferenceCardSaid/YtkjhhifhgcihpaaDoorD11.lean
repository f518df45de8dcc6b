/- The contracts that the laws behind 'busy' use. -/
import Derived.Test.YtkjhhifhgcihpaaDoorD10
import Derived.Test.YtkjhhifhgcihpaaDoorK4
import Derived.Test.YtkjhhifhgcihpaaDoorK5
namespace Go.Xe
open Go Go.RowKit
variable {P : Program} {dst : Option Tmp} {ty : TypeId} {pos : String} {after : Array Edge} {guard : Option (Nat × Bool)} {E : Env} {I : Im} {L : Own} {x y : Operand}
theorem Reads.cmp_yes {op : BinOp} {xt yt : TypeId} {k : IntKind} {m n : Int} (hop : isCmp op = true) (hx : ev E x = some (.int k m)) (hy : ev E y = some (.int k n)) (hc : cmpInt op m n = true) :
    Reads P { dst, op := .binOp op xt x y yt, type := ty, pos, after, guard } E I L (.bool true) := by have := Reads.cmp (P := P) (dst := dst) (ty := ty) (pos := pos) (after := after) (guard := guard) (I := I) (L := L) (xt := xt) (yt := yt) hop hx hy; rw [hc] at this; exact this
theorem Reads.cmp_no {op : BinOp} {xt yt : TypeId} {k : IntKind} {m n : Int} (hop : isCmp op = true) (hx : ev E x = some (.int k m)) (hy : ev E y = some (.int k n)) (hc : cmpInt op m n = false) :
    Reads P { dst, op := .binOp op xt x y yt, type := ty, pos, after, guard } E I L (.bool false) := by have := Reads.cmp (P := P) (dst := dst) (ty := ty) (pos := pos) (after := after) (guard := guard) (I := I) (L := L) (xt := xt) (yt := yt) hop hx hy; rw [hc] at this; exact this
end Go.Xe
namespace Go.Proofs.YtkjhhifhgcihpaaDoor
open Go Go.Lk Go.Xe Go.Sh

theorem busy_is (a : Option Addr) (cap : Nat) (ops : List Q4) (I : Im) (hY : Arr I a ops) (hops : ∀ x ∈ ops, x.In) (hG : Glob I) :
    FSo Tryd.prog 39 [.slice a ops.length cap] I [] (fun u I' L' => I' = I ∧ ∃ (ba bb : Nat) (ha hb : EH), u = .tuple #[.pointer (some ⟨ba, 0, none⟩), .pointer (some ⟨bb, 0, none⟩), .bool true] ∧
      L' = endL ba (busyF ops 0) ha ++ endL bb (busyF ops 1) hb ∧ EndIs (busyF ops 0) ha ∧ EndIs (busyF ops 1) hb) :=
  (FSo.shrink (busy_all a cap ops I hY hops hG)).mono fun _ _ _ _ ⟨hI, _, bk, h, hu, hL, hE⟩ => ⟨hI, bk 0, bk 1, h 0, h 1, hu, hL, hE 0 (by decide), hE 1 (by decide)⟩
theorem same_is {a b : Option Addr} {ca cb : Nat} {xs ys : List Pkt} {c : Bool} {I : Im} (h : decide (xs = ys) = c) (hl : xs.length ≤ 1000000000) (ha : Arr I a xs) (hb : Arr I b ys) :
    FC Tryd.prog 23 [.slice a xs.length ca, .slice b ys.length cb] I (fun u I' => u = .bool c ∧ I' = I) := by
  subst h; exact same_any a b ca cb xs ys I ha hb hl
theorem outF_count {x : LEnd} (h : x.acked ≤ x.sent.length) : (outF x).length = max (min (x.sent.length - x.acked) 4) 1 := by
  rw [outF, List.length_map]; unfold bareF; split
  · simp only [List.length_singleton]; omega
  · simp only [List.length_map, List.length_range]; omega
theorem out_at {x : Nat → LEnd} (hs : Lk.Sys x) {n : Nat} (hn : n < 2) {k : Nat} (hk : k < (outF (x n)).length) :
    genF (keyB n) (outF (x n))[k] = true ∧ (outF (x n))[k].ack = (x n).got ∧ (outF (x n))[k].ser = (if (x n).acked = (x n).sent.length then (0 : Int) else (((x n).acked + k + 1 : Nat) : Int)) := by
  obtain ⟨h1, _, h2, _⟩ := out_of hs hn (List.getElem_mem hk)
  refine ⟨h1, h2, ?_⟩
  simp only [outF, List.getElem_map, sealed]
  split
  · next h => simp only [bareF_none h]; have : k < 1 := by rw [outF, List.length_map, bareF_none h] at hk; exact hk
              obtain rfl : k = 0 := by omega
              rfl
  · next h => rw [bareF_get h]
theorem outF_len (x : LEnd) : (outF x).length ≤ 4 := by rw [outF, List.length_map]; exact bareF_len _
end Go.Proofs.YtkjhhifhgcihpaaDoor
