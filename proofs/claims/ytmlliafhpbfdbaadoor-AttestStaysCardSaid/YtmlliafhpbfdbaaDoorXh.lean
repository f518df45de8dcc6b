/- The digest and the encodings of integers and strings, plain: no program is named here. -/
import Derived.Test.YtmlliafhpbfdbaaDoorXw
namespace Go.Sh
def H0 : List Nat := [1779033703, 3144134277, 1013904242, 2773480762, 1359893119, 2600822924, 528734635, 1541459225]
def KR : List Nat := [1116352408, 1899447441, 3049323471, 3921009573, 961987163, 1508970993, 2453635748, 2870763221, 3624381080, 310598401, 607225278, 1426881987, 1925078388, 2162078206, 2614888103, 3248222580, 3835390401, 4022224774, 264347078, 604807628, 770255983, 1249150122, 1555081692, 1996064986, 2554220882, 2821834349, 2952996808, 3210313671, 3336571891, 3584528711, 113926993, 338241895, 666307205, 773529912, 1294757372, 1396182291, 1695183700, 1986661051, 2177026350, 2456956037, 2730485921, 2820302411, 3259730800, 3345764771, 3516065817, 3600352804, 4094571909, 275423344, 430227734, 506948616, 659060556, 883997877, 958139571, 1322822218, 1537002063, 1747873779, 1955562222, 2024104815, 2227730452, 2361852424, 2428436474, 2756734187, 3204031479, 3329325298]
def rotr (x n : Nat) : Nat := x * 2 ^ (32 - n) % 4294967296 ||| x / 2 ^ n
def mix (x : Nat) (l : List Nat) : Nat := l.foldl (fun o n => o ^^^ rotr x n) 0
def wd (b : Nat → Nat) (i : Nat) : Nat := ((b (4 * i) * 2 ^ 24 % 4294967296 ||| b (4 * i + 1) * 2 ^ 16 % 4294967296) ||| b (4 * i + 2) * 2 ^ 8 % 4294967296) ||| b (4 * i + 3)
def g (l : List Nat) (i : Nat) : Nat := l.getD i 0
def nxt (w : List Nat) (i : Nat) : Nat := (((g w (i - 16) + (mix (g w (i - 15)) [7, 18] ^^^ g w (i - 15) / 2 ^ 3)) % 4294967296 + g w (i - 7)) % 4294967296 + (mix (g w (i - 2)) [17, 19] ^^^ g w (i - 2) / 2 ^ 10)) % 4294967296
def sch0 (b : Nat → Nat) (k : Nat) : List Nat := (List.range k).map (wd b)
/-- the words up to number 16 + k -/
def schA (b : Nat → Nat) : Nat → List Nat
  | 0 => sch0 b 16
  | k + 1 => schA b k ++ [nxt (schA b k) (16 + k)]
def sch (b : Nat → Nat) : List Nat := schA b 48
def t1 (v : List Nat) (k w : Nat) : Nat := ((((g v 7 + mix (g v 4) [6, 11, 25]) % 4294967296 + ((g v 4 &&& g v 5) ^^^ ((4294967295 ^^^ g v 4) &&& g v 6))) % 4294967296 + k) % 4294967296 + w) % 4294967296
def t2 (v : List Nat) : Nat := (mix (g v 0) [2, 13, 22] + (((g v 0 &&& g v 1) ^^^ (g v 0 &&& g v 2)) ^^^ (g v 1 &&& g v 2))) % 4294967296
def rnd (v : List Nat) (k w : Nat) : List Nat := [(t1 v k w + t2 v) % 4294967296, g v 0, g v 1, g v 2, (g v 3 + t1 v k w) % 4294967296, g v 4, g v 5, g v 6]
def rnds (b : Nat → Nat) (h : List Nat) (i : Nat) : List Nat := (List.range i).foldl (fun v i => rnd v (g KR i) (g (sch b) i)) h
def comp (h : List Nat) (b : Nat → Nat) : List Nat := (List.range 8).map fun i => (g h i + g (rnds b h 64) i) % 4294967296
def zc (n : Nat) : Nat := (119 - n % 64) % 64
def lenB (n : Nat) (k : Nat) : List UInt8 := (List.range k).map fun j => UInt8.ofNat (8 * n / 2 ^ (8 * (7 - j)) % 256)
def pad (s : List UInt8) : List UInt8 := s ++ [128] ++ List.replicate (zc s.length) 0 ++ lenB s.length 8
def bl (b : List UInt8) (i : Nat) : Nat → Nat := bg ((b.drop (64 * i)).take 64)
def blocks (b : List UInt8) (k : Nat) : List Nat := (List.range k).foldl (fun h i => comp h (bl b i)) H0
def out1 (x : Nat) (k : Nat) : List UInt8 := (List.range k).map fun j => UInt8.ofNat (x / 2 ^ (24 - 8 * j) % 256)
def outB (h : List Nat) (k : Nat) : List UInt8 := (List.range k).flatMap fun i => out1 (g h i) 4
def shaB (s : List UInt8) : List UInt8 := outB (blocks (pad s) ((pad s).length / 64)) 8
def sha (s : ByteArray) : ByteArray := ⟨(shaB s.data.toList).toArray⟩
def leaf (s : ByteArray) : ByteArray := sha (⟨#[0]⟩ ++ s)
def node (a b : ByteArray) : ByteArray := sha (⟨#[1]⟩ ++ a ++ b)

/-! words stay words -/
abbrev Ws (l : List Nat) : Prop := ∀ i, g l i < 4294967296
theorem g_append_left {a b : List Nat} {i : Nat} (h : i < a.length) : g (a ++ b) i = g a i := by simp [g, List.getElem?_append_left h]
theorem g_append_self (a : List Nat) (x : Nat) : g (a ++ [x]) a.length = x := by simp [g]
theorem g_ge {a : List Nat} {i : Nat} (h : a.length ≤ i) : g a i = 0 := by simp [g, List.getElem?_eq_none h]
theorem g_map {f : Nat → Nat} {k i : Nat} (h : i < k) : g ((List.range k).map f) i = f i := by simp [g, h]
theorem g_get {l : List Nat} {i : Nat} (h : i < l.length) : l[i]? = some (g l i) := by simp [g, h]
theorem Ws.of {l : List Nat} (h : ∀ x ∈ l, x < 4294967296) : Ws l := fun i => by
  by_cases hi : i < l.length
  · simp only [g, List.getD_eq_getElem?_getD, List.getElem?_eq_getElem hi, Option.getD_some]; exact h _ (List.getElem_mem hi)
  · rw [g_ge (by omega)]; decide
theorem Ws.mem {l : List Nat} (h : Ws l) : ∀ x ∈ l, x < 4294967296 := fun x hx => by
  obtain ⟨i, hi, rfl⟩ := List.mem_iff_getElem.1 hx
  have := h i
  simpa [g, hi] using this
theorem rotr_lt {x n : Nat} (hx : x < 4294967296) : rotr x n < 4294967296 := by
  have h1 : x * 2 ^ (32 - n) % 4294967296 < 2 ^ 32 := Nat.mod_lt _ (by decide)
  have h2 : x / 2 ^ n < 2 ^ 32 := Nat.lt_of_le_of_lt (Nat.div_le_self _ _) hx
  exact Nat.or_lt_two_pow h1 h2
theorem xor_lt {a b : Nat} (ha : a < 4294967296) (hb : b < 4294967296) : a ^^^ b < 4294967296 := Nat.xor_lt_two_pow (n := 32) ha hb
theorem and_lt {a b : Nat} (hb : b < 4294967296) : a &&& b < 4294967296 := Nat.and_lt_two_pow (n := 32) _ hb
theorem or_lt {a b : Nat} (ha : a < 4294967296) (hb : b < 4294967296) : a ||| b < 4294967296 := Nat.or_lt_two_pow (n := 32) ha hb
theorem div_lt' {a : Nat} (n : Nat) (ha : a < 4294967296) : a / n < 4294967296 := Nat.lt_of_le_of_lt (Nat.div_le_self _ _) ha
theorem mod_lt' (a : Nat) : a % 4294967296 < 4294967296 := Nat.mod_lt _ (by decide)
theorem mix_lt {x : Nat} (l : List Nat) (hx : x < 4294967296) : mix x l < 4294967296 := by
  have key : ∀ (l : List Nat) (o : Nat), o < 4294967296 → l.foldl (fun o n => o ^^^ rotr x n) o < 4294967296 := fun l => by
    induction l with
    | nil => intro o h; exact h
    | cons n l ih => intro o h; exact ih _ (xor_lt h (rotr_lt hx))
  exact key l 0 (by decide)
theorem mix_snoc (x : Nat) (l : List Nat) (n : Nat) : mix x (l ++ [n]) = mix x l ^^^ rotr x n := by simp [mix]
theorem mix2 (x a b : Nat) : rotr x a ^^^ rotr x b = mix x [a, b] := by simp [mix]
theorem mix3 (x a b c : Nat) : rotr x a ^^^ rotr x b ^^^ rotr x c = mix x [a, b, c] := by simp [mix]
theorem wd_lt (b : Nat → Nat) (i : Nat) (h : b (4 * i + 3) < 4294967296) : wd b i < 4294967296 := or_lt (or_lt (or_lt (mod_lt' _) (mod_lt' _)) (mod_lt' _)) h
theorem sch0_len (b : Nat → Nat) (k : Nat) : (sch0 b k).length = k := by simp [sch0]
theorem sch0_succ (b : Nat → Nat) (k : Nat) : sch0 b (k + 1) = sch0 b k ++ [wd b k] := by simp [sch0, List.range_succ]
theorem schA_len (b : Nat → Nat) : ∀ k, (schA b k).length = 16 + k
  | 0 => by simp [schA, sch0_len]
  | k + 1 => by rw [schA, List.length_append, schA_len b k]; rfl
theorem sch_len (b : Nat → Nat) : (sch b).length = 64 := schA_len b 48
theorem nxt_lt (w : List Nat) (i : Nat) : nxt w i < 4294967296 := mod_lt' _
theorem Ws.snoc {l : List Nat} {x : Nat} (h : Ws l) (hx : x < 4294967296) : Ws (l ++ [x]) := Ws.of fun y hy => by
  rcases List.mem_append.1 hy with hy | hy
  · exact h.mem y hy
  · rw [List.mem_singleton.1 hy]; exact hx
theorem sch0_ws {b : Nat → Nat} (hb : ∀ i, b i < 256) : ∀ k, Ws (sch0 b k)
  | 0 => fun i => by simp [sch0, g]
  | k + 1 => by rw [sch0_succ]; exact (sch0_ws hb k).snoc (wd_lt b k (by have := hb (4 * k + 3); omega))
theorem schA_ws {b : Nat → Nat} (hb : ∀ i, b i < 256) : ∀ k, Ws (schA b k)
  | 0 => sch0_ws hb 16
  | k + 1 => (schA_ws hb k).snoc (nxt_lt _ _)
theorem rnd_ws {v : List Nat} (k w : Nat) (h : Ws v) : Ws (rnd v k w) := Ws.of fun x hx => by
  simp only [rnd, List.mem_cons, List.not_mem_nil, or_false] at hx
  rcases hx with rfl | rfl | rfl | rfl | rfl | rfl | rfl | rfl
  all_goals first | exact mod_lt' _ | exact h _
theorem rnd_len (v : List Nat) (k w : Nat) : (rnd v k w).length = 8 := rfl
theorem foldl_range_succ' {α : Type} (f : α → Nat → α) (a : α) (n : Nat) : (List.range (n + 1)).foldl f a = f ((List.range n).foldl f a) n := by simp [List.range_succ]
theorem rnds_zero (b : Nat → Nat) (h : List Nat) : rnds b h 0 = h := rfl
theorem rnds_succ (b : Nat → Nat) (h : List Nat) (i : Nat) : rnds b h (i + 1) = rnd (rnds b h i) (g KR i) (g (sch b) i) := foldl_range_succ' _ _ _
theorem rnds_ws {b : Nat → Nat} {h : List Nat} (hh : Ws h) : ∀ i, Ws (rnds b h i)
  | 0 => hh
  | i + 1 => by rw [rnds_succ]; exact rnd_ws _ _ (rnds_ws hh i)
theorem rnds_len {b : Nat → Nat} {h : List Nat} (hh : h.length = 8) : ∀ i, (rnds b h i).length = 8
  | 0 => hh
  | i + 1 => by rw [rnds_succ]; rfl
theorem comp_ws (h : List Nat) (b : Nat → Nat) : Ws (comp h b) := Ws.of fun x hx => by
  obtain ⟨i, _, rfl⟩ := List.mem_map.1 hx; exact mod_lt' _
theorem comp_len (h : List Nat) (b : Nat → Nat) : (comp h b).length = 8 := by simp [comp]
theorem H0_ws : Ws H0 := Ws.of (by decide)
theorem KR_ws : Ws KR := Ws.of (by decide)
theorem blocks_zero (b : List UInt8) : blocks b 0 = H0 := rfl
theorem blocks_succ (b : List UInt8) (k : Nat) : blocks b (k + 1) = comp (blocks b k) (bl b k) := foldl_range_succ' _ _ _
theorem blocks_ws (b : List UInt8) : ∀ k, Ws (blocks b k)
  | 0 => H0_ws
  | k + 1 => by rw [blocks_succ]; exact comp_ws _ _
theorem blocks_len (b : List UInt8) : ∀ k, (blocks b k).length = 8
  | 0 => rfl
  | k + 1 => by rw [blocks_succ]; exact comp_len _ _
theorem bl_lt (b : List UInt8) (i j : Nat) : bl b i j < 256 := UInt8.toNat_lt _
theorem lenB_succ (n k : Nat) : lenB n (k + 1) = lenB n k ++ [UInt8.ofNat (8 * n / 2 ^ (8 * (7 - k)) % 256)] := by simp [lenB, List.range_succ]
theorem lenB_len (n k : Nat) : (lenB n k).length = k := by simp [lenB]
theorem pad_len (s : List UInt8) : (pad s).length = s.length + 1 + zc s.length + 8 := by simp [pad, lenB]; omega
theorem pad_mod (s : List UInt8) : (pad s).length % 64 = 0 := by rw [pad_len]; unfold zc; omega
theorem out1_len (x k : Nat) : (out1 x k).length = k := by simp [out1]
theorem out1_succ (x k : Nat) : out1 x (k + 1) = out1 x k ++ [UInt8.ofNat (x / 2 ^ (24 - 8 * k) % 256)] := by simp [out1, List.range_succ]
theorem outB_succ (h : List Nat) (k : Nat) : outB h (k + 1) = outB h k ++ out1 (g h k) 4 := by simp [outB, List.range_succ]
theorem outB_len (h : List Nat) : ∀ k, (outB h k).length = 4 * k
  | 0 => rfl
  | k + 1 => by rw [outB_succ, List.length_append, outB_len h k, out1_len]; omega
theorem sha_size (s : ByteArray) : (sha s).size = 32 := by
  show (shaB s.data.toList).toArray.size = 32
  simp [shaB, outB_len]

/-! in memory -/
open Go.Xe
theorem fill_step {l : List Nat} {n x : Nat} (h : l.length < n) : (fillC l n).toArray.setIfInBounds l.length (.int .u32 ((x : Nat) : Int)) = (fillC (l ++ [x]) n).toArray := by rw [set_toArray, fillC_set x h]
theorem sched_step0 (b : Nat → Nat) {k : Nat} (hk : k < 64) : (fillC (sch0 b k) 64).toArray.setIfInBounds k (.int .u32 ((wd b k : Nat) : Int)) = (fillC (sch0 b (k + 1)) 64).toArray := by
  have h := fill_step (l := sch0 b k) (n := 64) (x := wd b k) (by rw [sch0_len]; exact hk)
  rw [sch0_len] at h; rw [h, sch0_succ]
theorem sched_step (b : Nat → Nat) {k : Nat} (hk : k < 48) : (fillC (schA b k) 64).toArray.setIfInBounds (16 + k) (.int .u32 ((nxt (schA b k) (16 + k) : Nat) : Int)) = (fillC (schA b (k + 1)) 64).toArray := by
  have h := fill_step (l := schA b k) (n := 64) (x := nxt (schA b k) (16 + k)) (by rw [schA_len]; omega)
  rw [schA_len] at h; rw [h]; rfl
theorem fillC_g {l : List Nat} {n i : Nat} (h : i < l.length) : (fillC l n).toArray.toList[i]? = some (.int .u32 ((g l i : Nat) : Int)) := by rw [List.toList_toArray]; exact fillC_get h
theorem wC_g {l : List Nat} {i : Nat} (h : i < l.length) : (wC l).toArray.toList[i]? = some (.int .u32 ((g l i : Nat) : Int)) := by rw [List.toList_toArray]; exact wC_get h

theorem own_fill (c : Array Value) (vs : List Value) (h : c.size = vs.length) : (c.toList.take 0 ++ vs ++ c.toList.drop (0 + vs.length)).toArray = vs.toArray := by
  have : c.toList.drop (0 + vs.length) = [] := List.drop_of_length_le (by simp; omega)
  rw [this]; simp
theorem shift8 {v : List Nat} (h : v.length = 8) : ((wC v).toArray.toList.take 1 ++ wC (v.take 7) ++ (wC v).toArray.toList.drop (1 + 7)).toArray = (wC [g v 0, g v 0, g v 1, g v 2, g v 3, g v 4, g v 5, g v 6]).toArray := by
  match v, h with
  | [a, b, c, d, e, f, x, y], _ => rfl
theorem rnd_store (v : List Nat) (k w : Nat) : ((wC [g v 0, g v 0, g v 1, g v 2, g v 3, g v 4, g v 5, g v 6]).toArray.setIfInBounds 0 (.int .u32 (((t1 v k w + t2 v) % 4294967296 : Nat) : Int))).setIfInBounds 4 (.int .u32 (((g v 3 + t1 v k w) % 4294967296 : Nat) : Int)) = (wC (rnd v k w)).toArray := rfl
theorem KR_len : KR.length = 64 := rfl
theorem dig_step {h : List Nat} {i k : Nat} (hi : i < 8) (hk : k < 4) : (fillD (outB h i ++ out1 (g h i) k) 32).toArray.setIfInBounds (4 * i + k) (.int .u8 ((g h i / 2 ^ (24 - 8 * k) % 256 : Nat) : Int)) = (fillD (outB h i ++ out1 (g h i) (k + 1)) 32).toArray := by
  have hl : (outB h i ++ out1 (g h i) k).length = 4 * i + k := by rw [List.length_append, outB_len, out1_len]
  have := fillD_set (l := outB h i ++ out1 (g h i) k) (n := 32) (UInt8.ofNat (g h i / 2 ^ (24 - 8 * k) % 256)) (by omega)
  rw [hl, ← u8_nat] at this
  rw [set_toArray, this, out1_succ, List.append_assoc]
/-- the sums so far -/
def compP (h v : List Nat) (q : Nat) : List Nat := (List.range 8).map fun i => if i < q then (g h i + g v i) % 4294967296 else g h i
theorem compP_len (h v : List Nat) (q : Nat) : (compP h v q).length = 8 := by simp [compP]
theorem compP_zero {h v : List Nat} (hl : h.length = 8) : compP h v 0 = h := by
  match h, hl with
  | [a, b, c, d, e, f, x, y], _ => rfl
def compO (h v : List Nat) (q : Nat) : List Nat := (List.range q).map fun i => (g h i + g v i) % 4294967296
theorem compO_succ (h v : List Nat) (q : Nat) : compO h v (q + 1) = compO h v q ++ [(g h q + g v q) % 4294967296] := by simp [compO, List.range_succ]
theorem compO_len (h v : List Nat) (q : Nat) : (compO h v q).length = q := by simp [compO]
theorem compP_all (h : List Nat) (b : Nat → Nat) : compP h (rnds b h 64) 8 = comp h b := List.map_congr_left (fun i hi => by rw [if_pos (List.mem_range.1 hi)])
theorem compP_g {h v : List Nat} {q : Nat} (hq : q < 8) : g (compP h v q) q = g h q := by rw [compP, g_map hq, if_neg (Nat.lt_irrefl _)]
theorem compP_set {h v : List Nat} {q : Nat} (_hq : q < 8) : (wC (compP h v q)).toArray.setIfInBounds q (.int .u32 (((g h q + g v q) % 4294967296 : Nat) : Int)) = (wC (compP h v (q + 1))).toArray := by
  rw [set_toArray, wC_set]
  congr 2
  apply List.ext_getElem
  · simp [compP]
  · intro i h1 h2
    rw [List.getElem_set]
    simp only [compP, List.getElem_map, List.getElem_range]
    split
    · rename_i he; subst he; rw [if_pos (Nat.lt_succ_self _)]
    · rename_i hne; split <;> split <;> first | rfl | omega

/-! integers and strings, encoded -/
def zz (n : Int) : Nat := if n < 0 then (-n).toNat * 2 - 1 else n.toNat * 2
def vb : Nat → Nat → List UInt8
  | 0, _ => []
  | f + 1, z => if z < 128 then [UInt8.ofNat z] else UInt8.ofNat (z % 128 + 128) :: vb f (z / 128)
/-- the encoding of an integer that is not too great -/
def putI (n : Int) : List UInt8 := vb 10 (zz n)
def okI (n : Int) : Bool := decide (-4611686018427387903 ≤ n) && decide (n ≤ 4611686018427387903)
def putX (n : Int) : ByteArray := if okI n then ⟨(putI n).toArray⟩ else ⟨#[]⟩
def putS (s : ByteArray) : ByteArray := if s.size ≤ 65536 then putX s.size ++ s else ⟨#[]⟩
theorem okI_iff {n : Int} : okI n = true ↔ -4611686018427387903 ≤ n ∧ n ≤ 4611686018427387903 := by simp [okI]
theorem zz_lt {n : Int} (h : okI n = true) : zz n < 9223372036854775808 := by rw [okI_iff] at h; unfold zz; split <;> omega
theorem vb_len : ∀ (f z : Nat), (vb f z).length ≤ f
  | 0, z => by simp [vb]
  | f + 1, z => by unfold vb; split; simp; simp [vb_len f]
theorem putX_size (n : Int) : (putX n).size ≤ 10 := by
  unfold putX; split
  · exact vb_len 10 (zz n)
  · decide
theorem xor_ones {x : Nat} (h : x < 2 ^ 64) : x ^^^ 18446744073709551615 = 18446744073709551615 - x := by
  apply Nat.eq_of_testBit_eq
  intro i
  rw [Nat.testBit_xor, show (18446744073709551615 : Nat) = 2 ^ 64 - 1 from rfl, Nat.testBit_two_pow_sub_one, show 2 ^ 64 - 1 - x = 2 ^ 64 - (x + 1) by omega, Nat.testBit_two_pow_sub_succ h]
  by_cases hi : i < 64
  · simp [hi]
  · have : x.testBit i = false := Nat.testBit_lt_two_pow (Nat.lt_of_lt_of_le h (Nat.pow_le_pow_right (by decide) (by omega)))
    simp [hi, this]
theorem zz_xor {n : Int} (h : okI n = true) : ((n % 18446744073709551616).toNat * 2 ^ 1 % 18446744073709551616) ^^^ (if n < 0 then 18446744073709551615 else 0) = zz n := by
  rw [okI_iff] at h
  unfold zz
  split
  · rw [xor_ones (Nat.mod_lt _ (by decide))]; omega
  · rw [Nat.xor_zero]; omega
/-- one byte of the encoding -/
def gby (z j : Nat) : UInt8 := UInt8.ofNat (if z / 128 ^ j < 128 then z / 128 ^ j % 128 else z / 128 ^ j % 128 + 128)
theorem gby_last {z j : Nat} (h : z / 128 ^ j < 128) : z / 128 ^ j % 256 = (gby z j).toNat := by
  unfold gby; rw [if_pos h, UInt8.toNat_ofNat']
  generalize z / 128 ^ j = y at h ⊢
  show y % 256 = y % 128 % 256
  omega
theorem gby_more {z j : Nat} (h : 128 ≤ z / 128 ^ j) : (z / 128 ^ j % 128 + 128) % 256 = (gby z j).toNat := by
  unfold gby; rw [if_neg (by omega), UInt8.toNat_ofNat']
theorem div_pow_succ (z j : Nat) : z / 128 ^ (j + 1) = z / 128 ^ j / 128 := by rw [Nat.pow_succ, Nat.div_div_eq_div_mul]
theorem div_succ_pow (z j : Nat) : z / 128 ^ (j + 1) = z / 128 / 128 ^ j := by rw [Nat.pow_succ, Nat.mul_comm, Nat.div_div_eq_div_mul]
theorem gby_succ (z j : Nat) : gby z (j + 1) = gby (z / 128) j := by unfold gby; rw [div_succ_pow]
theorem vb_eq : ∀ (i f z : Nat), i < f → (∀ j, j < i → 128 ≤ z / 128 ^ j) → z / 128 ^ i < 128 → vb f z = (List.range (i + 1)).map (gby z)
  | 0, f + 1, z, _, _, h => by
    simp only [Nat.pow_zero, Nat.div_one] at h
    simp [vb, h, gby, Nat.mod_eq_of_lt h]
  | i + 1, f + 1, z, hf, hj, h => by
    have h0 := hj 0 (by omega)
    simp only [Nat.pow_zero, Nat.div_one] at h0
    have ih := vb_eq i f (z / 128) (by omega) (fun j hji => by rw [← div_succ_pow]; exact hj (j + 1) (by omega)) (by rw [← div_succ_pow]; exact h)
    rw [vb, if_neg (by omega), ih, List.range_succ_eq_map (n := i + 1), List.map_cons, List.map_map]
    congr 1
    · simp only [gby, Nat.pow_zero, Nat.div_one]; rw [if_neg (by omega)]
    · exact List.map_congr_left (fun j _ => (gby_succ z j).symm)
theorem few_groups {z i : Nat} (hz : z < 18446744073709551616) (h : ∀ j, j < i → 128 ≤ z / 128 ^ j) : i < 10 := by
  rcases Nat.lt_or_ge i 10 with h1 | h1
  · exact h1
  · have := h 9 (by omega)
    have h2 : z / 128 ^ 9 = z / 9223372036854775808 := rfl
    omega
theorem or128 {x : Nat} (h : x < 128) : x ||| 128 = x + 128 := by
  have := Nat.two_pow_add_eq_or_of_lt (i := 7) (b := x) h 1
  rw [Nat.or_comm, show (128 : Nat) = 2 ^ 7 * 1 from rfl, ← this]; omega
theorem and127 (x : Nat) : x &&& 127 = x % 128 := Nat.and_two_pow_sub_one_eq_mod x 7
end Go.Sh
namespace Go.Sh
/-- two different strings with the same digest -/
def coll1 (a b : List ByteArray) (i j : Nat) : Bool := !decide (a.getD i ⟨#[]⟩ = b.getD j ⟨#[]⟩) && decide (sha (a.getD i ⟨#[]⟩) = sha (b.getD j ⟨#[]⟩))
def collF (a b : List ByteArray) : Bool := (List.range a.length).any fun i => (List.range b.length).any fun j => coll1 a b i j
theorem collF_yes {a b : List ByteArray} {i j : Nat} (hi : i < a.length) (hj : j < b.length) (h : coll1 a b i j = true) : collF a b = true :=
  List.any_eq_true.2 ⟨i, List.mem_range.2 hi, List.any_eq_true.2 ⟨j, List.mem_range.2 hj, h⟩⟩
theorem collF_no {a b : List ByteArray} (h : ∀ i, i < a.length → ∀ j, j < b.length → coll1 a b i j = false) : collF a b = false := by
  rw [Bool.eq_false_iff]; intro hh
  obtain ⟨i, hi, hh⟩ := List.any_eq_true.1 hh
  obtain ⟨j, hj, hh⟩ := List.any_eq_true.1 hh
  rw [h i (List.mem_range.1 hi) j (List.mem_range.1 hj)] at hh; cases hh
end Go.Sh
