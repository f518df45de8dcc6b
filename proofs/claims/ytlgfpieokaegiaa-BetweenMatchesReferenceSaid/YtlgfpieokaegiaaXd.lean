/- Regions that draw their order; functions' beginnings and ends: over the small logic of XXe. No program is named here. -/
import Derived.Test.YtlgfpieokaegiaaXa
import Derived.StillTail
namespace Go.Xe
open Go Go.RowKit

/-! no panic is taken in -/
def NoP (Q : Exit → Act → World → Prop) : Exit → Act → World → Prop
  | .panic _, _, _ => False
  | .outgrown, _, _ => False
  | e, a, w => Q e a w
theorem NoP.imp {Q : Exit → Act → World → Prop} : ∀ (e : Exit) (a : Act) (w : World), NoP Q e a w → Q e a w := fun e a w h => by
  cases e <;> first | exact h | exact (h : False).elim

section
variable {P : Program} {r : Option Nat} {ops : Array Oper} {Q : Exit → Act → World → Prop}

/-- operation number i comes up -/
def opw (P : Program) (r : Option Nat) (ops : Array Oper) (Q : Exit → Act → World → Prop) (i : Nat) (N : Act → World → Prop) (a : Act) (w : World) : Prop :=
  match ops[i]? with
  | none => N a w
  | some o => if Region.wanted o (yielded ops a.tmps) then o.wpIn (FW r) 0 P a w N (NoP Q) else N (a.put o.dst undef) w

theorem opw_in {i : Nat} {N : Act → World → Prop} {a : Act} {w : World} (h : opw P r ops Q i N a w) : wpOpIn (FW r) 0 P ops (NoP Q) i N a w := by
  unfold opw at h
  unfold wpOpIn
  cases ho : ops[i]? with
  | none => simpa [ho] using h
  | some o =>
    simp only [ho] at h ⊢
    split
    · rename_i hw; simpa [hw] using h
    · rename_i hw; simp only [hw] at h; exact ⟨fun _ _ => trivial, h⟩

theorem opw_mono {i : Nat} {N N' : Act → World → Prop} {a : Act} {w : World} (hn : ∀ a w, N a w → N' a w) (h : opw P r ops Q i N a w) : opw P r ops Q i N' a w := by
  unfold opw at *
  split
  · rename_i ho; simp only [ho] at h; exact hn _ _ h
  · rename_i o ho
    simp only [ho] at h
    split
    · rename_i hw; simp only [hw, if_true] at h; exact Oper.wpIn_mono hn h
    · rename_i hw; simp only [hw] at h; exact hn _ _ h

def AnyH (P : Program) (r : Option Nat) (ops : Array Oper) (Q : Exit → Act → World → Prop) (last : Option Nat) (S : World → Prop) : Nat → Array Bool → Act → World → Prop
  | 0, listed, a, w => Region.ready .any ops listed = [] ∧ Q .normal a w
  | k + 1, listed, a, w => (Region.ready .any ops listed = [] → Q .normal a w) ∧
      ∀ i ∈ Region.ready .any ops listed, opw P r ops Q i (fun a' w' => (last = some i ∨ S w') ∧ AnyH P r ops Q last S k (listed.setIfInBounds i true) a' w') a w

theorem AnyH.any {last : Option Nat} {S : World → Prop} : ∀ (k : Nat) (listed : Array Bool) (a : Act) (w : World), AnyH P r ops Q last S k listed a w → wpAnyIn (FW r) 0 P .any ops (NoP Q) k listed a w
  | 0, _, _, _, h => h
  | k + 1, _, _, _, h => ⟨h.1, fun i hi => wpOpIn_mono (fun _ _ h' => AnyH.any k _ _ _ h'.2) (opw_in (h.2 i hi))⟩

theorem AnyH.mono {last : Option Nat} {S S' : World → Prop} (hs : ∀ w, S' w → S w) : ∀ (k : Nat) (listed : Array Bool) (a : Act) (w : World), AnyH P r ops Q last S' k listed a w → AnyH P r ops Q last S k listed a w
  | 0, _, _, _, h => h
  | k + 1, _, _, _, h => ⟨h.1, fun i hi => opw_mono (fun _ _ h' => ⟨h'.1.imp id (hs _), AnyH.mono hs k _ _ _ h'.2⟩) (h.2 i hi)⟩

theorem yieldsIf_opw {S : World → Prop} {i : Nat} {o : Oper} {v : Value} {a : Act} {w : World} {N : Act → World → Prop} (hp : plainOp o = true) (hi : ops[i]? = some o) (hy : YieldsIf P ops S o v a) (hS : S w) (h : N (a.put o.dst v) w) :
    opw P r ops Q i N a w := by
  unfold opw
  simp only [hi]
  rcases hy with ⟨hw, hv⟩ | ⟨hw, rfl⟩
  · simp only [hw, if_true]
    refine ⟨fun _ _ => trivial, ?_⟩
    rw [show (FW r).round = r from rfl, semAt_plain r o _ hp, hv w hS]
    exact h
  · simp only [hw, Bool.false_eq_true, if_false]; exact h

/-- an operation apart from oi goes as well before it as behind it -/
theorem opw_put {S : World → Prop} {j : Nat} {oi oj : Oper} {v : Value} (hpj : plainOp oj = true) (hj : ops[j]? = some oj) (hap : oi.apart ops oj = true) (hsi : ∀ cs b, oi.op ≠ .select cs b) (hsj : ∀ cs b, oj.op ≠ .select cs b)
    {N : Act → World → Prop} {a : Act} {w : World} (hy : YieldsIf P ops S oi v a) (h : opw P r ops Q j N (a.put oi.dst v) w) :
    opw P r ops Q j (fun a' w' => YieldsIf P ops S oi v a' ∧ N (a'.put oi.dst v) w') a w := by
  obtain ⟨h1, h2, h3⟩ := Oper.apart_spec hap
  have keep : ∀ u, YieldsIf P ops S oi v (a.put oj.dst u) := fun u => hy.of_same (execOp_put oi hsi a oj.dst u h3) (wanted_put oi a oj.dst u h3)
  unfold opw at *
  simp only [hj] at *
  rw [wanted_put oj a oi.dst v h1] at h
  split
  · rename_i hw
    simp only [hw, if_true] at h
    obtain ⟨-, h⟩ := h
    refine ⟨fun _ _ => trivial, ?_⟩
    rw [show (FW r).round = r from rfl, semAt_plain r oj _ hpj] at h ⊢
    rw [execOp_put oj hsj a oi.dst v h1] at h
    generalize (execOp a.eval oj).run P w = x at *
    cases x with
    | ok y w' =>
      cases y <;> simp only [Oper.uponIn] at h ⊢
      case value u => exact ⟨keep u, by rw [← Act.put_comm a v u h2]; exact h⟩
      case skip => exact ⟨keep _, by rw [← Act.put_comm a v undef h2]; exact h⟩
      case defer d =>
        have k1 : YieldsIf P ops S oi v { a with defers := d :: a.defers } := hy.of_same rfl rfl
        refine ⟨k1.of_same (execOp_put oi hsi _ oj.dst undef h3) (wanted_put oi _ oj.dst undef h3), ?_⟩
        rw [← Act.put_comm _ v undef h2, ← Act.put_defers]
        exact h
      case enter f args =>
        refine ⟨h.1, h.2.mono fun e w'' he => ?_⟩
        cases e with
        | returned u => exact ⟨keep u, by rw [← Act.put_comm a v u h2]; exact he⟩
        | panicked c => exact he
        | outgrown => exact he
      case row row args => exact ⟨h.1, h.2.mono fun u w'' he => ⟨keep u, by rw [← Act.put_comm a v u h2]; exact he⟩⟩
      case round l f tmps assign body =>
        refine ⟨h.1, h.2.mono fun e w'' he => ?_⟩
        cases e with
        | returned u => exact ⟨keep u, by rw [← Act.put_comm a v u h2]; exact he⟩
        | panicked c => exact he
        | outgrown => exact he
    | halt x w' => cases x <;> simp only [Oper.uponIn] at h ⊢ <;> exact h
  · rename_i hw
    simp only [hw] at h
    exact ⟨keep _, by rw [← Act.put_comm a v undef h2]; exact h⟩

def allPlain (ops : Array Oper) : Bool := ops.all plainOp
theorem allPlain_at (h : allPlain ops = true) {j : Nat} {o : Oper} (ho : ops[j]? = some o) : plainOp o = true := Array.all_eq_true_iff_forall_mem.1 h o (Array.mem_of_getElem? ho)

/-- the last operation, if it is said which one, waits for all others -/
def lastB (ops : Array Oper) : Option Nat → Bool
  | none => true
  | some n => decide (n + 1 = ops.size) && Region.sinkB .any ops n && Region.chainB .any ops n
def LastInv (ops : Array Oper) (last : Option Nat) (listed : Array Bool) : Prop := ∀ n, last = some n → HeadInv .any ops n listed

theorem LastInv.set {last : Option Nat} {listed : Array Bool} {j : Nat} (h : LastInv ops last listed) (hj : j ∈ Region.ready .any ops listed) (hl : lastB ops last = true) (hne : last ≠ some j) : LastInv ops last (listed.setIfInBounds j true) := by
  intro n hn
  subst hn
  simp only [lastB, Bool.and_eq_true, decide_eq_true_eq] at hl
  have hlt : j < ops.size := by
    obtain ⟨_, o, ho, _⟩ := mem_ready.1 hj
    exact (Array.getElem?_eq_some_iff.1 ho).1
  have : j ≠ n := fun e => hne (by rw [e])
  exact (h n rfl).set hj (by omega)

theorem LastInv.not {last : Option Nat} {listed : Array Bool} {i j : Nat} (h : LastInv ops last listed) (hl : lastB ops last = true) (hi : i ∈ Region.ready .any ops listed) (hj : j ∈ Region.ready .any ops listed) (hne : j ≠ i) : last ≠ some j := by
  intro e
  subst e
  have hinv := h j rfl
  simp only [lastB, Bool.and_eq_true, decide_eq_true_eq] at hl
  obtain ⟨⟨h1, h2⟩, h3⟩ := hl
  obtain ⟨hun, o, ho, _⟩ := mem_ready.1 hi
  have hlt : i < ops.size := (Array.getElem?_eq_some_iff.1 ho).1
  exact tail_waits h2 h3 (by omega) hinv (j - i) i rfl (by omega) hun j (Nat.le_refl _) hj

theorem AnyH.first {last : Option Nat} {S : World → Prop} (hl : lastB ops last = true) (hpl : allPlain ops = true) (hsel : Region.noSelect ops = true) {i : Nat} {oi : Oper} {v : Value} (hi : ops[i]? = some oi) :
    ∀ (k : Nat) (listed : Array Bool) (a : Act) (w : World), LastInv ops last listed →
      (∀ j oj, ops[j]? = some oj → j ≠ i → listed.getD j true = false → (∀ e ∈ oj.after, Region.binds .any e = true → e.on ≠ i) → oi.apart ops oj = true) →
      i ∈ Region.ready .any ops listed → YieldsIf P ops S oi v a → S w →
      AnyH P r ops Q last S k (listed.setIfInBounds i true) (a.put oi.dst v) w → AnyH P r ops Q last S (k + 1) listed a w := by
  have hs := fun j o cs b ho => Region.noSelect_spec hsel j o cs b ho
  intro k
  induction k with
  | zero =>
    intro listed a w _ _ hr hy hS H
    refine ⟨fun h => (by rw [h] at hr; cases hr), fun j hj => ?_⟩
    by_cases hji : j = i
    · subst hji; exact yieldsIf_opw (allPlain_at hpl hi) hi hy hS ⟨.inr hS, H⟩
    · have := ready_mono hj hji
      rw [H.1] at this
      cases this
  | succ k ih =>
    intro listed a w hinv hfree hr hy hS H
    refine ⟨fun h => (by rw [h] at hr; cases hr), fun j hj => ?_⟩
    by_cases hji : j = i
    · subst hji; exact yieldsIf_opw (allPlain_at hpl hi) hi hy hS ⟨.inr hS, H⟩
    · have h1 := H.2 j (ready_mono hj hji)
      obtain ⟨hjun, oj, hoj, hall⟩ := mem_ready.1 hj
      have hlast := hinv.not hl hr hj hji
      have hnot : ∀ e ∈ oj.after, Region.binds .any e = true → e.on ≠ i := fun e he hb heq => by
        have h1 := hall e he hb
        have h0 := (mem_ready.1 hr).1
        rw [heq] at h1
        rcases Nat.lt_or_ge i listed.size with h' | h'
        · simp [h'] at h0 h1; rw [h0] at h1; cases h1
        · simp [Array.getElem?_eq_none h'] at h1
      have h2 := opw_put (allPlain_at hpl hoj) hoj (hfree j oj hoj hji hjun hnot) (fun cs b => hs i oi cs b hi) (fun cs b => hs j oj cs b hoj) hy h1
      have hfree' : ∀ m om, ops[m]? = some om → m ≠ i → (listed.setIfInBounds j true).getD m true = false →
          (∀ e ∈ om.after, Region.binds .any e = true → e.on ≠ i) → oi.apart ops om = true := fun m om hm hmi hun hno => by
        refine hfree m om hm hmi ?_ hno
        by_cases hjm : j = m
        · subst hjm; exact hjun
        · rw [getD_set_ne true hjm] at hun; exact hun
      refine opw_mono (fun a' w' h3 => ?_) h2
      obtain ⟨h3, h4, h5⟩ := h3
      have hS' : S w' := h4.resolve_left hlast
      refine ⟨.inr hS', ih (listed.setIfInBounds j true) a' w' (hinv.set hj hl hlast) hfree' (ready_mono hr (Ne.symm hji)) h3 hS' ?_⟩
      rw [Array.setIfInBounds_comm _ _ hji]
      exact h5

/-! one order for all; where several effects may come up, all of them in turn -/
inductive Sched where
  | done
  | pure (i : Nat) (k : Sched)
  | eff (i : Nat) (k : Sched)
  | alt (i : Nat) (k : Sched) (rest : Sched)
def Sched.heads : Sched → List Nat
  | .eff i _ => [i]
  | .alt i _ r => i :: r.heads
  | _ => []
def Sched.isDone : Sched → Bool | .done => true | _ => false
def Sched.brB (f : Sched → Array Bool → Bool) (last : Option Nat) (listed : Array Bool) : Sched → Bool
  | .eff i σ => (!(last == some i) || σ.isDone) && f σ (listed.setIfInBounds i true)
  | .alt i σ r => ((!(last == some i) || σ.isDone) && f σ (listed.setIfInBounds i true)) && r.brB f last listed
  | _ => false
def canonB (ops : Array Oper) (last : Option Nat) : Nat → Sched → Array Bool → Bool
  | 0, .done, listed => (Region.ready .any ops listed).isEmpty
  | k + 1, .pure i σ, listed => (Region.ready .any ops listed).contains i && Region.free .any ops listed i && !(last == some i) && canonB ops last k σ (listed.setIfInBounds i true)
  | k + 1, .eff i σ, listed => !(Region.ready .any ops listed).isEmpty && (Region.ready .any ops listed).all (fun j => (Sched.eff i σ).heads.contains j) && (Sched.eff i σ).brB (canonB ops last k) last listed
  | k + 1, .alt i σ r, listed => !(Region.ready .any ops listed).isEmpty && (Region.ready .any ops listed).all (fun j => (Sched.alt i σ r).heads.contains j) && (Sched.alt i σ r).brB (canonB ops last k) last listed
  | _, _, _ => false

def RunC (P : Program) (r : Option Nat) (ops : Array Oper) (Q : Exit → Act → World → Prop) (last : Option Nat) : Sched → (World → Prop) → Act → World → Prop
  | .done, _, a, w => Q .normal a w
  | .pure i σ, S, a, w => ∃ o v, ops[i]? = some o ∧ YieldsIf P ops S o v a ∧ RunC P r ops Q last σ S (a.put o.dst v) w
  | .eff i σ, S, a, w => opw P r ops Q i (fun a' w' => ∃ S' : World → Prop, (∀ x, S' x → S x) ∧ (last = some i ∨ S' w') ∧ RunC P r ops Q last σ S' a' w') a w
  | .alt i σ rest, S, a, w => opw P r ops Q i (fun a' w' => ∃ S' : World → Prop, (∀ x, S' x → S x) ∧ (last = some i ∨ S' w') ∧ RunC P r ops Q last σ S' a' w') a w ∧ RunC P r ops Q last rest S a w

theorem RunC.branch {last : Option Nat} {f : Sched → Array Bool → Bool} {listed : Array Bool} {S : World → Prop} {a : Act} {w : World} {j : Nat} : ∀ (σ : Sched), σ.brB f last listed = true → j ∈ σ.heads → RunC P r ops Q last σ S a w →
    ∃ σ', (!(last == some j) || σ'.isDone) = true ∧ f σ' (listed.setIfInBounds j true) = true ∧ opw P r ops Q j (fun a' w' => ∃ S' : World → Prop, (∀ x, S' x → S x) ∧ (last = some j ∨ S' w') ∧ RunC P r ops Q last σ' S' a' w') a w
  | .done, h, _, _ => by simp [Sched.brB] at h
  | .pure i σ, h, _, _ => by simp [Sched.brB] at h
  | .eff i σ, h, hj, hr => by
    simp only [Sched.heads, List.mem_singleton] at hj
    subst hj
    simp only [Sched.brB, Bool.and_eq_true] at h
    exact ⟨σ, h.1, h.2, hr⟩
  | .alt i σ rest, h, hj, hr => by
    simp only [Sched.brB, Bool.and_eq_true] at h
    simp only [Sched.heads, List.mem_cons] at hj
    rcases hj with rfl | hj
    · exact ⟨σ, h.1.1, h.1.2, hr.1⟩
    · exact RunC.branch rest h.2 hj hr.2

theorem AnyH.of_branch {last : Option Nat} (hl : lastB ops last = true) {k : Nat} {σ : Sched} {S : World → Prop} {listed : Array Bool} {a : Act} {w : World}
    (ih : ∀ (σ : Sched) (S : World → Prop) (listed : Array Bool) (a : Act) (w : World), canonB ops last k σ listed = true → LastInv ops last listed → S w → RunC P r ops Q last σ S a w → AnyH P r ops Q last S k listed a w)
    (ih0 : ∀ (σ : Sched) (S : World → Prop) (listed : Array Bool) (a : Act) (w : World), σ.isDone = true → canonB ops last k σ listed = true → RunC P r ops Q last σ S a w → AnyH P r ops Q last S k listed a w)
    (hc : (!(Region.ready .any ops listed).isEmpty && (Region.ready .any ops listed).all (fun j => σ.heads.contains j) && σ.brB (canonB ops last k) last listed) = true)
    (hinv : LastInv ops last listed) (hh : RunC P r ops Q last σ S a w) : AnyH P r ops Q last S (k + 1) listed a w := by
  simp only [Bool.and_eq_true] at hc
  obtain ⟨⟨h1, h2⟩, h3⟩ := hc
  refine ⟨fun h0 => (by rw [h0] at h1; simp at h1), fun j hj => ?_⟩
  have hjh : j ∈ σ.heads := by simpa using List.all_eq_true.1 h2 j hj
  obtain ⟨σ', h4, h5, h6⟩ := RunC.branch σ h3 hjh hh
  refine opw_mono (fun a' w' h' => ?_) h6
  obtain ⟨S', hs, h7, h8⟩ := h'
  by_cases hlast : last = some j
  · simp only [hlast, beq_self_eq_true, Bool.not_true, Bool.false_or] at h4
    exact ⟨.inl hlast, AnyH.mono hs _ _ _ _ (ih0 σ' S' _ _ w' h4 h5 h8)⟩
  · have hS' := h7.resolve_left hlast
    exact ⟨.inr (hs _ hS'), AnyH.mono hs _ _ _ _ (ih σ' S' _ _ w' h5 (hinv.set hj hl hlast) hS' h8)⟩

theorem RunC.done_any {last : Option Nat} : ∀ (k : Nat) (σ : Sched) (S : World → Prop) (listed : Array Bool) (a : Act) (w : World), σ.isDone = true → canonB ops last k σ listed = true → RunC P r ops Q last σ S a w → AnyH P r ops Q last S k listed a w
  | 0, .done, S, listed, a, w, _, hc, h => ⟨by simpa [canonB] using hc, h⟩
  | 0, .pure .., _, _, _, _, hd, _, _ => by simp [Sched.isDone] at hd
  | 0, .eff .., _, _, _, _, hd, _, _ => by simp [Sched.isDone] at hd
  | 0, .alt .., _, _, _, _, hd, _, _ => by simp [Sched.isDone] at hd
  | k + 1, .done, _, _, _, _, _, hc, _ => by simp [canonB] at hc
  | k + 1, .pure .., _, _, _, _, hd, _, _ => by simp [Sched.isDone] at hd
  | k + 1, .eff .., _, _, _, _, hd, _, _ => by simp [Sched.isDone] at hd
  | k + 1, .alt .., _, _, _, _, hd, _, _ => by simp [Sched.isDone] at hd

theorem RunC.any {last : Option Nat} (hl : lastB ops last = true) (hpl : allPlain ops = true) (hsel : Region.noSelect ops = true) :
    ∀ (k : Nat) (σ : Sched) (S : World → Prop) (listed : Array Bool) (a : Act) (w : World), canonB ops last k σ listed = true → LastInv ops last listed → S w → RunC P r ops Q last σ S a w → AnyH P r ops Q last S k listed a w
  | 0, .done, S, listed, a, w, hc, _, _, h => ⟨by simpa [canonB] using hc, h⟩
  | 0, .pure .., _, _, _, _, hc, _, _, _ => by simp [canonB] at hc
  | 0, .eff .., _, _, _, _, hc, _, _, _ => by simp [canonB] at hc
  | 0, .alt .., _, _, _, _, hc, _, _, _ => by simp [canonB] at hc
  | k + 1, .done, _, _, _, _, hc, _, _, _ => by simp [canonB] at hc
  | k + 1, .pure i σ, S, listed, a, w, hc, hinv, hS, hh => by
    obtain ⟨o, v, ho, hy, h⟩ := hh
    simp only [canonB, Bool.and_eq_true] at hc
    obtain ⟨⟨⟨h1, h2⟩, h3⟩, h4⟩ := hc
    have hr : i ∈ Region.ready .any ops listed := by simpa using h1
    exact AnyH.first hl hpl hsel ho k listed a w hinv (Region.free_spec ho h2) hr hy hS
      (RunC.any hl hpl hsel k σ S _ _ w h4 (hinv.set hr hl (by simpa using h3)) hS h)
  | k + 1, .eff i σ, S, listed, a, w, hc, hinv, hS, h =>
    AnyH.of_branch hl (RunC.any hl hpl hsel k) (RunC.done_any k) (by simpa only [canonB] using hc) hinv h
  | k + 1, .alt i σ rest, S, listed, a, w, hc, hinv, hS, h =>
    AnyH.of_branch hl (RunC.any hl hpl hsel k) (RunC.done_any k) (by simpa only [canonB] using hc) hinv h

/-- what is asked of a region's text, once -/
def drawB (ops : Array Oper) (last : Option Nat) (σ : Sched) : Bool :=
  lastB ops last && allPlain ops && Region.noSelect ops && canonB ops last ops.size σ (Array.replicate ops.size false)

theorem wpIn_draw {id : Nat} {l : List Oper} {last : Option Nat} {σ : Sched} {S : World → Prop} {a : Act} {w : World} (hm : P.follows .mixedOrders = true) (hB : drawB l.toArray last σ = true) (hS : S w.drew)
    (h : RunC P r l.toArray Q last σ S a w.drew) : (Code.region id l.toArray true).wpIn (FW r) 0 P Q a w := by
  simp only [drawB, Bool.and_eq_true] at hB
  obtain ⟨⟨⟨h1, h2⟩, h3⟩, h5⟩ := hB
  refine wpIn_mono (Q := NoP Q) (wpIn_region_any hm ?_) NoP.imp
  have hinv : LastInv l.toArray last (Array.replicate l.toArray.size false) := by
    intro n hn
    refine ⟨by simp, fun j oj hj hl => ?_, fun t ht ht' => ?_⟩
    · rw [getD_replicate_false] at hl; cases hl
    · have : t < l.toArray.size := ht'
      simp [Array.getD] at this ⊢
      exact this
  exact AnyH.any _ _ _ _ (RunC.any h1 h2 h3 _ σ S _ a w.drew h5 hinv hS h)
end
end Go.Xe
