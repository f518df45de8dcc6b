/- Walks of layer 6: at most so many numbers. -/
import Derived.Test.YtlgfpieokaegiaaB1
namespace Go.Proofs.Ytlgfpieokaegiaa
open Go.Xe

theorem short_any (a : Option Addr) (cap : Nat) (l : List Int) (I : Im) (hcap : l.length ≤ cap) : FC Try.prog 11 [.slice a l.length cap] I (fun u I' => u = .slice a (l.take 20).length cap ∧ I' = I) := by
  refine FSo.intro (n := 8) Try.func11 rfl rfl rfl (fun K Lf => ?_)
  refine XC.seq ?_
  refine XC.region ?_
  refine XO.rd rfl rfl rfl (Reads.assign rfl) ?_
  refine XO.nil ?_
  refine XQ.then_normal ?_
  refine XC.seq ?_
  refine XC.region ?_
  refine XO.rd rfl rfl rfl (Reads.move rfl) ?_
  refine XO.rd rfl rfl rfl (Reads.move rfl) ?_
  refine XO.rd rfl rfl rfl (Reads.len_slice Try.underlying22 rfl) ?_
  refine XO.rd rfl rfl rfl (Reads.min rfl rfl) ?_
  refine XO.rd rfl rfl rfl (Reads.slice_to Try.underlying22 z3 rfl rfl (by omega)) ?_
  rw [show (min (l.length : Int) 20).toNat = (l.take 20).length by rw [List.length_take]; omega]
  refine XO.rd rfl rfl rfl (Reads.assign rfl) ?_
  refine XO.nil ?_
  refine XQ.then_normal ?_
  refine XC.ret ?_
  refine XQ.done1 rfl rfl (Im.le_refl _) ?_
  exact ⟨rfl, rfl, rfl⟩

end Go.Proofs.Ytlgfpieokaegiaa
