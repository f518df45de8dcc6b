/- The chapter's examples, told plainly. -/
import Derived.Test.YtkjhhifhgcihpaaDoorK1
namespace Go.Lk
open Go Go.Xe Go.Sh
def sX : ByteArray := ⟨#[120]⟩
def sY : ByteArray := ⟨#[121]⟩
def sZ : ByteArray := ⟨#[122]⟩
def sW : ByteArray := ⟨#[119]⟩
def S3 : List ByteArray := [sX, sY, sZ]
def A0 : LEnd := newF (keyB 0) (keyB 1)
def B0 : LEnd := newF (keyB 1) (keyB 0)
def A1 : LEnd := { A0 with sent := [sX] }
def A2 : LEnd := { A0 with sent := [sX, sY] }
def A3 : LEnd := { A0 with sent := [sX, sY, sZ] }
theorem sane_s1 : sendF A0 sX = (A1, 0) := rfl
theorem sane_s2 : sendF A1 sY = (A2, 0) := rfl
theorem sane_s3 : sendF A2 sZ = (A3, 0) := rfl
def wantP (i : Nat) : Pkt := ⟨(i : Int) + 1, 0, S3.getD i ⟨#[]⟩, ⟨#[]⟩⟩
def PF (i : Nat) : Pkt := sealed (keyB 0) (wantP i)
theorem sane_out : outF A3 = [PF 0, PF 1, PF 2] := rfl
def inG (x : LEnd) (p : Pkt) : LEnd × List ByteArray × Int :=
  let y := takeF x p
  let r := drainF 101 y.got y.early
  ({ y with got := r.2.1, early := r.2.2 }, r.1, 0)
theorem inF_yes {x : LEnd} {p : Pkt} (hg : genF x.other p = true) (ha : p.ack ≤ x.sent.length) : inF x p = inG x p := if_pos ⟨hg, ha⟩
theorem gen_sealed {key : ByteArray} {p : Pkt} (hk : key.size = 32) (hf : Form (sealed key p)) : genF key (sealed key p) = true := (genF_iff _ _).2 ⟨hk, hf, rfl⟩
theorem S3_size (i : Nat) : (S3.getD i ⟨#[]⟩).size ≤ 1 := by
  match i with
  | 0 | 1 | 2 => decide
  | i + 3 => simp [S3]; decide
theorem wantP_in {i : Nat} (h : i < 3) : (wantP i).In := ⟨by simp only [wantP]; omega, by simp only [wantP]; omega, by have := S3_size i; simp only [wantP]; omega⟩
theorem PF_in {i : Nat} (h : i < 3) : (PF i).In := ⟨(wantP_in h).ser, (wantP_in h).ack, (wantP_in h).body⟩
theorem PF_form {i : Nat} (h : i < 3) : Form (PF i) :=
  ⟨by simp only [PF, sealed, wantP]; omega, by simp only [PF, sealed, wantP]; omega, by simp only [PF, sealed, wantP]; omega, by simp only [PF, sealed, wantP]; omega, by have := S3_size i; simp only [PF, sealed, wantP]; omega, fun h0 => by simp only [PF, sealed, wantP] at h0; omega, sealF_size _ _⟩
theorem PF_gen {i : Nat} (h : i < 3) : genF (keyB 0) (PF i) = true := gen_sealed (keyB_size 0) (PF_form h)
theorem PF_other : ∀ i, i < 3 → genF (keyB 1) (PF i) = false := by decide +kernel
def B1 : LEnd := (inG B0 (PF 1)).1
def B2 : LEnd := (inG B1 (PF 0)).1
def B3 : LEnd := (inG B2 (PF 1)).1
def PA : Pkt := sealed (keyB 1) ⟨0, 2, ⟨#[]⟩, ⟨#[]⟩⟩
def A4 : LEnd := (inG A3 PA).1
def oddP : Pkt := { PF 2 with body := sW }
theorem sane_i1 : inF B0 (PF 1) = (B1, [], 0) := (inF_yes (PF_gen (by decide)) (by decide)).trans (Prod.ext rfl (by decide +kernel))
theorem sane_i2 : inF B1 (PF 0) = (B2, [sX, sY], 0) := (inF_yes (PF_gen (by decide)) (by decide)).trans (Prod.ext rfl (by decide +kernel))
theorem sane_i3 : inF B2 (PF 1) = (B3, [], 0) := (inF_yes (PF_gen (by decide)) (by decide)).trans (Prod.ext rfl (by decide +kernel))
theorem B3_got : B3.got = 2 := by decide +kernel
theorem sane_out2 : outF B3 = [PA] := by
  show [sealed (keyB 1) ⟨0, (B3.got : Int), ⟨#[]⟩, ⟨#[]⟩⟩] = _
  rw [B3_got]; rfl
theorem PA_form : Form PA := ⟨by decide, by decide, by decide, by decide, by decide, fun _ => rfl, sealF_size _ _⟩
theorem PA_in : PA.In := ⟨by decide, by decide, by decide⟩
theorem PA_gen : genF (keyB 1) PA = true := gen_sealed (key := keyB 1) (p := ⟨0, 2, ⟨#[]⟩, ⟨#[]⟩⟩) (keyB_size 1) PA_form
theorem sane_i4 : inF A3 PA = (A4, [], 0) := (inF_yes (x := A3) PA_gen (by decide)).trans (Prod.ext rfl (by decide +kernel))
theorem sane_out3 : outF A4 = [PF 2] := rfl
theorem odd_gen : genF (keyB 0) oddP = false := by decide +kernel
theorem odd_in : oddP.In := ⟨(PF_in (by decide : 2 < 3)).ser, (PF_in (by decide : 2 < 3)).ack, by decide⟩
theorem sane_i5 : inF B3 oddP = (B3, [], 410) := inF_no (fun h => by have := h.1; rw [show B3.other = keyB 0 from rfl, odd_gen] at this; cases this)
theorem PF_seal : (PF 0).sl = node (keyB 0) (leaf ⟨#[16, 2, 0, 2, 120]⟩) := by
  have : content (wantP 0) = ⟨#[16, 2, 0, 2, 120]⟩ := by decide +kernel
  show sealF (keyB 0) (wantP 0) = _
  rw [sealF, this]
theorem PF3_get {k : Nat} (h : k < 3) : [PF 0, PF 1, PF 2][k]'h = PF k := by
  match k, h with
  | 0, _ | 1, _ | 2, _ => rfl
/-- a packet whose strings are cut -/
def shortF (p : Pkt) : Pkt := { p with body := p.body.extract 0 (min p.body.size 201), sl := p.sl.extract 0 (min p.sl.size 33) }
end Go.Lk
