/- Layers 18, 20, 21: ticks, reading back, requests, in plain Lean. -/
import Derived.Test.YtalgfekpcklijaaGreatDla
import Derived.Test.YtalgfekpcklijaaGreatGta
namespace Go.Proofs.YtalgfekpcklijaaGreat.Dv
open Go.RowKit Go.Proofs.YtalgfekpcklijaaGreat.Kt Go.Proofs.YtalgfekpcklijaaGreat.Lw Go.Proofs.YtalgfekpcklijaaGreat.St Go.Proofs.YtalgfekpcklijaaGreat.Nm Go.Proofs.YtalgfekpcklijaaGreat.Es Go.Proofs.YtalgfekpcklijaaGreat.By Go.Proofs.YtalgfekpcklijaaGreat.En Go.Proofs.YtalgfekpcklijaaGreat.Jr Go.Proofs.YtalgfekpcklijaaGreat.Im Go.Proofs.YtalgfekpcklijaaGreat.Sl Go.Proofs.YtalgfekpcklijaaGreat.Gr Go.Proofs.YtalgfekpcklijaaGreat.Ops Go.Proofs.YtalgfekpcklijaaGreat.Ch Go.Proofs.YtalgfekpcklijaaGreat.Fl Go.Proofs.YtalgfekpcklijaaGreat.Pl
set_option linter.unusedVariables false
set_option linter.unusedSimpArgs false
/-- may a block be read back? -/
def upOk (f : ByteArray) (d : DS) (b l : Int) : Bool := bothB f d && ((d.st == 0 || d.st == 6) && (rngB b 0 65535 && rngB l 0 32))
def upNext (d : DS) : Int := if d.st = 0 then 0 else d.nx
/-- the bytes of the active image from a block on, so many. -/
def upB (s : ByteArray) (k l : Nat) : ByteArray := s.extract (min s.size (32 * k)) (min s.size (min s.size (32 * k) + l))
def upT (f : ByteArray) (d : DS) (b l : Int) : ByteArray := match activeO f with
  | some p => if b = upNext d then upB (imgB f p.s p.z) (upNext d).toNat l.toNat else ⟨#[]⟩
  | none => ⟨#[]⟩
def upD (f : ByteArray) (d : DS) (b l : Int) : DS := match activeO f with
  | some p => if b = upNext d then (if (upT f d b l).size < 32 then DS.zero else ⟨6, d.su, min (upNext d + 1) 16, d.go, d.sl, d.ops⟩) else DS.fail 4
  | none => DS.fail 2
theorem upB_size (s : ByteArray) (k l : Nat) : (upB s k l).size ≤ l := by
  unfold upB
  rw [ByteArray.size_extract]
  omega
/-- the program cuts twice. -/
theorem up_two (s : ByteArray) (k l : Nat) : (s.extract (min (32 * k) s.size) s.size).extract 0 (min l (s.size - min (32 * k) s.size)) = upB s k l := by
  unfold upB
  rw [ByteArray.extract_extract]
  congr 1 <;> omega
end Go.Proofs.YtalgfekpcklijaaGreat.Dv
