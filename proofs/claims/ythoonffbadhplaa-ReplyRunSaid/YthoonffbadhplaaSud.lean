/- Layer 11: files read: what the program's and the references' functions answer. -/
import Derived.Test.YthoonffbadhplaaSuc
namespace Go.Proofs.Ythoonffbadhplaa.Sf
open Go.RowKit Go.Proofs.Ythoonffbadhplaa.Kt Go.Proofs.Ythoonffbadhplaa.Lw Go.Proofs.Ythoonffbadhplaa.St Go.Proofs.Ythoonffbadhplaa.Nm Go.Proofs.Ythoonffbadhplaa.Ic Go.Proofs.Ythoonffbadhplaa.Cr
set_option linter.unusedVariables false
set_option linter.unusedSimpArgs false
/-- has a text a suffix's form? -/
def parM (s : ByteArray) : Bool := (s.extract (s.size - 16 + 6) (s.size - 16 + 12)).toList == [0, 1, 85, 70, 68, 16]
def parF (s : ByteArray) : Bool := rngB ((s.size : Int) - 16) 1 288 && parM s
def parS (s : ByteArray) : Bool := numB (s.extract (s.size - 16 + 12) s.size) == crcB (s.extract 0 (s.size - 16 + 12))
def parOk (s : ByteArray) : Bool := parF s && parS s
def parE (s : ByteArray) : Int := bif parF s then (bif parS s then 0 else 1101) else 1100
def parB (s : ByteArray) : ByteArray := bif parOk s then s.extract 0 (s.size - 16) else ⟨#[]⟩
def parR (s : ByteArray) : Int := bif parOk s then numB (s.extract (s.size - 16) (s.size - 16 + 2)) else 0
def parP (s : ByteArray) : Int := bif parOk s then numB (s.extract (s.size - 16 + 2) (s.size - 16 + 4)) else 0
def parV (s : ByteArray) : Int := bif parOk s then numB (s.extract (s.size - 16 + 4) (s.size - 16 + 6)) else 0
-- left out: pid_c
theorem far3 {W : World} {g b : Nat} {v0 v1 v2 u : Value} (hne : b ≠ g) (h : W.cell? ⟨b, 0, none⟩ = some u) : (((W.setCell ⟨g, 0, none⟩ v0).setCell ⟨g, 1, none⟩ v1).setCell ⟨g, 2, none⟩ v2).drew.cell? ⟨b, 0, none⟩ = some u := by
  show (((W.setCell ⟨g, 0, none⟩ v0).setCell ⟨g, 1, none⟩ v1).setCell ⟨g, 2, none⟩ v2).cell? ⟨b, 0, none⟩ = some u
  have e := fun (V : World) (i : Nat) (v : Value) => World.cell?_setCell_other V ⟨g, i, none⟩ ⟨b, 0, none⟩ v (fun h => hne (congrArg Addr.block h).symm)
  rw [e, e, e]
  exact h
def parV3 (s : ByteArray) : Value := .tuple #[.string (parB s), .agg #[.int .i64 (parV s), .int .i64 (parP s), .int .i64 (parR s)], .int .i64 (parE s)]
theorem parV3_form {s : ByteArray} (h : parF s = false) : parV3 s = .tuple #[.string ⟨#[]⟩, .agg #[.int .i64 0, .int .i64 0, .int .i64 0], .int .i64 1100] := by
  simp [parV3, parB, parV, parP, parR, parE, parOk, h]
theorem parV3_sum {s : ByteArray} (h : parF s = true) (h2 : parS s = false) : parV3 s = .tuple #[.string ⟨#[]⟩, .agg #[.int .i64 0, .int .i64 0, .int .i64 0], .int .i64 1101] := by
  simp [parV3, parB, parV, parP, parR, parE, parOk, h, h2]
theorem parV3_ok {s : ByteArray} {k : Nat} (hk : s.size = k + 16) (h : parF s = true) (h2 : parS s = true) : parV3 s = .tuple #[.string (s.extract 0 k), .agg #[.int .i64 (numB (s.extract (k + 4) (k + 6))), .int .i64 (numB (s.extract (k + 2) (k + 4))), .int .i64 (numB (s.extract k (k + 2)))], .int .i64 0] := by
  simp [parV3, parB, parV, parP, parR, parE, parOk, h, h2, hk]
-- left out: parse_c
end Go.Proofs.Ythoonffbadhplaa.Sf
