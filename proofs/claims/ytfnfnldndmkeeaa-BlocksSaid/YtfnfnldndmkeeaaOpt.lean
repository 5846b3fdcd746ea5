/- Arguments opened: rows of texts. -/
import Derived.Test.YtfnfnldndmkeeaaOpi
import Derived.Test.YtfnfnldndmkeeaaBkl
namespace Go.Proofs.Ytfnfnldndmkeeaa.Ot
open Go.ChangeShapes Go.WideShapes Go.ChangeAt Go.RowKit Go.Joins Go.Deep Go.Proofs.Ytfnfnldndmkeeaa.Kt Go.Proofs.Ytfnfnldndmkeeaa.Sl Go.Proofs.Ytfnfnldndmkeeaa.Bk Go.Proofs.Ytfnfnldndmkeeaa.Oi
set_option linter.unusedVariables false
set_option linter.unusedSimpArgs false
section
variable {H : Type} {enc : TypeId × Value → H} {w : World} {base : Nat} {spare : Nat → Bool} {held : Bool}
theorem cells_string : Try.prog.cellsOf 9 = 1 := by kernel_rfl
theorem texts_open {t0 : Nat} {v : Value} {d : DataW H} {p : List MemPlace} (hv : Value.okWide Try.prog w .any t0 57 v) (h : DataW.Trod enc Try.prog w base spare held 57 v d p)
    (hsz : ∀ m ∈ d.weights Try.prog 57, m ≤ reachBytes) :
    ∃ A n c xs, v = .slice A n c ∧ xs.length = n ∧ Txt w A xs ∧ (n + 2) * 16 ≤ 140737488355328 := by
  obtain ⟨fuel, hf⟩ := h
  obtain ⟨a, len, cap, rfl⟩ := okWide_slice Try.underlying57 hv
  obtain ⟨A, n, c, xs, e, h1, h2, h3, h4, h5⟩ := slice_rd (en := encS) (Q := fun s => s.size ≤ 9223372036854775807) Try.underlying57 cells_string (by decide) (fun _ => rfl) (fun n cs' y hy => by
    obtain ⟨o, e, _, hs⟩ := DataW.trod_string Try.underlying9 hy
    exact ⟨o, e, by simp only [maxLen] at hs; exact hs⟩) hf
  have e' : [Value.slice a len cap] = [Value.slice A n c] := e
  injection e' with e'
  have hb : n * 16 ≤ 140737488351232 := by
    rcases h5 with ⟨_, h0⟩ | ⟨elems, sp, hy, he⟩
    · subst h0; decide
    · have hw : (elems.length + sp.length) * Try.prog.bytesOf 9 ≤ reachBytes := by
        apply hsz
        have hd : d = .slice elems sp := hy
        rw [hd]
        simp only [DataW.weights, Try.underlying57]
        simp
      rw [show Try.prog.bytesOf 9 = 16 by kernel_rfl] at hw
      have : reachBytes = 140737488351232 := rfl
      omega
  exact ⟨A, n, c, xs, e', h1, ⟨h2, by omega, h3⟩, by omega⟩
end
theorem blocks_w (s : ByteArray) (A : Option Addr) (c n : Nat) (xs : List ByteArray) (w : World) (hs : s.size ≤ 9223372036854775807) (hl : Txt w A xs) (hn : xs.length = n) (hby : (n + 2) * 16 ≤ 140737488355328) :
    Calls Try.prog 11 #[.string s, .slice A n c] w fun e w' => e = .returned (.bool true) ∧ Below w.heap.size w w' := by
  cases hr : Go.Proofs.Ytfnfnldndmkeeaa.Kt.rngB (s.size : Int) 1 288
  · exact blocks_n s A c n xs w hs hr hl hn hby
  · exact blocks_y s A c n xs w hr hl hn hby
end Go.Proofs.Ytfnfnldndmkeeaa.Ot
