/- Layer 10: the law's walk: BlockForms. -/
import Derived.Test.YtfnfnldndmkeeaaBkv
import Derived.Test.YtfnfnldndmkeeaaBits
import Derived.Test.YtfnfnldndmkeeaaByt
namespace Go.Proofs.Ytfnfnldndmkeeaa.Bk
open Go.RowKit Go.Proofs.Ytfnfnldndmkeeaa.Kt Go.Proofs.Ytfnfnldndmkeeaa.Lw Go.Proofs.Ytfnfnldndmkeeaa.St Go.Proofs.Ytfnfnldndmkeeaa.Nm Go.Proofs.Ytfnfnldndmkeeaa.Sl Go.Proofs.Ytfnfnldndmkeeaa.Bt Go.Proofs.Ytfnfnldndmkeeaa.By
set_option linter.unusedVariables false
set_option linter.unusedSimpArgs false
def zeros (n : Nat) : ByteArray := strOfNums (List.replicate n 0)
theorem zeros_size (n : Nat) : (zeros n).size = n := by simp [zeros, strOfNums, ByteArray.size]
theorem newE {w : World} {g : Nat} {cs : Array Value} {T : TypeId} (h : g = w.heap.size) : Blk (w.alloc (.cells cs T)) g cs T := by subst h; exact Blk.new w cs T
theorem blk_txt {w : World} {g : Nat} {T : TypeId} {xs : List ByteArray} (h : Blk w g (xs.map Value.string).toArray T) (hn : xs.length ≤ 140737488355328) (hs : ∀ s ∈ xs, s.size ≤ 9223372036854775807) : Txt w (some ⟨g, 0, none⟩) xs := by
  refine ⟨.inr ⟨_, _, rfl, h.lt, fun j x hx i v hv => ?_⟩, hn, hs⟩
  have hi : i = 0 := by
    rcases i with _ | i
    · rfl
    · simp [encS] at hv
  subst hi
  simp [encS] at hv
  subst hv
  have := h.cell j
  simp [hx] at this
  simpa using this
/-- what Join answers of a row that may not be. -/
def NoJoin (g : Nat → Nat → World → Prop) : Prop := True
theorem join_no {xs : List ByteArray} {n : Nat} (hk : joinOk xs = false) (hn : xs.length = n) (h9 : n ≤ 10) (hs : ∀ s ∈ xs, s.size ≤ 9223372036854775807) : Hid (∀ (W : World) (g : Nat), Blk W g (xs.map Value.string).toArray 9 → Calls Try.prog 35 #[.slice (some ⟨g, 0, none⟩) n n] W fun e w' => e = .returned (.tuple #[.string ⟨#[]⟩, .int .i64 1000]) ∧ Below W.heap.size W w') :=
  Lib.hid fun W g h => by
    have := join_c (some ⟨g, 0, none⟩) n n xs W (blk_txt h (by omega) hs) hn (Nat.le_refl _)
    simp only [joinV, hk, cond_false] at this
    exact this
theorem join_nil : Hid (∀ (W : World), Calls Try.prog 35 #[.slice none 0 0] W fun e w' => e = .returned (.tuple #[.string ⟨#[]⟩, .int .i64 1000]) ∧ Below W.heap.size W w') :=
  Lib.hid fun W => by
    have := join_c none 0 0 [] W ⟨Lies.nil, by simp, by simp⟩ rfl (Nat.le_refl _)
    have hk : joinOk [] = false := by decide +kernel
    simp only [joinV, hk, cond_false] at this
    exact this
end Go.Proofs.Ytfnfnldndmkeeaa.Bk
