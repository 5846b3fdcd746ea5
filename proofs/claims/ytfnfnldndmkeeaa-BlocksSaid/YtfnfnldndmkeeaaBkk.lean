/- Layer 10: rows of texts kept. -/
import Derived.Test.YtfnfnldndmkeeaaBkn
namespace Go.Proofs.Ytfnfnldndmkeeaa.Bk
open Go.RowKit Go.Proofs.Ytfnfnldndmkeeaa.Kt Go.Proofs.Ytfnfnldndmkeeaa.Lw Go.Proofs.Ytfnfnldndmkeeaa.St Go.Proofs.Ytfnfnldndmkeeaa.Nm Go.Proofs.Ytfnfnldndmkeeaa.Sl
set_option linter.unusedVariables false
set_option linter.unusedSimpArgs false
theorem own_lt {W : World} {base g n cap : Nat} {e : TypeId} {xs : List Value} (h : W.ownsRow base e 1 (.slice (some ⟨g, 0, none⟩) n cap) n xs) : g < W.heap.size := by
  rcases h.2 with ⟨h', _⟩ | ⟨g', cap', cur, h', _, hh, _⟩
  · cases h'
  · have : g = g' := by injection h' with h'; injection h' with h'; injection h' with h'
    subst this
    rcases Nat.lt_or_ge g W.heap.size with hlt | hge
    · exact hlt
    · rw [Array.getElem?_eq_none hge] at hh; cases hh
/-- the head of one's own row of texts. -/
theorem own_head {w : World} {base g d n : Nat} {xs : List ByteArray} (hown : w.ownsRow base 9 1 (.slice (some ⟨g, 0, none⟩) (n + 2) d) (n + 2) ((xs ++ [room, behind]).map Value.string)) (hn : xs.length = n) (h2 : xs.length ≤ 140737488355328 ∧ ∀ s ∈ xs, s.size ≤ 9223372036854775807) : Txt w (some ⟨g, 0, none⟩) xs := by
  refine ⟨.inr ⟨_, _, rfl, own_lt hown, fun j x hx i v hv => ?_⟩, h2⟩
  have hi : i = 0 := by
    rcases i with _ | i
    · rfl
    · simp [encS] at hv
  subst hi
  simp [encS] at hv
  subst hv
  have hj : j < xs.length := by
    rcases Nat.lt_or_ge j xs.length with h | h
    · exact h
    · rw [List.getElem?_eq_none h] at hx; cases hx
  have := (own_read hown (j := j) (x := x) (by rw [List.getElem?_append_left hj]; exact hx)).1
  simpa using this
set_option maxHeartbeats 1600000 in
theorem kept_c (A : Option Addr) (g c d n base : Nat) (xs : List ByteArray) (w : World) (hown : w.ownsRow base 9 1 (.slice (some ⟨g, 0, none⟩) (n + 2) d) (n + 2) ((xs ++ [room, behind]).map Value.string)) (hd : n + 2 ≤ d) (hdm : d ≤ 9223372036854775807) (hl : Txt w A xs) (hn : xs.length = n) :
    Calls Try.prog 39 #[.slice (some ⟨g, 0, none⟩) n d, .slice A n c] w fun e w' => e = .returned (.bool true) ∧ Below w.heap.size w w' := by
  have hlt := own_lt hown
  have hT : Txt w (some ⟨g, 0, none⟩) xs := by
    refine ⟨.inr ⟨_, _, rfl, hlt, fun j x hx i v hv => ?_⟩, hl.2⟩
    have hi : i = 0 := by
      rcases i with _ | i
      · rfl
      · simp [encS] at hv
    subst hi
    simp [encS] at hv
    subst hv
    have hj : j < xs.length := by
      rcases Nat.lt_or_ge j xs.length with h | h
      · exact h
      · rw [List.getElem?_eq_none h] at hx; cases hx
    have := (own_read hown (j := j) (x := x) (by rw [List.getElem?_append_left hj]; exact hx)).1
    simpa using this
  have r0 := (own_read hown (j := n) (x := room) (by rw [List.getElem?_append_right (by omega)]; simp [hn])).1
  have r1 := (own_read hown (j := n + 1) (x := behind) (by rw [List.getElem?_append_right (by omega)]; simp [hn])).1
  have hS := Lib.hid (sameT_c (some ⟨g, 0, none⟩) A d c n n xs xs w hT hl hn hn)
  rw [decide_eq_true (rfl : xs = xs)] at hS
  have hb : n ≤ 140737488355328 := by rw [← hn]; exact hl.2.1
  clear hown hl hT
  go_enter Try.func39, Try.ntmps39
  go_wp2_with (first | (go_at_call 37; (with_reducible refine hS.out.mono ?_); rintro e w1 ⟨rfl, hb1⟩; have c0 := (hb1.cell (p := ⟨g, n, none⟩) hlt).trans r0; have c1 := (hb1.cell (p := ⟨g, n + 1, none⟩) hlt).trans r1) | fail)
  go_ret
  exact ⟨by simp, hb1⟩
end Go.Proofs.Ytfnfnldndmkeeaa.Bk
