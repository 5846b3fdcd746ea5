/- Layer 8: rows of steps spoilt. -/
import Derived.Test.YtimnhdmpfndeaaaOpq
import Derived.Test.YtimnhdmpfndeaaaGro
namespace Go.Proofs.Ytimnhdmpfndeaaa.Pl
open Go.RowKit Go.Proofs.Ytimnhdmpfndeaaa.Kt Go.Proofs.Ytimnhdmpfndeaaa.Lw Go.Proofs.Ytimnhdmpfndeaaa.St Go.Proofs.Ytimnhdmpfndeaaa.Nm Go.Proofs.Ytimnhdmpfndeaaa.Sl Go.Proofs.Ytimnhdmpfndeaaa.Gr Go.Proofs.Ytimnhdmpfndeaaa.Ops
set_option linter.unusedVariables false
set_option linter.unusedSimpArgs false
theorem ownc_read {W : World} {base g k n cap : Nat} {e : TypeId} {cs : List Value} (h : W.ownsRow base e k (.slice (some ⟨g, 0, none⟩) n cap) n cs) {j : Nat} {v : Value} (hv : cs[j]? = some v) :
    W.cell? ⟨g, j, none⟩ = some v ∧ W.frozen? ⟨g, j, none⟩ = false := by
  constructor
  · have hc := h.cells (g := g) rfl j v hv
    rwa [add_plain] at hc
  · exact h.frozenAt j
theorem ownc_put {W : World} {base g k n cap : Nat} {e : TypeId} {cs : List Value} (h : W.ownsRow base e k (.slice (some ⟨g, 0, none⟩) n cap) n cs) (i : Nat) (v : Value) :
    (W.setCell ⟨g, i, none⟩ v).ownsRow base e k (.slice (some ⟨g, 0, none⟩) n cap) n (cs.set i v) ∧ W.grownBy (W.setCell ⟨g, i, none⟩ v) (some g) := h.stored i v
theorem flat_at : ∀ {xs : List OpV} {j : Nat}, j < xs.length → ∃ a, (xs.flatMap encOp)[j * 3 + 1]? = some (.int .i64 a)
  | x :: xs, 0, h => ⟨x.2.1, by simp [encOp]⟩
  | x :: xs, j + 1, h => by
    obtain ⟨a, ha⟩ := flat_at (xs := xs) (j := j) (by simpa using h)
    refine ⟨a, ?_⟩
    rw [List.flatMap_cons, List.getElem?_append_right (by simp [encOp]; omega)]
    rw [← ha]
    congr 1
    simp [encOp]
    omega
set_option maxHeartbeats 1600000 in
theorem spoilo_none (w : World) : Calls Try.prog 16 #[.slice none 0 0] w fun e w' => e = .returned (.tuple #[]) ∧ w = w' := by
  go_enter Try.func16, Try.ntmps16
  go_wp2
  go_loopg [2] 0 (fun gg s2 wr => s2 = .int .i64 0 ∧ w = wr)
  case atStart => exact ⟨rfl, rfl⟩
  case round =>
    obtain ⟨rfl, rfl⟩ := hrel
    go_wp2_with fail
    exact ⟨rfl, .tuple #[], by simp [results, Try.results16, go_sem], rfl, rfl⟩
set_option maxHeartbeats 1600000 in
theorem spoilo_c (g c n base : Nat) (xs : List OpV) (w : World) (hown : w.ownsRow base 50 3 (.slice (some ⟨g, 0, none⟩) n c) n (xs.flatMap encOp)) (hn : xs.length = n) (hc1 : n ≤ c) (hc2 : c ≤ 9223372036854775807) :
    Calls Try.prog 16 #[.slice (some ⟨g, 0, none⟩) n c] w fun e w' => e = .returned (.tuple #[]) ∧ w.grownBy w' (some g) := by
  have hO := Lib.hid hown
  have hA := Lib.hid (show ∀ j, 0 ≤ j → j < n → ∃ a, (xs.flatMap encOp)[j * 3 + 1]? = some (.int .i64 a) from fun j _ hj => flat_at (by omega))
  clear hown
  go_enter Try.func16, Try.ntmps16
  go_wp2
  go_loopg [2] n (fun gg s2 wr => ∃ (k : Nat) (cs : List Value), k ≤ n ∧ n - k ≤ gg ∧ s2 = .int .i64 k ∧ Aside (wr.ownsRow base 50 3 (.slice (some ⟨g, 0, none⟩) n c) n cs) ∧ Aside (w.grownBy wr (some g)) ∧ Aside (∀ j, k ≤ j → j < n → ∃ a, cs[j * 3 + 1]? = some (.int .i64 a)))
  case atStart => exact ⟨0, _, Nat.zero_le _, by omega, rfl, hO.out, World.grownBy.refl w _, hA.out⟩
  case round =>
    obtain ⟨k, cs, hk, hg, rfl, BO, BG, AA⟩ := hrel
    by_cases hlt : k < n
    · have hltz : (k : Int) < (n : Int) := by omega
      obtain ⟨a, hx⟩ := AA.out k (Nat.le_refl _) hlt
      obtain ⟨c0, f0⟩ := ownc_read BO.out hx
      have hp := Lib.hid (fun v => ownc_put BO.out (k * 3 + 1) v)
      clear hx
      go_wp2_with fail
      go_roundg (n - (k + 1))
      case measure => omega
      case rel =>
        refine ⟨k + 1, _, by omega, by omega, by go_num, (hp.out _).1, BG.out.trans (hp.out _).2, (show Aside _ from fun j hj hj2 => ?_)⟩
        obtain ⟨a', ha'⟩ := AA.out j (by omega) hj2
        refine ⟨a', ?_⟩
        rw [List.getElem?_set_ne (by omega)]
        exact ha'
    · have hltz : ¬ (k : Int) < (n : Int) := by omega
      go_wp2_with fail
      exact ⟨rfl, .tuple #[], by simp [results, Try.results16, go_sem], rfl, BG.out⟩
end Go.Proofs.Ytimnhdmpfndeaaa.Pl
