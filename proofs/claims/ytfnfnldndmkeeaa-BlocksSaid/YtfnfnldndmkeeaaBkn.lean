/- Layer 10: rows of texts spoilt. -/
import Derived.Test.YtfnfnldndmkeeaaBkz
namespace Go.Proofs.Ytfnfnldndmkeeaa.Bk
open Go.RowKit Go.Proofs.Ytfnfnldndmkeeaa.Kt Go.Proofs.Ytfnfnldndmkeeaa.Lw Go.Proofs.Ytfnfnldndmkeeaa.St Go.Proofs.Ytfnfnldndmkeeaa.Nm Go.Proofs.Ytfnfnldndmkeeaa.Sl
set_option linter.unusedVariables false
set_option linter.unusedSimpArgs false
theorem own_read {W : World} {base g n cap : Nat} {e : TypeId} {xs : List ByteArray} (h : W.ownsRow base e 1 (.slice (some ⟨g, 0, none⟩) n cap) n (xs.map Value.string)) {j : Nat} {x : ByteArray} (hx : xs[j]? = some x) :
    W.cell? ⟨g, j, none⟩ = some (.string x) ∧ W.frozen? ⟨g, j, none⟩ = false := by
  constructor
  · have hc := h.cells (g := g) rfl j (.string x) (by simp [hx])
    rwa [add_plain] at hc
  · rcases h.2 with ⟨h', _⟩ | ⟨g', cap', cur, h', _, hh, _⟩
    · cases h'
    · have : g = g' := by injection h' with h'; injection h' with h'; injection h' with h'
      subst this
      simp [World.frozen?, hh]
theorem own_put {W : World} {base g n cap : Nat} {e : TypeId} {xs : List ByteArray} (h : W.ownsRow base e 1 (.slice (some ⟨g, 0, none⟩) n cap) n (xs.map Value.string)) (i : Nat) (x : ByteArray) :
    (W.setCell ⟨g, i, none⟩ (.string x)).ownsRow base e 1 (.slice (some ⟨g, 0, none⟩) n cap) n ((xs.set i x).map Value.string) ∧ W.grownBy (W.setCell ⟨g, i, none⟩ (.string x)) (some g) := by
  have hs := h.stored i (.string x)
  have he : (xs.map Value.string).set i (.string x) = (xs.set i x).map Value.string := by simp [List.map_set]
  rwa [he] at hs
theorem spoil0_c (w : World) : Calls Try.prog 38 #[.slice none 0 0] w fun e w' => e = .returned (.tuple #[]) ∧ w = w' := by
  go_enter Try.func38, Try.ntmps38
  go_wp2
  go_loopg [2] 0 (fun gg s2 wr => s2 = .int .i64 0 ∧ w = wr)
  case atStart => exact ⟨rfl, rfl⟩
  case round =>
    obtain ⟨rfl, rfl⟩ := hrel
    go_wp2_with fail
    exact ⟨rfl, .tuple #[], by simp [results, Try.results38, go_sem], rfl, rfl⟩
set_option maxHeartbeats 1600000 in
theorem spoil_c (g c n base : Nat) (xs : List ByteArray) (w : World) (hown : w.ownsRow base 9 1 (.slice (some ⟨g, 0, none⟩) n c) n (xs.map Value.string)) (hs : ∀ x ∈ xs, x.size ≤ 1000000) :
    Calls Try.prog 38 #[.slice (some ⟨g, 0, none⟩) n c] w fun e w' => e = .returned (.tuple #[]) ∧ w.grownBy w' (some g) := by
  have hln : xs.length = n := by have := hown.1; simpa using this
  have hO := Lib.hid hown
  have hS := Lib.hid hs
  have hc : n ≤ c ∧ c ≤ 9223372036854775807 := by
    rcases hown.2 with ⟨h', _⟩ | ⟨g', cap', cur, h', _, _, h1, h2, _⟩
    · cases h'
    · injection h' with _ _ h3
      subst h3
      exact ⟨h1, h2⟩
  obtain ⟨hc1, hc2⟩ := hc
  clear hown hs
  go_enter Try.func38, Try.ntmps38
  go_wp2
  go_loopg [2] n (fun gg s2 wr => ∃ (k : Nat) (ys : List ByteArray), k ≤ n ∧ n - k ≤ gg ∧ s2 = .int .i64 k ∧ Aside (wr.ownsRow base 9 1 (.slice (some ⟨g, 0, none⟩) n c) n (ys.map Value.string)) ∧ Aside (w.grownBy wr (some g)) ∧ Aside (∀ j, k ≤ j → ys[j]? = xs[j]?))
  case atStart => exact ⟨0, xs, Nat.zero_le _, by omega, rfl, hO.out, World.grownBy.refl w _, fun _ _ => rfl⟩
  case round =>
    obtain ⟨k, ys, hk, hg, rfl, BO, BG, AA⟩ := hrel
    by_cases hlt : k < n
    · have hltz : (k : Int) < (n : Int) := by omega
      obtain ⟨x, hx⟩ : ∃ x, xs[k]? = some x := ⟨_, List.getElem?_eq_getElem (by omega)⟩
      have hsx : x.size ≤ 1000000 := hS.out x (List.mem_of_getElem? hx)
      have hy : ys[k]? = some x := by rw [AA.out k (Nat.le_refl _), hx]
      obtain ⟨c0, f0⟩ := own_read BO.out hy
      have hp := Lib.hid (own_put BO.out k ((⟨#[126]⟩ : ByteArray) ++ x))
      clear hx hy
      go_wp2_with fail
      go_roundg (n - (k + 1))
      case measure => omega
      case rel =>
        refine ⟨k + 1, ys.set k ((⟨#[126]⟩ : ByteArray) ++ x), by omega, by omega, by go_num, hp.out.1, BG.out.trans hp.out.2, (show Aside _ from fun j hj => ?_)⟩
        rw [List.getElem?_set_ne (by omega)]
        exact AA.out j (by omega)
    · have hltz : ¬ (k : Int) < (n : Int) := by omega
      go_wp2_with fail
      exact ⟨rfl, .tuple #[], by simp [results, Try.results38, go_sem], rfl, BG.out⟩
end Go.Proofs.Ytfnfnldndmkeeaa.Bk
