/- Layer 10: the references' Join. -/
import Derived.Test.YtfnfnldndmkeeaaBkq
namespace Go.Proofs.Ytfnfnldndmkeeaa.Bk
open Go.RowKit Go.Proofs.Ytfnfnldndmkeeaa.Kt Go.Proofs.Ytfnfnldndmkeeaa.Lw Go.Proofs.Ytfnfnldndmkeeaa.St Go.Proofs.Ytfnfnldndmkeeaa.Nm Go.Proofs.Ytfnfnldndmkeeaa.Sl
set_option linter.unusedVariables false
set_option linter.unusedSimpArgs false
theorem cat_snoc {xs : List ByteArray} {k : Nat} {x : ByteArray} (h : xs[k]? = some x) : catL (xs.take (k + 1)) = catL (xs.take k) ++ x := by
  apply data_ext
  rw [List.take_add_one, h]
  simp [catL, ByteArray.data_append]
theorem cat_take_le (xs : List ByteArray) (k : Nat) : (catL (xs.take k)).size ≤ (catL xs).size := by
  rw [cat_len, cat_len]
  conv => rhs; rw [← List.take_append_drop k xs, List.map_append, List.sum_append]
  omega
theorem joinOk_iff (xs : List ByteArray) : joinOk xs = true ↔ Whole xs ∧ rngB ((catL xs).size : Int) 1 288 = true := by
  unfold joinOk
  rw [Bool.and_eq_true, Bool.and_eq_true, Bool.and_eq_true, decide_eq_true_eq, decide_eq_true_eq]
  constructor
  · rintro ⟨_, _, h3, h4⟩
    have := whole_split (catL xs)
    rw [h4] at this
    exact ⟨this, h3⟩
  · rintro ⟨h1, h2⟩
    have hs := split_whole h1
    have hl := split_len (catL xs)
    rw [hs] at hl
    have hb : (catL xs).size ≤ 288 := by simp [rngB] at h2; omega
    refine ⟨by unfold manyN at hl; omega, ?_, h2, hs⟩
    rw [Bool.not_eq_true']
    exact bigs_miss fun j x hj hx => by have := (h1 j x hx).2.1; omega
theorem joinV_no {xs : List ByteArray} (h : ¬ (Whole xs ∧ rngB ((catL xs).size : Int) 1 288 = true)) : joinV xs = .tuple #[.string ⟨#[]⟩, .int .i64 1000] := by
  have : joinOk xs = false := by
    rw [← Bool.not_eq_true]
    exact fun e => h ((joinOk_iff xs).1 e)
  simp only [joinV, this, cond_false]
theorem joinV_yes {xs : List ByteArray} (h1 : Whole xs) (h2 : rngB ((catL xs).size : Int) 1 288 = true) : joinV xs = .tuple #[.string (catL xs), .int .i64 0] := by
  simp only [joinV, (joinOk_iff xs).2 ⟨h1, h2⟩, cond_true]
set_option maxRecDepth 100000 in
set_option maxHeartbeats 3200000 in
theorem rjoin_c (A : Option Addr) (c n : Nat) (xs : List ByteArray) (w : World) (hl : Txt w A xs) (hn : xs.length = n) :
    Calls Try.prog 36 #[.slice A n c] w fun e w' => e = .returned (joinV xs) ∧ Below w.heap.size w w' := by
  have hb : n ≤ 140737488355328 := by rw [← hn]; exact hl.2.1
  have hrow : Aside (∀ (W : World), Below w.heap.size w W → Txt W A xs) := fun W hW => hl.below hW
  clear hl
  go_enter Try.func36, Try.ntmps36
  go_wp2
  go_loopg [4, 5] n (fun gg s4 s5 wr => ∃ (k : Nat) (p : ByteArray), k ≤ n ∧ n - k ≤ gg ∧ s5 = .int .i64 k ∧ s4 = .string p ∧ Aside (p = catL (xs.take k)) ∧ p.size ≤ 320 ∧ Aside (Below w.heap.size w wr) ∧ Aside (∀ j x, j < k → xs[j]? = some x → 1 ≤ x.size ∧ x.size ≤ 32 ∧ (j + 1 < xs.length → x.size = 32)))
  case atStart => exact ⟨0, ⟨#[]⟩, Nat.zero_le _, by omega, rfl, rfl, (show Aside _ from (rfl : (⟨#[]⟩ : ByteArray) = catL (xs.take 0))), by decide, Below.refl _ w, fun j x hj => absurd hj (Nat.not_lt_zero _)⟩
  case round =>
    obtain ⟨k, p, hk, hg, rfl, rfl, HP, hp, BW, AA⟩ := hrel
    by_cases hlt : k < n
    · have hltz : (k : Int) < (n : Int) := by omega
      obtain ⟨b, off, x, rfl, hbs, hx, hok, c0⟩ := (hrow.out wr BW.out).at_ (j := k) (by omega)
      have hx' : Aside (xs[k]? = some x) := hx
      have stop : ∀ (h : ¬ (Whole xs ∧ rngB ((catL xs).size : Int) 1 288 = true)), joinV xs = .tuple #[.string ⟨#[]⟩, .int .i64 1000] := fun h => joinV_no h
      clear hx
      by_cases q1 : 32 < x.size
      · have hv := Lib.hid (stop fun h => absurd (h.1 k x hx'.out).2.1 (by omega))
        clear stop
        have g1 : (32 : Int) < (x.size : Int) := by omega
        go_wp2_with fail
        go_ret2
        exact ⟨by rw [hv.out]; rfl, BW.out⟩
      · by_cases q2 : x.size < 1
        · have hv := Lib.hid (stop fun h => absurd (h.1 k x hx'.out).1 (by omega))
          clear stop
          have g1 : ¬ (32 : Int) < (x.size : Int) := by omega
          have g2 : (x.size : Int) < 1 := by omega
          go_wp2_with fail
          go_ret2
          exact ⟨by rw [hv.out]; rfl, BW.out⟩
        · have g1 : ¬ (32 : Int) < (x.size : Int) := by omega
          have g2 : ¬ (x.size : Int) < 1 := by omega
          by_cases q3 : k + 1 < n ∧ x.size < 32
          · have hv := Lib.hid (stop fun h => absurd ((h.1 k x hx'.out).2.2 (by omega)) (by omega))
            clear stop
            have g3 : (k : Int) < (n : Int) - 1 := by omega
            have g4 : (x.size : Int) < 32 := by omega
            go_wp2_with fail
            go_ret2
            exact ⟨by rw [hv.out]; rfl, BW.out⟩
          · by_cases q4 : 288 < p.size
            · have hv := Lib.hid (stop fun h => by
                have a1 := cat_take_le xs k
                have a2 := h.2
                rw [← HP.out] at a1
                simp [rngB] at a2
                omega)
              clear stop
              have g5 : (288 : Int) < (p.size : Int) := by omega
              by_cases q5 : k + 1 < n
              · have g3 : (k : Int) < (n : Int) - 1 := by omega
                have g4 : ¬ (x.size : Int) < 32 := by omega
                go_wp2_with fail
                go_ret2
                exact ⟨by rw [hv.out]; rfl, BW.out⟩
              · have g3 : ¬ (k : Int) < (n : Int) - 1 := by omega
                go_wp2_with fail
                go_ret2
                exact ⟨by rw [hv.out]; rfl, BW.out⟩
            · clear stop
              have g5 : ¬ (288 : Int) < (p.size : Int) := by omega
              have NX : Aside (p ++ x = catL (xs.take (k + 1))) := (show Aside _ from (by rw [cat_snoc hx'.out, ← HP.out] : p ++ x = catL (xs.take (k + 1))))
              have NS : (p ++ x).size ≤ 320 := by rw [ByteArray.size_append]; omega
              have NA : Aside (∀ j y, j < k + 1 → xs[j]? = some y → 1 ≤ y.size ∧ y.size ≤ 32 ∧ (j + 1 < xs.length → y.size = 32)) := (show Aside _ from fun j y hj hy => by
                by_cases e : j = k
                · subst e
                  rw [hx'.out] at hy
                  cases hy
                  exact ⟨by omega, by omega, fun h => by omega⟩
                · exact AA.out j y (by omega) hy)
              by_cases q5 : k + 1 < n
              · have g3 : (k : Int) < (n : Int) - 1 := by omega
                have g4 : ¬ (x.size : Int) < 32 := by omega
                have NS' := Lib.hid NS
                clear NS
                go_wp2_with fail
                go_roundg (n - (k + 1))
                case measure => omega
                case rel => exact ⟨k + 1, p ++ x, by omega, by omega, by go_num, rfl, NX, NS'.out, BW.out, NA⟩
              · have g3 : ¬ (k : Int) < (n : Int) - 1 := by omega
                have NS' := Lib.hid NS
                clear NS
                go_wp2_with fail
                go_roundg (n - (k + 1))
                case measure => omega
                case rel => exact ⟨k + 1, p ++ x, by omega, by omega, by go_num, rfl, NX, NS'.out, BW.out, NA⟩
    · have hltz : ¬ (k : Int) < (n : Int) := by omega
      obtain rfl : k = n := by omega
      have hpc : p = catL xs := by rw [HP.out, ← hn, List.take_length]
      have hW : Whole xs := fun i x hx => AA.out i x (by
        rcases Nat.lt_or_ge i xs.length with h | h
        · omega
        · rw [List.getElem?_eq_none h] at hx; cases hx) hx
      rcases Bool.eq_false_or_eq_true (rngB (p.size : Int) 1 288) with hr | hr
      · have hv := Lib.hid (joinV_yes hW (by rw [← hpc]; exact hr))
        have hpc' := Lib.hid hpc
        clear hpc hW
        go_wp2_with (first | (go_at_call 63; with_reducible refine (upTo_c _ _ _ _).mono ?_; rintro e w' ⟨rfl, rfl⟩) | fail)
        go_ret2
        exact ⟨by rw [hv.out, ← hpc'.out]; rfl, BW.out⟩
      · have hv := Lib.hid (joinV_no (xs := xs) (fun h => by
          rw [← hpc, hr] at h
          exact absurd h.2 (by decide)))
        clear hpc hW
        go_wp2_with (first | (go_at_call 63; with_reducible refine (upTo_c _ _ _ _).mono ?_; rintro e w' ⟨rfl, rfl⟩) | fail)
        go_ret2
        exact ⟨by rw [hv.out]; rfl, BW.out⟩
end Go.Proofs.Ytfnfnldndmkeeaa.Bk
