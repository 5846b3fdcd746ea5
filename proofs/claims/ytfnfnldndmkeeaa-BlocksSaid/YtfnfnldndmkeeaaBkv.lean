/- Layer 10: awake. -/
import Derived.Test.YtfnfnldndmkeeaaBku
namespace Go.Proofs.Ytfnfnldndmkeeaa.Bk
open Go.RowKit Go.Proofs.Ytfnfnldndmkeeaa.Kt Go.Proofs.Ytfnfnldndmkeeaa.Lw Go.Proofs.Ytfnfnldndmkeeaa.St Go.Proofs.Ytfnfnldndmkeeaa.Nm Go.Proofs.Ytfnfnldndmkeeaa.Sl
set_option linter.unusedVariables false
set_option linter.unusedSimpArgs false
theorem own_cap {w : World} {base : Nat} {e : TypeId} {k n c : Nat} {A : Option Addr} {xs : List Value} (h : w.ownsRow base e k (.slice A n c) n xs) : n ≤ c := by
  rcases h.2 with ⟨_, h0⟩ | ⟨g, cap, cur, hv, _, _, hn, _⟩
  · omega
  · injection hv with h1 h2 h3
    omega
def splitT (s : ByteArray) (w : World) (e : Ending) (w' : World) : Prop := ∃ (A : Option Addr) (c : Nat), e = .returned (.tuple #[.slice A (manyN s) c, .int .i64 0]) ∧ (Txt w' A (splitL s) ∧ manyN s ≤ c) ∧ Below w.heap.size w w'
theorem split_t (s : ByteArray) (w : World) (h : rngB (s.size : Int) 1 288 = true) : Calls Try.prog 33 #[.string s] w (splitT s w) :=
  (split_yes s w h).mono fun e w' hh => by
    obtain ⟨A, c, h1, h2, h3⟩ := hh
    have hs : s.size ≤ 288 := by simp [rngB] at h; omega
    exact ⟨A, c, h1, ⟨own_txt h2 (split_len _) (by unfold manyN; omega) (split_le _), own_cap h2⟩, h3⟩
theorem lit_txt2 (w : World) (a b : ByteArray) (T : TypeId) (ha : a.size ≤ 9223372036854775807) (hb : b.size ≤ 9223372036854775807) : Txt (w.alloc (.cells #[.string a, .string b] T)) (some ⟨w.heap.size, 0, none⟩) [a, b] := by
  refine ⟨.inr ⟨_, _, rfl, by simp, fun j x hx i v hv => ?_⟩, by simp, fun s hs => ?_⟩
  · have hi : i = 0 := by
      rcases i with _ | i
      · rfl
      · simp [encS] at hv
    subst hi
    simp [encS] at hv
    subst hv
    have hB := Blk.new w #[.string a, .string b] T
    rcases j with _ | _ | j
    · simp at hx
      subst hx
      simp
    · simp at hx
      subst hx
      simp
    · simp at hx
  · simp at hs
    rcases hs with rfl | rfl <;> assumption
abbrev awS : ByteArray := ⟨#[48, 49, 50, 51, 52, 53, 54, 55, 56, 57, 97, 98, 99, 100, 101, 102, 48, 49, 50, 51, 52, 53, 54, 55, 56, 57, 97, 98, 99, 100, 101, 102, 120, 121, 122]⟩
set_option maxRecDepth 100000 in
theorem aw_split : splitL awS = [awS.extract 0 32, ⟨#[120, 121, 122]⟩] := by decide +kernel
set_option maxRecDepth 100000 in
theorem aw_join : joinV [awS.extract 0 32, ⟨#[120, 121, 122]⟩] = .tuple #[.string awS, .int .i64 0] := by
  have h : joinOk [awS.extract 0 32, ⟨#[120, 121, 122]⟩] = true := by decide +kernel
  have h2 : catL [awS.extract 0 32, ⟨#[120, 121, 122]⟩] = awS := by decide +kernel
  simp only [joinV, h, h2, cond_true]
set_option maxRecDepth 100000 in
theorem aw_join2 : joinV [⟨#[97]⟩, ⟨#[98]⟩] = .tuple #[.string ⟨#[]⟩, .int .i64 1000] := by
  have h : joinOk [⟨#[97]⟩, ⟨#[98]⟩] = false := by decide +kernel
  simp only [joinV, h, cond_false]
set_option maxHeartbeats 1600000 in
theorem awake_c (w : World) : Calls Try.prog 40 #[] w fun e w' => e = .returned (.bool true) ∧ Below w.heap.size w w' := by
  have h1 : Hid (∀ W : World, Calls Try.prog 33 #[.string awS] W fun e w' => ∃ A c, e = .returned (.tuple #[.slice A 2 c, .int .i64 0]) ∧ (Txt w' A [awS.extract 0 32, ⟨#[120, 121, 122]⟩] ∧ 2 ≤ c) ∧ Below W.heap.size W w') := Lib.hid fun W => (split_t awS W (by decide +kernel)).mono fun e w' h => by
    obtain ⟨A, c, a1, a2, a3⟩ := h
    rw [aw_split] at a2
    exact ⟨A, c, a1, a2, a3⟩
  have h2 : Hid (∀ (W : World) A c, Txt W A [awS.extract 0 32, ⟨#[120, 121, 122]⟩] → 2 ≤ c → Calls Try.prog 35 #[.slice A 2 c] W fun e w' => e = .returned (.tuple #[.string awS, .int .i64 0]) ∧ Below W.heap.size W w') := Lib.hid fun W A c hT hc => by
    have := join_c A c 2 _ W hT rfl hc
    rwa [aw_join] at this
  have h3 : Hid (∀ W : World, Calls Try.prog 35 #[.slice (some ⟨W.heap.size, 0, none⟩) 2 2] (W.alloc (.cells #[.string ⟨#[97]⟩, .string ⟨#[98]⟩] 9)) fun e w' => e = .returned (.tuple #[.string ⟨#[]⟩, .int .i64 1000]) ∧ Below (W.alloc (.cells #[.string ⟨#[97]⟩, .string ⟨#[98]⟩] 9)).heap.size (W.alloc (.cells #[.string ⟨#[97]⟩, .string ⟨#[98]⟩] 9)) w') := Lib.hid fun W => by
    have := join_c (some ⟨W.heap.size, 0, none⟩) 2 2 _ _ (lit_txt2 W ⟨#[97]⟩ ⟨#[98]⟩ 9 (by decide) (by decide)) rfl (by omega)
    rwa [aw_join2] at this
  have h4 : Hid (∀ (W : World) A c, Txt W A [awS.extract 0 32, ⟨#[120, 121, 122]⟩] → Calls Try.prog 37 #[.slice A 2 c, .slice (some ⟨W.heap.size, 0, none⟩) 2 2] (W.alloc (.cells #[.string (awS.extract 0 32), .string ⟨#[120, 121, 122]⟩] 9)) fun e w' => e = .returned (.bool true) ∧ Below (W.alloc (.cells #[.string (awS.extract 0 32), .string ⟨#[120, 121, 122]⟩] 9)).heap.size (W.alloc (.cells #[.string (awS.extract 0 32), .string ⟨#[120, 121, 122]⟩] 9)) w') := Lib.hid fun W A c hT => by
    have := sameT_c A (some ⟨W.heap.size, 0, none⟩) c 2 2 2 _ _ _ (hT.below (bl_alloc (Below.refl _ _) _)) (lit_txt2 W (awS.extract 0 32) ⟨#[120, 121, 122]⟩ 9 (by decide +kernel) (by decide)) rfl rfl
    simpa using this
  have hz : rngB ((ByteArray.mk #[]).size : Int) 1 288 = false := by decide +kernel
  go_enter Try.func40, Try.ntmps40
  go_wp2_with (first | (go_at_call 33; (with_reducible refine (h1.out _).mono ?_); rintro e w1 ⟨A, c, rfl, ⟨T1, hc⟩, hb1⟩) | (go_at_call 33; (with_reducible refine (split_no ⟨#[]⟩ _ (by decide) hz).mono ?_); rintro e w3 ⟨rfl, rfl⟩) | (go_at_call 35; (with_reducible refine (h2.out _ _ _ T1 hc).mono ?_); rintro e w2 ⟨rfl, hb2⟩; have T2 := T1.below hb2; have HB := bl_step hb1 hb2) | (go_at_call 35; (with_reducible refine (h3.out _).mono ?_); rintro e w4 ⟨rfl, hb4⟩; have T4 := T2.below (bl_step (bl_alloc (Below.refl _ _) _) hb4); have HC := bl_step (bl_alloc HB _) hb4) | (go_at_call 37; (with_reducible refine (h4.out _ _ _ T4).mono ?_); rintro e w5 ⟨rfl, hb5⟩; have HD := bl_step (bl_alloc HC _) hb5) | (go_at_call 19; with_reducible refine (enum_c _ _).mono ?_; rintro e w' ⟨rfl, rfl⟩) | fail)
  go_ret
  exact ⟨by simp, HD⟩
end Go.Proofs.Ytfnfnldndmkeeaa.Bk
