/- Layer 10: rows of texts: compared, searched, joined, copied. -/
import Derived.Test.YtfnfnldndmkeeaaBks
import Derived.Test.YtfnfnldndmkeeaaShl
import Derived.Test.YtfnfnldndmkeeaaSlc
import Derived.Test.YtfnfnldndmkeeaaEqs
import Derived.Shelf.SlicesQ.Load
namespace Go.Proofs.Ytfnfnldndmkeeaa.Bk
open Go.RowKit Go.Proofs.Ytfnfnldndmkeeaa.Kt Go.Proofs.Ytfnfnldndmkeeaa.Lw Go.Proofs.Ytfnfnldndmkeeaa.St Go.Proofs.Ytfnfnldndmkeeaa.Nm Go.Proofs.Ytfnfnldndmkeeaa.Sl
set_option linter.unusedVariables false
set_option linter.unusedSimpArgs false
theorem retB {a b : Bool} (h : a = b) : Ending.returned (.bool a) = Ending.returned (.bool b) := by rw [h]
def encS (s : ByteArray) : List Value := [.string s]
theorem encS_len (x : ByteArray) : (encS x).length = 1 := rfl
theorem encS_one (x : ByteArray) : ∀ u ∈ encS x, u.oneCell' = true := by
  intro u hu
  simp [encS] at hu
  subst hu
  rfl
theorem encS_map (xs : List ByteArray) : xs.flatMap encS = xs.map Value.string := by
  induction xs with
  | nil => rfl
  | cons x xs ih => simp [encS, ih]
/-- a row of texts, as it may stand in memory. -/
def Txt (w : World) (A : Option Addr) (xs : List ByteArray) : Prop := Lies encS 1 w A xs ∧ xs.length ≤ 140737488355328 ∧ ∀ s ∈ xs, s.size ≤ 9223372036854775807
theorem Txt.below {w w' : World} {A : Option Addr} {xs : List ByteArray} (h : Txt w A xs) (hb : Below w.heap.size w w') : Txt w' A xs := ⟨h.1.below hb, h.2⟩
theorem Txt.at_ {w : World} {A : Option Addr} {xs : List ByteArray} (h : Txt w A xs) {j : Nat} (hj : j < xs.length) :
    ∃ b off x, A = some ⟨b, off, none⟩ ∧ b < w.heap.size ∧ xs[j]? = some x ∧ x.size ≤ 9223372036854775807 ∧ w.cell? ⟨b, off + j, none⟩ = some (.string x) := by
  obtain ⟨b, off, e, hlt, hc⟩ := h.1.some_ (by rintro rfl; simp at hj)
  have hx : xs[j]? = some xs[j] := List.getElem?_eq_getElem hj
  have h0 := hc j _ hx 0 _ rfl
  rw [Nat.mul_one, Nat.add_zero] at h0
  exact ⟨b, off, xs[j], e, hlt, hx, h.2.2 _ (List.getElem_mem hj), h0⟩
set_option maxHeartbeats 1000000 in
theorem sameT_c (A B : Option Addr) (c d n m : Nat) (xs ys : List ByteArray) (w : World) (hl : Txt w A xs) (hr : Txt w B ys) (hn : xs.length = n) (hm : ys.length = m) :
    Calls Try.prog 37 #[.slice A n c, .slice B m d] w fun e w' => e = .returned (.bool (decide (xs = ys))) ∧ Below w.heap.size w w' := by
  by_cases hnm : n = m
  · subst hnm
    have hb : n ≤ 140737488355328 := by rw [← hn]; exact hl.2.1
    have hrow : Aside (∀ (W : World), Below w.heap.size w W → Txt W A xs ∧ Txt W B ys) := fun W hW => ⟨hl.below hW, hr.below hW⟩
    clear hl hr
    go_enter Try.func37, Try.ntmps37
    go_wp2
    go_loopg [5] n (fun gg s5 wr => ∃ kk : Nat, kk ≤ n ∧ n - kk ≤ gg ∧ s5 = .int .i64 kk ∧ Aside (Below w.heap.size w wr) ∧ Aside (∀ j : Nat, j < kk → xs[j]? = ys[j]?))
    case atStart => exact ⟨0, Nat.zero_le _, by omega, rfl, Below.refl _ w, fun j hj => absurd hj (Nat.not_lt_zero _)⟩
    case round =>
      obtain ⟨kk, hkk, hg, rfl, BW, AA⟩ := hrel
      by_cases hlt : kk < n
      · have hltz : (kk : Int) < (n : Int) := by omega
        obtain ⟨b, off, x, rfl, hbs, hx, hok, c0⟩ := (hrow.out wr BW.out).1.at_ (j := kk) (by omega)
        obtain ⟨b', off', y, rfl, hbs', hy, hok', c0'⟩ := (hrow.out wr BW.out).2.at_ (j := kk) (by omega)
        have hx' : Aside (xs[kk]? = some x) := hx
        have hy' : Aside (ys[kk]? = some y) := hy
        clear hx hok hy hok' hrow
        by_cases hq : x = y
        · have hq' := eqs_t hq
          have hq2 : Aside (x = y) := hq
          clear hq
          go_wp2_with fail
          go_quiet (fail)
          go_wp2_with fail
          go_roundg (n - (kk + 1))
          case measure => omega
          case rel =>
            refine ⟨kk + 1, by omega, by omega, by go_num, bl_drewN BW.out _, (show Aside _ from fun j hj => ?_)⟩
            by_cases e : j = kk
            · subst e
              rw [hx'.out, hy'.out, hq2.out]
            · exact AA.out j (by omega)
        · have hq' := eqs_f hq
          have hq2 : Aside (x ≠ y) := hq
          clear hq
          go_wp2_with fail
          go_quiet (fail)
          go_wp2_with fail
          go_ret
          refine ⟨retB ?_, bl_drewN BW.out _⟩
          have hne : xs ≠ ys := by
            rintro rfl
            have := hy'.out
            rw [hx'.out] at this
            exact hq2.out (Option.some.inj this)
          simp [hne]
      · have hltz : ¬ (kk : Int) < (n : Int) := by omega
        have : kk = n := by omega
        subst this
        go_wp2
        go_ret
        refine ⟨retB ?_, BW.out⟩
        have he : xs = ys := List.ext_getElem? fun j => by
          by_cases hj : j < xs.length
          · exact AA.out j (by omega)
          · rw [List.getElem?_eq_none (by omega), List.getElem?_eq_none (by omega)]
        simp [he]
  · have hnz : ((n : Int) == (m : Int)) = false := by
      rw [beq_eq_false_iff_ne]
      omega
    have hne : xs ≠ ys := by
      rintro rfl
      omega
    clear hl hr
    go_enter Try.func37, Try.ntmps37
    go_wp2
    go_ret
    exact ⟨by simp [hne], Below.refl _ _⟩
/-! a piece that is too long -/
theorem big_c (s : ByteArray) (w : World) (hs : s.size ≤ 9223372036854775807) : Calls Try.prog 67 #[.string s] w fun e w' => e = .returned (.bool (decide (32 < s.size))) ∧ w = w' := by
  go_enter Try.func67, Try.ntmps67
  go_wp2
  all_goals (go_ret; exact ⟨by simp; try omega, rfl⟩)
def bigs (xs : List ByteArray) : Bool := xs.any (fun s => decide (32 < s.size))
theorem bigs_hit {xs : List ByteArray} {k : Nat} {x : ByteArray} (hx : xs[k]? = some x) (h : 32 < x.size) : bigs xs = true := List.any_eq_true.2 ⟨x, List.mem_of_getElem? hx, by simp [h]⟩
theorem bigs_miss {xs : List ByteArray} (h : ∀ j x, j < xs.length → xs[j]? = some x → ¬ 32 < x.size) : bigs xs = false := by
  unfold bigs
  rw [List.any_eq_false]
  intro x hx
  obtain ⟨j, hj, rfl⟩ := List.mem_iff_getElem.1 hx
  simpa using h j _ hj (List.getElem?_eq_getElem hj)
set_option maxHeartbeats 1000000 in
theorem indexT_c (A : Option Addr) (c n : Nat) (xs : List ByteArray) (w : World) (hl : Txt w A xs) (hn : xs.length = n) :
    Calls Try.prog 75 #[.slice A n c, .func (.func 67) #[] #[]] w fun e w' => (∃ r, e = .returned (.int .i64 r) ∧ decide (0 ≤ r) = bigs xs) ∧ Below w.heap.size w w' := by
  have hb : n ≤ 140737488355328 := by rw [← hn]; exact hl.2.1
  have hrow : Aside (∀ (W : World), Below w.heap.size w W → Txt W A xs) := fun W hW => hl.below hW
  clear hl
  go_enter Try.func75, Try.ntmps75
  go_wp2
  go_loopg [5, 8] n (fun gg _ s8 wr => ∃ kk : Nat, kk ≤ n ∧ n - kk ≤ gg ∧ s8 = .int .i64 kk ∧ Aside (Below w.heap.size w wr) ∧ Aside (∀ j x, j < kk → xs[j]? = some x → ¬ 32 < x.size))
  case atStart => exact ⟨0, Nat.zero_le _, by omega, rfl, Below.refl _ w, fun j x hj => absurd hj (Nat.not_lt_zero _)⟩
  case round =>
    obtain ⟨kk, hkk, hg, rfl, BW, AA⟩ := hrel
    by_cases hlt : kk < n
    · have hltz : (kk : Int) < (n : Int) := by omega
      obtain ⟨b, off, x, rfl, hbs, hx, hok, c0⟩ := (hrow.out wr BW.out).at_ (j := kk) (by omega)
      have hcall := Lib.hid (fun W => big_c x W hok)
      have hx' : Aside (xs[kk]? = some x) := hx
      clear hx hok
      by_cases hq : 32 < x.size
      · have hq' : Aside (32 < x.size) := hq
        have hd : decide (32 < x.size) = true := decide_eq_true hq
        rw [hd] at hcall
        clear hq hd
        go_wp2_with (first | (go_at_call 67; with_reducible refine (hcall.out _).mono ?_; rintro e w' ⟨rfl, rfl⟩) | fail)
        go_ret
        refine ⟨⟨_, rfl, ?_⟩, BW.out⟩
        rw [bigs_hit hx'.out hq'.out]
        exact decide_eq_true (by omega)
      · have hq' : Aside (¬ 32 < x.size) := hq
        have hd : decide (32 < x.size) = false := decide_eq_false hq
        rw [hd] at hcall
        clear hq hd
        go_wp2_with (first | (go_at_call 67; with_reducible refine (hcall.out _).mono ?_; rintro e w' ⟨rfl, rfl⟩) | fail)
        go_roundg (n - (kk + 1))
        case measure => omega
        case rel =>
          refine ⟨kk + 1, by omega, by omega, by go_num, BW.out, (show Aside _ from fun j y hj hy => ?_)⟩
          by_cases e : j = kk
          · subst e
            rw [hx'.out] at hy
            cases hy
            exact hq'.out
          · exact AA.out j y (by omega) hy
    · have hltz : ¬ (kk : Int) < (n : Int) := by omega
      have : kk = n := by omega
      subst this
      go_wp2
      go_ret
      refine ⟨⟨_, rfl, ?_⟩, BW.out⟩
      rw [bigs_miss (fun j x hj hx => AA.out j x (by omega) hx)]
      rfl
theorem bigs_c (A : Option Addr) (c n : Nat) (xs : List ByteArray) (w : World) (hl : Txt w A xs) (hn : xs.length = n) :
    Calls Try.prog 66 #[.slice A n c, .func (.func 67) #[] #[]] w fun e w' => e = .returned (.bool (bigs xs)) ∧ Below w.heap.size w w' := by
  go_enter Try.func66, Try.ntmps66
  go_wp2_with (first | (go_at_call 75; refine (indexT_c _ _ _ _ _ hl hn).mono ?_; rintro e w' ⟨⟨r, rfl, hr⟩, hb⟩) | fail)
  all_goals (go_ret; refine ⟨retB ?_, hb⟩; rw [← hr])
end Go.Proofs.Ytfnfnldndmkeeaa.Bk
