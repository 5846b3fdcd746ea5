/- Devices: the plain form; rows of steps of one's own; copies. -/
import Derived.Test.YtalgfekpcklijaaGreatDew
import Derived.Test.YtalgfekpcklijaaGreatGb
namespace Go.Proofs.YtalgfekpcklijaaGreat.Dv
open Go.RowKit Go.Proofs.YtalgfekpcklijaaGreat.Kt Go.Proofs.YtalgfekpcklijaaGreat.Lw Go.Proofs.YtalgfekpcklijaaGreat.St Go.Proofs.YtalgfekpcklijaaGreat.Nm Go.Proofs.YtalgfekpcklijaaGreat.Es Go.Proofs.YtalgfekpcklijaaGreat.Sl Go.Proofs.YtalgfekpcklijaaGreat.Gr Go.Proofs.YtalgfekpcklijaaGreat.Ops Go.Proofs.YtalgfekpcklijaaGreat.Pl
set_option linter.unusedVariables false
set_option linter.unusedSimpArgs false
/-- a device. -/
structure DS where
  st : Int
  su : Int
  nx : Int
  go : Int
  sl : Int
  ops : List OpV
def DS.may (d : DS) : Bool := devMay d.st d.su d.nx d.go d.sl d.ops
def DS.zero : DS := ⟨0, 0, 0, 0, 0, []⟩
def DS.fail (k : Int) : DS := ⟨7, k, 0, 0, 0, []⟩
theorem may_len {d : DS} (h : d.may = true) : d.ops.length ≤ 768 := by
  simp [DS.may, devMay] at h
  omega
theorem may_ops {d : DS} (h : d.may = true) : ∀ o ∈ d.ops, opMay o = true := by
  simp [DS.may, devMay] at h
  rintro ⟨b, a, t⟩ ho
  cases b
  · exact h.2.2.2.2.2.2.1 a t ho
  · exact h.2.2.2.2.2.2.2 a t ho
theorem may_nums {d : DS} (h : d.may = true) : (0 ≤ d.st ∧ d.st ≤ 7) ∧ (0 ≤ d.su ∧ d.su ≤ 6) ∧ (0 ≤ d.nx ∧ d.nx ≤ 16) ∧ (0 ≤ d.go ∧ d.go ≤ 288) ∧ (0 ≤ d.sl ∧ d.sl ≤ 1) := by
  simp [DS.may, devMay, rngB] at h
  exact ⟨h.1, h.2.1, h.2.2.1, h.2.2.2.1, h.2.2.2.2.1⟩
theorem own_at0 {W : World} {base k n c : Nat} {e : TypeId} {A : Option Addr} {cs : List Value} (h : W.ownsRow base e k (.slice A n c) n cs) (hn : 0 < n) : ∃ g, A = some ⟨g, 0, none⟩ ∧ base ≤ g := by
  rcases h.2 with ⟨_, h0⟩ | ⟨g, cap, cur, hv, hb, hg, hnc, hcm, _⟩
  · omega
  · injection hv with h1 h2 h3
    exact ⟨g, h1, hb⟩
/-- a row of steps in blocks from base on alone. -/
def Own (w : World) (base : Nat) (A : Option Addr) (xs : List OpV) : Prop := Row w A xs ∧ (xs = [] ∨ ∃ g off, A = some ⟨g, off, none⟩ ∧ base ≤ g ∧ g < w.heap.size ∧ ∀ j, w.frozen? ⟨g, off + j, none⟩ = false)
theorem Own.nil {w : World} {base : Nat} {A : Option Addr} : Own w base A [] := ⟨Row.none, .inl rfl⟩
theorem Own.below {w w' : World} {base : Nat} {A : Option Addr} {xs : List OpV} (h : Own w base A xs) (hb : Below w.heap.size w w') : Own w' base A xs := by
  refine ⟨h.1.below hb, ?_⟩
  rcases h.2 with h | ⟨g, off, rfl, h1, h2, h3⟩
  · exact .inl h
  · exact .inr ⟨g, off, rfl, h1, Nat.lt_of_lt_of_le h2 hb.size, fun j => (World.frozen?_of_block (a := ⟨g, off + j, none⟩) (hb.block g h2)).trans (h3 j)⟩
theorem Own.mono {w : World} {base base' : Nat} {A : Option Addr} {xs : List OpV} (h : Own w base A xs) (hb : base' ≤ base) : Own w base' A xs := by
  refine ⟨h.1, ?_⟩
  rcases h.2 with h | ⟨g, off, rfl, h1, h2⟩
  · exact .inl h
  · exact .inr ⟨g, off, rfl, Nat.le_trans hb h1, h2⟩
theorem own_of {w : World} {base n c : Nat} {A : Option Addr} {xs : List OpV} {T : TypeId} (h : w.ownsRow base T 3 (.slice A n c) n (xs.flatMap encOp)) (hn : xs.length = n) (hl : n ≤ 9223372036854775807) (ho : ∀ o ∈ xs, OpOk o) : Own w base A xs := by
  have hL := lies_own encOp_len h hn
  refine ⟨⟨hL, by omega, ho⟩, ?_⟩
  by_cases hx : xs = []
  · exact .inl hx
  · obtain ⟨g, off, rfl, hlt, _⟩ := hL.some_ hx
    have hn0 : 0 < n := by
      rw [← hn]
      exact List.length_pos_iff.2 hx
    obtain ⟨g', he, hb⟩ := own_at0 h hn0
    injection he with he
    injection he with h1 h2 _
    subst h1 h2
    exact .inr ⟨g, 0, rfl, hb, hlt, fun j => by rw [Nat.zero_add]; exact h.frozenAt j⟩
theorem Own.tail {w : World} {base : Nat} {A : Option Addr} {x : OpV} {xs : List OpV} {g off : Nat} (h : Own w base (some ⟨g, off, none⟩) (x :: xs)) : Own w base (some ⟨g, off + 3, none⟩) xs := by
  obtain ⟨⟨hL, hl, ho⟩, hw⟩ := h
  obtain ⟨b, off', he, hlt, hc⟩ := hL.some_ (by simp)
  injection he with he
  injection he with h1 h2 _
  subst h1 h2
  refine ⟨⟨.inr ⟨g, off + 3, rfl, hlt, fun j y hj i v hv => ?_⟩, by simp at hl; omega, fun o h => ho o (by simp [h])⟩, ?_⟩
  · have := hc (j + 1) y (by simpa using hj) i v hv
    rw [show off + (j + 1) * 3 + i = off + 3 + j * 3 + i by omega] at this
    exact this
  · rcases hw with h | ⟨g', off', he, h3, h4, h5⟩
    · cases h
    · injection he with he
      injection he with h1 h2 _
      subst h1 h2
      exact .inr ⟨g, off + 3, rfl, h3, h4, fun j => by rw [Nat.add_assoc]; exact h5 (3 + j)⟩
set_option maxHeartbeats 1600000 in
theorem spoil_some (g off c n base : Nat) (xs : List OpV) (w : World) (h : Own w base (some ⟨g, off, none⟩) xs) (hn : xs.length = n) (hx : 0 < n) :
    Calls Tryz.prog 58 #[.slice (some ⟨g, off, none⟩) n c] w fun e w' => e = .returned (.tuple #[]) ∧ Below base w w' := by
  obtain ⟨⟨hL, hl, _⟩, hw⟩ := h
  obtain ⟨b, off', he, hlt, hc⟩ := hL.some_ (by intro e; rw [e] at hn; simp at hn; omega)
  injection he with he
  injection he with h1 h2 _
  subst h1 h2
  have hg : base ≤ g ∧ ∀ j, w.frozen? ⟨g, off + j, none⟩ = false := by
    rcases hw with h | ⟨g', off', he, h3, h4, h5⟩
    · rw [h] at hn; simp at hn; omega
    · injection he with he
      injection he with h1 h2 _
      subst h1 h2
      exact ⟨h3, h5⟩
  have hA := Lib.hid (show ∀ j, 0 ≤ j → j < n → ∃ a, w.cell? ⟨g, off + j * 3 + 1, none⟩ = some (.int .i64 a) from fun j _ hj => ⟨_, hc j _ (List.getElem?_eq_getElem (by omega)) 1 _ rfl⟩)
  have hF := Lib.hid hg.2
  have hgb := hg.1
  rw [hn] at hl
  clear hL hc hw hg
  go_enter Tryz.func58, Tryz.ntmps58
  go_wp2
  go_loopg [2] n (fun gg s2 wr => ∃ k : Nat, k ≤ n ∧ n - k ≤ gg ∧ s2 = .int .i64 k ∧ Aside (Below base w wr) ∧ Aside (∀ j, wr.frozen? ⟨g, off + j, none⟩ = false) ∧ Aside (∀ j, k ≤ j → j < n → ∃ a, wr.cell? ⟨g, off + j * 3 + 1, none⟩ = some (.int .i64 a)))
  case atStart => exact ⟨0, Nat.zero_le _, by omega, rfl, Below.refl _ _, hF.out, hA.out⟩
  case round =>
    obtain ⟨k, hk, hgg, rfl, BW, FF, AA⟩ := hrel
    by_cases hlt : k < n
    · have hltz : (k : Int) < (n : Int) := by omega
      obtain ⟨a, c0⟩ := AA.out k (Nat.le_refl _) hlt
      have f0 := FF.out (k * 3 + 1)
      rw [← Nat.add_assoc] at f0
      go_wp2_with fail
      go_roundg (n - (k + 1))
      case measure => omega
      case rel =>
        refine ⟨k + 1, by omega, by omega, by go_num, BW.out.setCell hgb _, (show Aside _ from fun j => ?_), (show Aside _ from fun j hj hj2 => ?_)⟩
        · rw [World.frozen?_setCell]
          exact FF.out j
        · obtain ⟨a', ha'⟩ := AA.out j (by omega) hj2
          refine ⟨a', ?_⟩
          rw [World.cell?_setCell_other (h := by intro e'; injection e' with _ e' _; omega)]
          exact ha'
    · have hltz : ¬ (k : Int) < (n : Int) := by omega
      go_wp2_with fail
      exact ⟨rfl, .tuple #[], by simp [results, Tryz.results58, go_sem], rfl, BW.out⟩
theorem spoil_nil (A : Option Addr) (c : Nat) (w : World) : Calls Tryz.prog 58 #[.slice A 0 c] w fun e w' => e = .returned (.tuple #[]) ∧ w = w' := by
  go_enter Tryz.func58, Tryz.ntmps58
  go_wp2
  go_loopg [2] 0 (fun gg s2 wr => s2 = .int .i64 0 ∧ w = wr)
  case atStart => exact ⟨rfl, rfl⟩
  case round =>
    obtain ⟨rfl, rfl⟩ := hrel
    go_wp2_with fail
    exact ⟨rfl, .tuple #[], by simp [results, Tryz.results58, go_sem], rfl, rfl⟩
theorem spoil_own (A : Option Addr) (c n base : Nat) (xs : List OpV) (w : World) (h : Own w base A xs) (hn : xs.length = n) :
    Calls Tryz.prog 58 #[.slice A n c] w fun e w' => e = .returned (.tuple #[]) ∧ Below base w w' := by
  rcases h.2 with hx | ⟨g, off, rfl, h1, h2, h3⟩
  · subst hx
    have : n = 0 := by rw [← hn]; rfl
    subst this
    refine (spoil_nil A c w).mono ?_
    rintro e w' ⟨rfl, rfl⟩
    exact ⟨rfl, Below.refl _ _⟩
  · by_cases h0 : 0 < n
    · exact spoil_some g off c n base xs w h hn h0
    · have : n = 0 := by omega
      subst this
      refine (spoil_nil _ c w).mono ?_
      rintro e w' ⟨rfl, rfl⟩
      exact ⟨rfl, Below.refl _ _⟩
set_option maxHeartbeats 1600000 in
theorem spoild_own (d : DS) (A : Option Addr) (c n base : Nat) (w : World) (h : Own w base A d.ops) (hn : d.ops.length = n) (hbase : base ≤ w.heap.size) :
    Calls Tryz.prog 19 #[(.agg #[.int .i64 d.st, .int .i64 d.su, .int .i64 d.nx, .int .i64 d.go, .int .i64 d.sl, .slice A n c])] w fun e w' => e = .returned (.tuple #[]) ∧ Below base w w' := by
  have ho := Lib.hid (h.below (bl_alloc (Below.refl _ _) (.cells #[.int .i64 d.st, .int .i64 d.su, .int .i64 d.nx, .int .i64 d.go, .int .i64 d.sl, .slice A n c] 24)))
  have hal : Below base w (w.alloc (.cells #[.int .i64 d.st, .int .i64 d.su, .int .i64 d.nx, .int .i64 d.go, .int .i64 d.sl, .slice A n c] 24)) := (Below.refl base w).alloc hbase _
  have K0 := Blk.new w #[.int .i64 d.st, .int .i64 d.su, .int .i64 d.nx, .int .i64 d.go, .int .i64 d.sl, .slice A n c] 24
  obtain ⟨_, _, _, _, _, _, _⟩ := Blk.all6 K0
  go_enter Tryz.func19, Tryz.ntmps19
  go_wp2_with (first | (go_at_call 58; (with_reducible refine (spoil_own A c n base d.ops _ ho.out hn).mono ?_); rintro e w' ⟨rfl, hb⟩) | fail)
  exact ⟨rfl, .tuple #[], by simp [results, Tryz.results19, go_sem], rfl, hal.trans hb⟩
end Go.Proofs.YtalgfekpcklijaaGreat.Dv
