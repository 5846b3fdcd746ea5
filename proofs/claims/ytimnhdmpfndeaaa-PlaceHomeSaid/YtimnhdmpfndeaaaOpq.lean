/- Rows of steps: searched, compared. -/
import Derived.Test.YtimnhdmpfndeaaaOps
import Derived.Shelf.SlicesQ.Load
namespace Go.Proofs.Ytimnhdmpfndeaaa.Ops
open Go.RowKit Go.Proofs.Ytimnhdmpfndeaaa.Kt Go.Proofs.Ytimnhdmpfndeaaa.Lw Go.Proofs.Ytimnhdmpfndeaaa.St Go.Proofs.Ytimnhdmpfndeaaa.Nm Go.Proofs.Ytimnhdmpfndeaaa.Es Go.Proofs.Ytimnhdmpfndeaaa.Sl
set_option linter.unusedVariables false
set_option linter.unusedSimpArgs false
/-- a row of steps, each as it may stand in memory. -/
def Row (w : World) (A : Option Addr) (xs : List OpV) : Prop := Lies encOp 3 w A xs ∧ xs.length ≤ 9223372036854775807 ∧ ∀ o ∈ xs, OpOk o
theorem Row.below {w w' : World} {A : Option Addr} {xs : List OpV} (h : Row w A xs) (hb : Below w.heap.size w w') : Row w' A xs := ⟨h.1.below hb, h.2⟩
theorem Row.at_ {w : World} {A : Option Addr} {xs : List OpV} (h : Row w A xs) {j : Nat} (hj : j < xs.length) :
    ∃ b off x, A = some ⟨b, off, none⟩ ∧ b < w.heap.size ∧ xs[j]? = some x ∧ OpOk x ∧ w.cell? ⟨b, off + j * 3, none⟩ = some (.bool x.1) ∧ w.cell? ⟨b, off + j * 3 + 1, none⟩ = some (.int .i64 x.2.1) ∧ w.cell? ⟨b, off + j * 3 + 2, none⟩ = some (.string x.2.2) := by
  obtain ⟨b, off, e, hlt, hc⟩ := h.1.some_ (by rintro rfl; simp at hj)
  have hx : xs[j]? = some xs[j] := List.getElem?_eq_getElem hj
  exact ⟨b, off, xs[j], e, hlt, hx, h.2.2 _ (List.getElem_mem hj), hc j _ hx 0 _ rfl, hc j _ hx 1 _ rfl, hc j _ hx 2 _ rfl⟩
theorem odd_c (o : OpV) (w : World) (ht : OpOk o) : Calls Try.prog 72 #[.agg #[.bool o.1, .int .i64 o.2.1, .string o.2.2]] w fun x w' => x = .returned (.bool (!opMay o)) ∧ Below w.heap.size w w' := by
  have HB := Below.refl w.heap.size w
  have K0 := Blk.new w #[.bool o.1, .int .i64 o.2.1, .string o.2.2] 50
  go_enter Try.func72, Try.ntmps72
  go_wp2_with (first | (go_at_call 73; refine (opMay_c _ _ ht).mono ?_; rintro e w' ⟨rfl, hb⟩; have HB := bl_step (by repeat (with_reducible first | exact HB | apply bl_alloc | apply bl_drew | apply bl_drewN | fail)) hb; have K0 := Blk.below (by repeat (with_reducible first | exact K0 | exact K0 _ | exact K0 _ _ | apply Blk.alloc | apply Blk.drew | apply Blk.drewN | fail)) hb; obtain ⟨_, _, _, _, _, _, _⟩ := Blk.all3 K0) | fail)
  go_ret
  exact ⟨by simp, HB⟩
theorem any_hit {xs : List OpV} {k : Nat} {x : OpV} (hx : xs[k]? = some x) (h : opMay x = false) : xs.any (fun o => !opMay o) = true := List.any_eq_true.2 ⟨x, List.mem_of_getElem? hx, by simp [h]⟩
theorem any_miss {xs : List OpV} (h : ∀ j x, j < xs.length → xs[j]? = some x → opMay x = true) : xs.any (fun o => !opMay o) = false := by
  rw [List.any_eq_false]
  intro x hx
  obtain ⟨j, hj, rfl⟩ := List.mem_iff_getElem.1 hx
  simp [h j _ hj (List.getElem?_eq_getElem hj)]
set_option maxHeartbeats 1000000 in
theorem index_c (A : Option Addr) (c n : Nat) (xs : List OpV) (w : World) (hl : Row w A xs) (hn : xs.length = n) :
    Calls Try.prog 98 #[.slice A n c, .func (.func 72) #[] #[]] w fun e w' => (∃ r, e = .returned (.int .i64 r) ∧ decide (0 ≤ r) = xs.any (fun o => !opMay o)) ∧ Below w.heap.size w w' := by
  have hb : n ≤ 9223372036854775807 := by rw [← hn]; exact hl.2.1
  have hrow : Aside (∀ (W : World), Below w.heap.size w W → Row W A xs) := fun W hW => hl.below hW
  clear hl
  go_enter Try.func98, Try.ntmps98
  go_wp2
  go_loopg [5, 8] n (fun gg _ s8 wr => ∃ kk : Nat, kk ≤ n ∧ n - kk ≤ gg ∧ s8 = .int .i64 kk ∧ Aside (Below w.heap.size w wr) ∧ Aside (∀ j x, j < kk → xs[j]? = some x → opMay x = true))
  case atStart => exact ⟨0, Nat.zero_le _, by omega, rfl, Below.refl _ w, fun j x hj => absurd hj (Nat.not_lt_zero _)⟩
  case round =>
    obtain ⟨kk, hkk, hg, rfl, BW, AA⟩ := hrel
    by_cases hlt : kk < n
    · have hltz : (kk : Int) < (n : Int) := by omega
      obtain ⟨b, off, x, rfl, hbs, hx, hok, c0, c1, c2⟩ := (hrow.out wr BW.out).at_ (j := kk) (by omega)
      have hcall := odd_c x wr hok
      have hx' : Aside (xs[kk]? = some x) := hx
      clear hx hok
      cases hq : opMay x with
      | false =>
        simp only [hq, Bool.not_false, Bool.not_true] at hcall
        have hq' : Aside (opMay x = false) := hq
        clear hq
        go_wp2_with (first | (go_at_call 72; refine hcall.mono ?_; rintro e w' ⟨rfl, hb'⟩) | fail)
        go_ret
        refine ⟨⟨_, rfl, ?_⟩, bl_step BW.out hb'⟩
        rw [any_hit hx'.out hq'.out]
        exact decide_eq_true (by omega)
      | true =>
        simp only [hq, Bool.not_false, Bool.not_true] at hcall
        have hq' : Aside (opMay x = true) := hq
        clear hq
        go_wp2_with (first | (go_at_call 72; refine hcall.mono ?_; rintro e w' ⟨rfl, hb'⟩) | fail)
        go_roundg (n - (kk + 1))
        case measure => omega
        case rel =>
          refine ⟨kk + 1, by omega, by omega, by go_num, bl_step BW.out hb', (show Aside _ from fun j y hj hy => ?_)⟩
          by_cases e : j = kk
          · subst e
            rw [hx'.out] at hy
            cases hy
            exact hq'.out
          · exact AA.out j y (by omega) hy
    · have hltz : ¬ (kk : Int) < (n : Int) := by omega
      have : kk = n := by omega
      subst this
      go_wp2
      go_ret
      refine ⟨⟨_, rfl, ?_⟩, BW.out⟩
      rw [any_miss (fun j x hj hx => AA.out j x (by omega) hx)]
      rfl
theorem odd_any (A : Option Addr) (c n : Nat) (xs : List OpV) (w : World) (hl : Row w A xs) (hn : xs.length = n) :
    Calls Try.prog 78 #[.slice A n c, .func (.func 72) #[] #[]] w fun e w' => e = .returned (.bool (xs.any (fun o => !opMay o))) ∧ Below w.heap.size w w' := by
  go_enter Try.func78, Try.ntmps78
  go_wp2_with (first | (go_at_call 98; refine (index_c _ _ _ _ _ hl hn).mono ?_; rintro e w' ⟨⟨r, rfl, hr⟩, hb⟩) | fail)
  all_goals (go_ret; refine ⟨retB ?_, hb⟩; rw [← hr])
def opEq (x y : OpV) : Bool := x.1 == y.1 && (x.2.1 == y.2.1 && (x.2.2.toList == y.2.2.toList))
theorem opEq_iff (x y : OpV) : opEq x y = true ↔ x = y := by
  obtain ⟨a, b, c⟩ := x
  obtain ⟨a', b', c'⟩ := y
  simp only [opEq, eqs]
  simp
attribute [local go_sem high] eqOp
set_option maxHeartbeats 1000000 in
theorem same_c (A B : Option Addr) (c d n m : Nat) (xs ys : List OpV) (w : World) (hl : Row w A xs) (hr : Row w B ys) (hn : xs.length = n) (hm : ys.length = m) :
    Calls Try.prog 15 #[.slice A n c, .slice B m d] w fun e w' => e = .returned (.bool (decide (xs = ys))) ∧ Below w.heap.size w w' := by
  by_cases hnm : n = m
  · subst hnm
    have hb : n ≤ 9223372036854775807 := by rw [← hn]; exact hl.2.1
    have hrow : Aside (∀ (W : World), Below w.heap.size w W → Row W A xs ∧ Row W B ys) := fun W hW => ⟨hl.below hW, hr.below hW⟩
    clear hl hr
    go_enter Try.func15, Try.ntmps15
    go_wp2
    go_loopg [5] n (fun gg s5 wr => ∃ kk : Nat, kk ≤ n ∧ n - kk ≤ gg ∧ s5 = .int .i64 kk ∧ Aside (Below w.heap.size w wr) ∧ Aside (∀ j : Nat, j < kk → xs[j]? = ys[j]?))
    case atStart => exact ⟨0, Nat.zero_le _, by omega, rfl, Below.refl _ w, fun j hj => absurd hj (Nat.not_lt_zero _)⟩
    case round =>
      obtain ⟨kk, hkk, hg, rfl, BW, AA⟩ := hrel
      by_cases hlt : kk < n
      · have hltz : (kk : Int) < (n : Int) := by omega
        obtain ⟨b, off, x, rfl, hbs, hx, hok, c0, c1, c2⟩ := (hrow.out wr BW.out).1.at_ (j := kk) (by omega)
        obtain ⟨b', off', y, rfl, hbs', hy, hok', c0', c1', c2'⟩ := (hrow.out wr BW.out).2.at_ (j := kk) (by omega)
        have hx' : Aside (xs[kk]? = some x) := hx
        have hy' : Aside (ys[kk]? = some y) := hy
        clear hx hok hy hok' hrow
        cases hq : opEq x y with
        | false =>
          have hq' : Aside (opEq x y = false) := hq
          simp only [opEq] at hq
          go_wp2_with fail
          go_quiet (fail)
          go_wp2_with fail
          go_ret
          refine ⟨retB ?_, bl_drewN BW.out _⟩
          have hne : xs ≠ ys := by
            rintro rfl
            rw [hx'.out] at hy'
            have : x = y := Option.some.inj hy'.out
            rw [(opEq_iff x y).2 this] at hq'
            exact absurd hq'.out (by simp)
          simp [hne]
        | true =>
          have hq' : Aside (opEq x y = true) := hq
          simp only [opEq] at hq
          go_wp2_with fail
          go_quiet (fail)
          go_wp2_with fail
          go_roundg (n - (kk + 1))
          case measure => omega
          case rel =>
            refine ⟨kk + 1, by omega, by omega, by go_num, bl_drewN BW.out _, (show Aside _ from fun j hj => ?_)⟩
            by_cases e : j = kk
            · subst e
              rw [hx'.out, hy'.out, (opEq_iff x y).1 hq'.out]
            · exact AA.out j (by omega)
      · have hltz : ¬ (kk : Int) < (n : Int) := by omega
        have : kk = n := by omega
        subst this
        go_wp2
        go_ret
        refine ⟨retB ?_, BW.out⟩
        have he : xs = ys := List.ext_getElem? fun j => by
          by_cases hj : j < xs.length
          · exact AA.out j (by omega)
          · rw [List.getElem?_eq_none (by omega), List.getElem?_eq_none (by omega)]
        simp [he]
  · have hnz : ((n : Int) == (m : Int)) = false := by
      rw [beq_eq_false_iff_ne]
      omega
    have hne : xs ≠ ys := by
      rintro rfl
      omega
    clear hl hr
    go_enter Try.func15, Try.ntmps15
    go_wp2
    go_ret
    exact ⟨by simp [hne], Below.refl _ _⟩
end Go.Proofs.Ytimnhdmpfndeaaa.Ops
