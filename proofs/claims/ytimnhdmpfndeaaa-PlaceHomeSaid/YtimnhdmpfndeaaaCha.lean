/- Layer 7: which record is active, in plain Lean. -/
import Derived.Test.YtimnhdmpfndeaaaIma
import Derived.Test.YtimnhdmpfndeaaaHpf
import Derived.Test.YtimnhdmpfndeaaaSlc
namespace Go.Proofs.Ytimnhdmpfndeaaa.Ch
open Go.RowKit Go.Proofs.Ytimnhdmpfndeaaa.Kt Go.Proofs.Ytimnhdmpfndeaaa.Lw Go.Proofs.Ytimnhdmpfndeaaa.St Go.Proofs.Ytimnhdmpfndeaaa.Nm Go.Proofs.Ytimnhdmpfndeaaa.By Go.Proofs.Ytimnhdmpfndeaaa.En Go.Proofs.Ytimnhdmpfndeaaa.Jr Go.Proofs.Ytimnhdmpfndeaaa.Im Go.Proofs.Ytimnhdmpfndeaaa.Sl
set_option linter.unusedVariables false
set_option linter.unusedSimpArgs false
attribute [local irreducible] gotB goodB Cr.crcB nQ nS nZ nM placeB
/-- a record of a scan. -/
def PlOk (f : ByteArray) (p : PlV) : Prop := ∃ k, k < 8 ∧ p = plOf f k ∧ gotB (placeB f k) = true
theorem scanN_ok (f : ByteArray) : ∀ n, n ≤ 8 → ∀ p ∈ scanN f n, PlOk f p ∧ p.at_ < 24 * (n : Int)
  | 0, _, p, h => by simp [scanN] at h
  | n + 1, hn, p, h => by
    rw [scanN, List.mem_append] at h
    rcases h with h | h
    · obtain ⟨a, b⟩ := scanN_ok f n (by omega) p h
      exact ⟨a, by omega⟩
    · cases hg : gotB (placeB f n)
      · rw [hg] at h; simp at h
      · rw [hg] at h
        simp at h
        subst h
        exact ⟨⟨n, by omega, rfl, hg⟩, by simp only [plOf]; omega⟩
theorem scan_ok {f : ByteArray} {p : PlV} (h : p ∈ scanL f) : PlOk f p := (scanN_ok f 8 (Nat.le_refl _) p h).1
theorem PlOk.may {f : ByteArray} {p : PlV} (h : PlOk f p) : recMay p.q p.s p.z p.m = true := by
  obtain ⟨k, _, rfl, hg⟩ := h
  simp only [gotB, Bool.and_eq_true] at hg
  simp only [plOf]
  exact hg.2.2
theorem PlOk.at_rng {f : ByteArray} {p : PlV} (h : PlOk f p) : 0 ≤ p.at_ ∧ p.at_ ≤ 168 := by
  obtain ⟨k, _, rfl, hg⟩ := h
  simp only [plOf]
  omega
theorem PlOk.same {f : ByteArray} {p p' : PlV} (h : PlOk f p) (h' : PlOk f p') (e : p.at_ = p'.at_) : p = p' := by
  obtain ⟨k, _, rfl, _⟩ := h
  obtain ⟨k', _, rfl, _⟩ := h'
  have : k = k' := by simp only [plOf] at e; omega
  rw [this]
def gdP (f : ByteArray) (p : PlV) : Bool := goodB f p.s p.z p.m
/-- p stands ahead of x, or is it. -/
def leP (p x : PlV) : Prop := x.q < p.q ∨ (p.q = x.q ∧ x.at_ ≤ p.at_)
theorem leP.refl (p : PlV) : leP p p := .inr ⟨rfl, Int.le_refl _⟩
theorem leP.trans {a b c : PlV} (h : leP a b) (k : leP b c) : leP a c := by
  unfold leP at *
  omega
theorem leP.total (a b : PlV) : leP a b ∨ leP b a := by
  unfold leP
  omega
/-- the program's order. -/
def lessB (a b : PlV) : Bool := bif a.q != b.q then decide (b.q < a.q) else decide (b.at_ < a.at_)
theorem less_no {a b : PlV} (h : lessB a b = false) : leP b a := by
  unfold lessB at h
  unfold leP
  by_cases e : a.q = b.q
  · simp [e] at h
    omega
  · have e' : (a.q != b.q) = true := by simpa using e
    simp [e'] at h
    omega
theorem less_yes {a b : PlV} (h : lessB a b = true) : leP a b := by
  unfold lessB at h
  unfold leP
  by_cases e : a.q = b.q
  · simp [e] at h
    omega
  · have e' : (a.q != b.q) = true := by simpa using e
    simp [e'] at h
    omega
structure IsBest (f : ByteArray) (l : List PlV) (p : PlV) : Prop where
  mem : p ∈ l
  good : gdP f p = true
  first : ∀ x ∈ l, gdP f x = true → leP p x
theorem IsBest.one {f : ByteArray} {p p' : PlV} (h : IsBest f (scanL f) p) (h' : IsBest f (scanL f) p') : p = p' := by
  have a := h.first p' h'.mem h'.good
  have b := h'.first p h.mem h.good
  refine (scan_ok h.mem).same (scan_ok h'.mem) ?_
  unfold leP at a b
  omega
/-- the references' way: the last of the greatest. -/
def stepB (f : ByteArray) (o : Option PlV) (x : PlV) : Option PlV :=
  bif gdP f x then (match o with | none => some x | some p => if p.q ≤ x.q then some x else some p) else o
def bestL (f : ByteArray) (l : List PlV) : Option PlV := l.foldl (stepB f) none
def activeO (f : ByteArray) : Option PlV := bestL f (scanL f)
def BestO (f : ByteArray) (l : List PlV) : Option PlV → Prop
  | none => ∀ x ∈ l, gdP f x = false
  | some p => IsBest f l p
theorem step_no {f : ByteArray} {o : Option PlV} {x : PlV} (h : gdP f x = false) : stepB f o x = o := by simp [stepB, h]
theorem step_new {f : ByteArray} {x : PlV} (h : gdP f x = true) : stepB f none x = some x := by simp [stepB, h]
theorem step_up {f : ByteArray} {p x : PlV} (h : gdP f x = true) (hq : p.q ≤ x.q) : stepB f (some p) x = some x := by simp [stepB, h, hq]
theorem step_keep {f : ByteArray} {p x : PlV} (hq : ¬ p.q ≤ x.q) : stepB f (some p) x = some p := by
  unfold stepB
  cases gdP f x
  · rfl
  · simp [hq]
theorem best_snoc {f : ByteArray} {l : List PlV} {x : PlV} {o : Option PlV} (h : BestO f l o) (hx : ∀ y ∈ l, y.at_ < x.at_) : BestO f (l ++ [x]) (stepB f o x) := by
  cases hg : gdP f x
  · rw [step_no hg]
    cases o with
    | none =>
      intro y hy
      rw [List.mem_append] at hy
      rcases hy with hy | hy
      · exact h y hy
      · simp at hy; subst hy; exact hg
    | some p =>
      refine ⟨List.mem_append_left _ h.mem, h.good, fun y hy gy => ?_⟩
      rw [List.mem_append] at hy
      rcases hy with hy | hy
      · exact h.first y hy gy
      · simp at hy; subst hy; rw [hg] at gy; cases gy
  · cases o with
    | none =>
      rw [step_new hg]
      refine ⟨by simp, hg, fun y hy gy => ?_⟩
      rw [List.mem_append] at hy
      rcases hy with hy | hy
      · rw [h y hy] at gy; cases gy
      · simp at hy; subst hy; exact leP.refl _
    | some p =>
      by_cases hq : p.q ≤ x.q
      · rw [step_up hg hq]
        refine ⟨by simp, hg, fun y hy gy => ?_⟩
        rw [List.mem_append] at hy
        rcases hy with hy | hy
        · have a := h.first y hy gy
          have b := hx p h.mem
          have c := hx y hy
          unfold leP at *
          omega
        · simp at hy; subst hy; exact leP.refl _
      · rw [step_keep hq]
        refine ⟨List.mem_append_left _ h.mem, h.good, fun y hy gy => ?_⟩
        rw [List.mem_append] at hy
        rcases hy with hy | hy
        · exact h.first y hy gy
        · simp at hy; subst hy; unfold leP; omega
theorem best_scanN (f : ByteArray) : ∀ n, n ≤ 8 → BestO f (scanN f n) (bestL f (scanN f n))
  | 0, _ => by intro x hx; simp [scanN] at hx
  | n + 1, hn => by
    have ih := best_scanN f n (by omega)
    cases hg : gotB (placeB f n)
    · rw [scan_f hg]
      exact ih
    · rw [scan_t hg]
      have e : bestL f (scanN f n ++ [plOf f n]) = stepB f (bestL f (scanN f n)) (plOf f n) := by simp only [bestL, List.foldl_append, List.foldl_cons, List.foldl_nil]
      rw [e]
      refine best_snoc ih fun y hy => ?_
      have := (scanN_ok f n (by omega) y hy).2
      simp only [plOf]
      exact this
theorem active_best (f : ByteArray) : BestO f (scanL f) (activeO f) := by
  have h := best_scanN f 8 (Nat.le_refl _)
  unfold activeO scanL
  exact h
theorem active_some {f : ByteArray} {p : PlV} (h : IsBest f (scanL f) p) : activeO f = some p := by
  have k := active_best f
  cases ho : activeO f with
  | none =>
    rw [ho] at k
    have := k p h.mem
    rw [h.good] at this
    cases this
  | some p' =>
    rw [ho] at k
    rw [IsBest.one h k]
theorem active_none {f : ByteArray} (h : ∀ x ∈ scanL f, gdP f x = false) : activeO f = none := by
  have k := active_best f
  cases ho : activeO f with
  | none => rfl
  | some p =>
    rw [ho] at k
    have := h p k.mem
    rw [k.good] at this
    cases this
def actV (f : ByteArray) : Array Value := match activeO f with
  | some p => #[.int .i64 p.at_, .int .i64 p.q, .int .i64 p.s, .int .i64 p.z, .int .i64 p.m]
  | none => #[.int .i64 0, .int .i64 0, .int .i64 0, .int .i64 0, .int .i64 0]
def actE (f : ByteArray) : Int := match activeO f with | some _ => 0 | none => 701
/-- a row of places in memory. -/
theorem encP_len (x : PlV) : (encP x).length = 5 := rfl
theorem encP_one (x : PlV) : ∀ u ∈ encP x, u.oneCell' = true := by
  intro u hu
  simp [encP] at hu
  rcases hu with rfl | rfl | rfl | rfl | rfl <;> rfl
theorem lies_at {w : World} {A : Option Addr} {xs : List PlV} (h : Lies encP 5 w A xs) {j : Nat} (hj : j < xs.length) :
    ∃ b off x, A = some ⟨b, off, none⟩ ∧ b < w.heap.size ∧ xs[j]? = some x ∧ w.cell? ⟨b, off + j * 5, none⟩ = some (.int .i64 x.at_) ∧ w.cell? ⟨b, off + j * 5 + 1, none⟩ = some (.int .i64 x.q) ∧ w.cell? ⟨b, off + j * 5 + 2, none⟩ = some (.int .i64 x.s) ∧ w.cell? ⟨b, off + j * 5 + 3, none⟩ = some (.int .i64 x.z) ∧ w.cell? ⟨b, off + j * 5 + 4, none⟩ = some (.int .i64 x.m) := by
  obtain ⟨b, off, e, hlt, hc⟩ := h.some_ (by rintro rfl; simp at hj)
  have hx : xs[j]? = some xs[j] := List.getElem?_eq_getElem hj
  exact ⟨b, off, xs[j], e, hlt, hx, hc j _ hx 0 _ rfl, hc j _ hx 1 _ rfl, hc j _ hx 2 _ rfl, hc j _ hx 3 _ rfl, hc j _ hx 4 _ rfl⟩
end Go.Proofs.Ytimnhdmpfndeaaa.Ch
