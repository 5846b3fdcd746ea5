/- Texts laid as one: Hpf Cha Chc Chd Che Chb Chf. -/
import Derived.Test.YtccblleobcidfaaGreatGb
import Derived.Test.YtccblleobcidfaaGreatGk
import Derived.RegionTactic
import Derived.BigRegion
import Derived.ChangeAlike
/- A heap of rows, in plain Lean: sifting down, the first of it. -/
section
namespace Go.Proofs.YtccblleobcidfaaGreat.Hp
set_option linter.unusedVariables false
set_option linter.unusedSimpArgs false
section
variable {α : Type}
/-- two places change their values. -/
def swF (f : Nat → α) (i j : Nat) : Nat → α := fun k => if k = i then f j else if k = j then f i else f k
/-- from i0 on no child stands ahead of its parent. -/
def HeapF (le : α → α → Prop) (f : Nat → α) (i0 n : Nat) : Prop := ∀ p c, i0 ≤ p → c < n → (c = 2 * p + 1 ∨ c = 2 * p + 2) → le (f p) (f c)
/-- the same but at i, whose children stand not ahead of its parent. -/
def HeapX (le : α → α → Prop) (f : Nat → α) (i i0 n : Nat) : Prop :=
  (∀ p c, i0 ≤ p → p ≠ i → c < n → (c = 2 * p + 1 ∨ c = 2 * p + 2) → le (f p) (f c)) ∧
  (∀ q c, i0 ≤ q → (i = 2 * q + 1 ∨ i = 2 * q + 2) → c < n → (c = 2 * i + 1 ∨ c = 2 * i + 2) → le (f q) (f c))
/-- the same values at the first n places, and those behind them as they were. -/
def SameF (f g : Nat → α) (n : Nat) : Prop := (∀ k, k < n → ∃ m, m < n ∧ g k = f m) ∧ (∀ k, k < n → ∃ m, m < n ∧ f k = g m) ∧ ∀ k, n ≤ k → g k = f k
theorem SameF.refl (f : Nat → α) (n : Nat) : SameF f f n := ⟨fun k h => ⟨k, h, rfl⟩, fun k h => ⟨k, h, rfl⟩, fun _ _ => rfl⟩
theorem SameF.trans {f g h : Nat → α} {n : Nat} (a : SameF f g n) (b : SameF g h n) : SameF f h n := by
  refine ⟨fun k hk => ?_, fun k hk => ?_, fun k hk => (b.2.2 k hk).trans (a.2.2 k hk)⟩
  · obtain ⟨m, hm, e⟩ := b.1 k hk
    obtain ⟨m', hm', e'⟩ := a.1 m hm
    exact ⟨m', hm', e.trans e'⟩
  · obtain ⟨m, hm, e⟩ := a.2.1 k hk
    obtain ⟨m', hm', e'⟩ := b.2.1 m hm
    exact ⟨m', hm', e.trans e'⟩
theorem SameF.up {f g : Nat → α} {n m : Nat} (a : SameF f g n) (h : n ≤ m) : SameF f g m := by
  refine ⟨fun k hk => ?_, fun k hk => ?_, fun k hk => a.2.2 k (by omega)⟩
  · by_cases hn : k < n
    · obtain ⟨m', hm, e⟩ := a.1 k hn
      exact ⟨m', by omega, e⟩
    · exact ⟨k, hk, a.2.2 k (by omega)⟩
  · by_cases hn : k < n
    · obtain ⟨m', hm, e⟩ := a.2.1 k hn
      exact ⟨m', by omega, e⟩
    · exact ⟨k, hk, (a.2.2 k (by omega)).symm⟩
theorem swF_same (f : Nat → α) {i j n : Nat} (hi : i < n) (hj : j < n) : SameF f (swF f i j) n := by
  refine ⟨fun k hk => ?_, fun k hk => ?_, fun k hk => ?_⟩
  · unfold swF
    by_cases h1 : k = i
    · exact ⟨j, hj, by simp [h1]⟩
    · by_cases h2 : k = j
      · exact ⟨i, hi, by rw [if_neg h1, if_pos h2]⟩
      · exact ⟨k, hk, by simp [h1, h2]⟩
  · unfold swF
    by_cases h1 : k = i
    · by_cases h : j = i
      · exact ⟨i, hi, by simp [h1, h]⟩
      · exact ⟨j, hj, by simp [h1, h]⟩
    · by_cases h2 : k = j
      · exact ⟨i, hi, by subst h2; simp⟩
      · exact ⟨k, hk, by simp [h1, h2]⟩
  · unfold swF
    rw [if_neg (by omega), if_neg (by omega)]
variable {le : α → α → Prop} {f : Nat → α} {i i0 n : Nat}
theorem HeapX.first (h : HeapF le f (i0 + 1) n) : HeapX le f i0 i0 n :=
  ⟨fun p c h0 h1 h2 h3 => h p c (by omega) h2 h3, fun q c h0 h1 h2 h3 => by omega⟩
theorem HeapX.done (h : HeapX le f i i0 n) (hc : ∀ c, c < n → (c = 2 * i + 1 ∨ c = 2 * i + 2) → le (f i) (f c)) : HeapF le f i0 n := by
  intro p c h0 h1 h2
  by_cases e : p = i
  · subst e
    exact hc c h1 h2
  · exact h.1 p c h0 e h1 h2
theorem HeapX.step (h : HeapX le f i i0 n) (hi : i0 ≤ i) {j : Nat} (hj : j = 2 * i + 1 ∨ j = 2 * i + 2) (hn : j < n) (hc : ∀ c, c < n → (c = 2 * i + 1 ∨ c = 2 * i + 2) → le (f j) (f c)) (hl : le (f j) (f i)) :
    HeapX le (swF f i j) j i0 n := by
  constructor
  · intro p c h0 h1 h2 h3
    by_cases e : p = i
    · subst e
      unfold swF
      rw [if_pos rfl]
      by_cases e2 : c = j
      · rw [if_neg (by omega), if_pos e2]
        exact hl
      · rw [if_neg (by omega), if_neg e2]
        exact hc c h2 h3
    · unfold swF
      rw [if_neg e, if_neg h1]
      by_cases e2 : c = i
      · subst e2
        rw [if_pos rfl]
        exact h.2 p j h0 h3 hn hj
      · by_cases e3 : c = j
        · omega
        · rw [if_neg e2, if_neg e3]
          exact h.1 p c h0 e h2 h3
  · intro q c h0 h1 h2 h3
    obtain rfl : q = i := by omega
    unfold swF
    rw [if_pos rfl, if_neg (by omega), if_neg (by omega)]
    exact h.1 j c (by omega) (by omega) h2 h3
theorem HeapF.head (h : HeapF le f 0 n) (hr : ∀ a, le a a) (ht : ∀ a b c, le a b → le b c → le a c) : ∀ k, k < n → le (f 0) (f k) := by
  intro k
  induction k using Nat.strongRecOn with
  | _ k ih =>
    intro hk
    by_cases e : k = 0
    · subst e
      exact hr _
    · have hp : (k - 1) / 2 < k := by omega
      exact ht _ _ _ (ih _ hp (by omega)) (h ((k - 1) / 2) k (Nat.zero_le _) hk (by omega))
theorem HeapF.none (h : n ≤ 2 * i0 + 1) : HeapF le f i0 n := fun p c h0 h1 h2 => by omega
theorem HeapF.less (h : HeapF le f i0 n) {m : Nat} (hm : m ≤ n) : HeapF le f i0 m := fun p c h0 h1 h2 => h p c h0 (by omega) h2
/-- the last one put first: what is left is a heap but at its head. -/
theorem HeapF.pop {n : Nat} (h : HeapF le f 0 (n + 1)) : HeapX le (swF f 0 n) 0 0 n := by
  refine ⟨fun p c h0 h1 h2 h3 => ?_, fun q c h0 h1 h2 h3 => by omega⟩
  unfold swF
  rw [if_neg h1, if_neg (by omega), if_neg (by omega), if_neg (by omega)]
  exact h p c h0 (by omega) h3
end
end Go.Proofs.YtccblleobcidfaaGreat.Hp
end
/- Layer 7: which record is active, in plain Lean. -/
section
namespace Go.Proofs.YtccblleobcidfaaGreat.Ch
open Go.RowKit Go.Proofs.YtccblleobcidfaaGreat.Kt Go.Proofs.YtccblleobcidfaaGreat.Lw Go.Proofs.YtccblleobcidfaaGreat.St Go.Proofs.YtccblleobcidfaaGreat.Nm Go.Proofs.YtccblleobcidfaaGreat.By Go.Proofs.YtccblleobcidfaaGreat.En Go.Proofs.YtccblleobcidfaaGreat.Jr Go.Proofs.YtccblleobcidfaaGreat.Im Go.Proofs.YtccblleobcidfaaGreat.Sl
set_option linter.unusedVariables false
set_option linter.unusedSimpArgs false
attribute [local irreducible] gotB goodB Cr.crcB nQ nS nZ nM placeB
/-- a record of a scan. -/
def PlOk (f : ByteArray) (p : PlV) : Prop := ∃ k, k < 8 ∧ p = plOf f k ∧ gotB (placeB f k) = true
theorem scanN_ok (f : ByteArray) : ∀ n, n ≤ 8 → ∀ p ∈ scanN f n, PlOk f p ∧ p.at_ < 24 * (n : Int)
  | 0, _, p, h => by simp [scanN] at h
  | n + 1, hn, p, h => by
    rw [scanN, List.mem_append] at h
    rcases h with h | h
    · obtain ⟨a, b⟩ := scanN_ok f n (by omega) p h
      exact ⟨a, by omega⟩
    · cases hg : gotB (placeB f n)
      · rw [hg] at h; simp at h
      · rw [hg] at h
        simp at h
        subst h
        exact ⟨⟨n, by omega, rfl, hg⟩, by simp only [plOf]; omega⟩
theorem scan_ok {f : ByteArray} {p : PlV} (h : p ∈ scanL f) : PlOk f p := (scanN_ok f 8 (Nat.le_refl _) p h).1
theorem PlOk.may {f : ByteArray} {p : PlV} (h : PlOk f p) : recMay p.q p.s p.z p.m = true := by
  obtain ⟨k, _, rfl, hg⟩ := h
  simp only [gotB, Bool.and_eq_true] at hg
  simp only [plOf]
  exact hg.2.2
theorem PlOk.at_rng {f : ByteArray} {p : PlV} (h : PlOk f p) : 0 ≤ p.at_ ∧ p.at_ ≤ 168 := by
  obtain ⟨k, _, rfl, hg⟩ := h
  simp only [plOf]
  omega
theorem PlOk.same {f : ByteArray} {p p' : PlV} (h : PlOk f p) (h' : PlOk f p') (e : p.at_ = p'.at_) : p = p' := by
  obtain ⟨k, _, rfl, _⟩ := h
  obtain ⟨k', _, rfl, _⟩ := h'
  have : k = k' := by simp only [plOf] at e; omega
  rw [this]
def gdP (f : ByteArray) (p : PlV) : Bool := goodB f p.s p.z p.m
/-- p stands ahead of x, or is it. -/
def leP (p x : PlV) : Prop := x.q < p.q ∨ (p.q = x.q ∧ x.at_ ≤ p.at_)
theorem leP.refl (p : PlV) : leP p p := .inr ⟨rfl, Int.le_refl _⟩
theorem leP.trans {a b c : PlV} (h : leP a b) (k : leP b c) : leP a c := by
  unfold leP at *
  omega
/-- the program's order. -/
def lessB (a b : PlV) : Bool := bif a.q != b.q then decide (b.q < a.q) else decide (b.at_ < a.at_)
theorem less_no {a b : PlV} (h : lessB a b = false) : leP b a := by
  unfold lessB at h
  unfold leP
  by_cases e : a.q = b.q
  · simp [e] at h
    omega
  · have e' : (a.q != b.q) = true := by simpa using e
    simp [e'] at h
    omega
theorem less_yes {a b : PlV} (h : lessB a b = true) : leP a b := by
  unfold lessB at h
  unfold leP
  by_cases e : a.q = b.q
  · simp [e] at h
    omega
  · have e' : (a.q != b.q) = true := by simpa using e
    simp [e'] at h
    omega
structure IsBest (f : ByteArray) (l : List PlV) (p : PlV) : Prop where
  mem : p ∈ l
  good : gdP f p = true
  first : ∀ x ∈ l, gdP f x = true → leP p x
theorem IsBest.one {f : ByteArray} {p p' : PlV} (h : IsBest f (scanL f) p) (h' : IsBest f (scanL f) p') : p = p' := by
  have a := h.first p' h'.mem h'.good
  have b := h'.first p h.mem h.good
  refine (scan_ok h.mem).same (scan_ok h'.mem) ?_
  unfold leP at a b
  omega
/-- the references' way: the last of the greatest. -/
def stepB (f : ByteArray) (o : Option PlV) (x : PlV) : Option PlV :=
  bif gdP f x then (match o with | none => some x | some p => if p.q ≤ x.q then some x else some p) else o
def bestL (f : ByteArray) (l : List PlV) : Option PlV := l.foldl (stepB f) none
def activeO (f : ByteArray) : Option PlV := bestL f (scanL f)
def BestO (f : ByteArray) (l : List PlV) : Option PlV → Prop
  | none => ∀ x ∈ l, gdP f x = false
  | some p => IsBest f l p
theorem step_no {f : ByteArray} {o : Option PlV} {x : PlV} (h : gdP f x = false) : stepB f o x = o := by simp [stepB, h]
theorem step_new {f : ByteArray} {x : PlV} (h : gdP f x = true) : stepB f none x = some x := by simp [stepB, h]
theorem step_up {f : ByteArray} {p x : PlV} (h : gdP f x = true) (hq : p.q ≤ x.q) : stepB f (some p) x = some x := by simp [stepB, h, hq]
theorem step_keep {f : ByteArray} {p x : PlV} (hq : ¬ p.q ≤ x.q) : stepB f (some p) x = some p := by
  unfold stepB
  cases gdP f x
  · rfl
  · simp [hq]
theorem best_snoc {f : ByteArray} {l : List PlV} {x : PlV} {o : Option PlV} (h : BestO f l o) (hx : ∀ y ∈ l, y.at_ < x.at_) : BestO f (l ++ [x]) (stepB f o x) := by
  cases hg : gdP f x
  · rw [step_no hg]
    cases o with
    | none =>
      intro y hy
      rw [List.mem_append] at hy
      rcases hy with hy | hy
      · exact h y hy
      · simp at hy; subst hy; exact hg
    | some p =>
      refine ⟨List.mem_append_left _ h.mem, h.good, fun y hy gy => ?_⟩
      rw [List.mem_append] at hy
      rcases hy with hy | hy
      · exact h.first y hy gy
      · simp at hy; subst hy; rw [hg] at gy; cases gy
  · cases o with
    | none =>
      rw [step_new hg]
      refine ⟨by simp, hg, fun y hy gy => ?_⟩
      rw [List.mem_append] at hy
      rcases hy with hy | hy
      · rw [h y hy] at gy; cases gy
      · simp at hy; subst hy; exact leP.refl _
    | some p =>
      by_cases hq : p.q ≤ x.q
      · rw [step_up hg hq]
        refine ⟨by simp, hg, fun y hy gy => ?_⟩
        rw [List.mem_append] at hy
        rcases hy with hy | hy
        · have a := h.first y hy gy
          have b := hx p h.mem
          have c := hx y hy
          unfold leP at *
          omega
        · simp at hy; subst hy; exact leP.refl _
      · rw [step_keep hq]
        refine ⟨List.mem_append_left _ h.mem, h.good, fun y hy gy => ?_⟩
        rw [List.mem_append] at hy
        rcases hy with hy | hy
        · exact h.first y hy gy
        · simp at hy; subst hy; unfold leP; omega
theorem best_scanN (f : ByteArray) : ∀ n, n ≤ 8 → BestO f (scanN f n) (bestL f (scanN f n))
  | 0, _ => by intro x hx; simp [scanN] at hx
  | n + 1, hn => by
    have ih := best_scanN f n (by omega)
    cases hg : gotB (placeB f n)
    · rw [scan_f hg]
      exact ih
    · rw [scan_t hg]
      have e : bestL f (scanN f n ++ [plOf f n]) = stepB f (bestL f (scanN f n)) (plOf f n) := by simp only [bestL, List.foldl_append, List.foldl_cons, List.foldl_nil]
      rw [e]
      refine best_snoc ih fun y hy => ?_
      have := (scanN_ok f n (by omega) y hy).2
      simp only [plOf]
      exact this
theorem active_best (f : ByteArray) : BestO f (scanL f) (activeO f) := by
  have h := best_scanN f 8 (Nat.le_refl _)
  unfold activeO scanL
  exact h
theorem active_some {f : ByteArray} {p : PlV} (h : IsBest f (scanL f) p) : activeO f = some p := by
  have k := active_best f
  cases ho : activeO f with
  | none =>
    rw [ho] at k
    have := k p h.mem
    rw [h.good] at this
    cases this
  | some p' =>
    rw [ho] at k
    rw [IsBest.one h k]
theorem active_none {f : ByteArray} (h : ∀ x ∈ scanL f, gdP f x = false) : activeO f = none := by
  have k := active_best f
  cases ho : activeO f with
  | none => rfl
  | some p =>
    rw [ho] at k
    have := h p k.mem
    rw [k.good] at this
    cases this
def actV (f : ByteArray) : Array Value := match activeO f with
  | some p => #[.int .i64 p.at_, .int .i64 p.q, .int .i64 p.s, .int .i64 p.z, .int .i64 p.m]
  | none => #[.int .i64 0, .int .i64 0, .int .i64 0, .int .i64 0, .int .i64 0]
def actE (f : ByteArray) : Int := match activeO f with | some _ => 0 | none => 701
/-- a row of places in memory. -/
theorem encP_len (x : PlV) : (encP x).length = 5 := rfl
theorem lies_at {w : World} {A : Option Addr} {xs : List PlV} (h : Lies encP 5 w A xs) {j : Nat} (hj : j < xs.length) :
    ∃ b off x, A = some ⟨b, off, none⟩ ∧ b < w.heap.size ∧ xs[j]? = some x ∧ w.cell? ⟨b, off + j * 5, none⟩ = some (.int .i64 x.at_) ∧ w.cell? ⟨b, off + j * 5 + 1, none⟩ = some (.int .i64 x.q) ∧ w.cell? ⟨b, off + j * 5 + 2, none⟩ = some (.int .i64 x.s) ∧ w.cell? ⟨b, off + j * 5 + 3, none⟩ = some (.int .i64 x.z) ∧ w.cell? ⟨b, off + j * 5 + 4, none⟩ = some (.int .i64 x.m) := by
  obtain ⟨b, off, e, hlt, hc⟩ := h.some_ (by rintro rfl; simp at hj)
  have hx : xs[j]? = some xs[j] := List.getElem?_eq_getElem hj
  exact ⟨b, off, xs[j], e, hlt, hx, hc j _ hx 0 _ rfl, hc j _ hx 1 _ rfl, hc j _ hx 2 _ rfl, hc j _ hx 3 _ rfl, hc j _ hx 4 _ rfl⟩
end Go.Proofs.YtccblleobcidfaaGreat.Ch
end
/- Layer 7: the program's queue: its methods. -/
section
namespace Go.Proofs.YtccblleobcidfaaGreat.Ch
open Go.RowKit Go.Proofs.YtccblleobcidfaaGreat.Kt Go.Proofs.YtccblleobcidfaaGreat.Lw Go.Proofs.YtccblleobcidfaaGreat.St Go.Proofs.YtccblleobcidfaaGreat.Nm Go.Proofs.YtccblleobcidfaaGreat.By Go.Proofs.YtccblleobcidfaaGreat.En Go.Proofs.YtccblleobcidfaaGreat.Jr Go.Proofs.YtccblleobcidfaaGreat.Im Go.Proofs.YtccblleobcidfaaGreat.Sl Go.Proofs.YtccblleobcidfaaGreat.Hp
set_option linter.unusedVariables false
set_option linter.unusedSimpArgs false
attribute [local irreducible] gotB goodB Cr.crcB nQ nS nZ nM placeB
/-- the array of a queue: N places. -/
structure Arr (w : World) (g N : Nat) (F : Nat → PlV) : Prop where
  lt : g < w.heap.size
  c0 : ∀ k, k < N → w.cell? ⟨g, k * 5, none⟩ = some (.int .i64 (F k).at_)
  c1 : ∀ k, k < N → w.cell? ⟨g, k * 5 + 1, none⟩ = some (.int .i64 (F k).q)
  c2 : ∀ k, k < N → w.cell? ⟨g, k * 5 + 2, none⟩ = some (.int .i64 (F k).s)
  c3 : ∀ k, k < N → w.cell? ⟨g, k * 5 + 3, none⟩ = some (.int .i64 (F k).z)
  c4 : ∀ k, k < N → w.cell? ⟨g, k * 5 + 4, none⟩ = some (.int .i64 (F k).m)
  fr : ∀ i, i < N * 5 → w.frozen? ⟨g, i, none⟩ = false
theorem Arr.below {w w' : World} {g N : Nat} {F : Nat → PlV} (h : Arr w g N F) (hb : Below w.heap.size w w') : Arr w' g N F :=
  ⟨Nat.lt_of_lt_of_le h.lt hb.size, fun k hk => (hb.cell (p := ⟨g, _, none⟩) h.lt).trans (h.c0 k hk), fun k hk => (hb.cell (p := ⟨g, _, none⟩) h.lt).trans (h.c1 k hk), fun k hk => (hb.cell (p := ⟨g, _, none⟩) h.lt).trans (h.c2 k hk), fun k hk => (hb.cell (p := ⟨g, _, none⟩) h.lt).trans (h.c3 k hk), fun k hk => (hb.cell (p := ⟨g, _, none⟩) h.lt).trans (h.c4 k hk), fun i hi => (hb.frozen (p := ⟨g, _, none⟩) h.lt).trans (h.fr i hi)⟩
theorem len_c (A : Option Addr) (n c : Nat) (w : World) : Calls Tryz.prog 126 #[.slice A n c] w fun e w' => e = .returned (.int .i64 n) ∧ w = w' := by
  go_enter Tryz.func126, Tryz.ntmps126
  go_wp2
  go_ret
  exact ⟨rfl, rfl⟩
set_option maxRecDepth 100000 in
set_option maxHeartbeats 3200000 in
theorem less_c (g N n c i j : Nat) (F : Nat → PlV) (w : World) (h : Arr w g N F) (hi : i < n) (hj : j < n) (hn : n ≤ N) (hN : N ≤ 1000) : Calls Tryz.prog 291 #[.slice (some ⟨g, 0, none⟩) n c, .int .i64 i, .int .i64 j] w fun e w' => e = .returned (.bool (lessB (F i) (F j))) ∧ Below w.heap.size w w' := by
  have HB := Below.refl w.heap.size w
  have a0 := h.c0 i (by omega)
  have a1 := h.c1 i (by omega)
  have a2 := h.c2 i (by omega)
  have a3 := h.c3 i (by omega)
  have a4 := h.c4 i (by omega)
  have b0 := h.c0 j (by omega)
  have b1 := h.c1 j (by omega)
  have b2 := h.c2 j (by omega)
  have b3 := h.c3 j (by omega)
  have b4 := h.c4 j (by omega)
  have hlt := h.lt
  clear h
  generalize F i = x at *
  generalize F j = y at *
  have i0 : (0 : Int) ≤ (i : Int) := by omega
  have j0 : (0 : Int) ≤ (j : Int) := by omega
  have i1 : (i : Int) < (n : Int) := by omega
  have j1 : (j : Int) < (n : Int) := by omega
  go_enter Tryz.func291, Tryz.ntmps291
  go_wp2_with fail
  have HC : w.cell? ⟨g, i * 5, none⟩ = some (.int .i64 x.at_) ∧ w.cell? ⟨g, i * 5 + 1, none⟩ = some (.int .i64 x.q) ∧ w.cell? ⟨g, i * 5 + 2, none⟩ = some (.int .i64 x.s) ∧ w.cell? ⟨g, i * 5 + 3, none⟩ = some (.int .i64 x.z) ∧ w.cell? ⟨g, i * 5 + 4, none⟩ = some (.int .i64 x.m) ∧ w.cell? ⟨g, j * 5, none⟩ = some (.int .i64 y.at_) ∧ w.cell? ⟨g, j * 5 + 1, none⟩ = some (.int .i64 y.q) ∧ w.cell? ⟨g, j * 5 + 2, none⟩ = some (.int .i64 y.s) ∧ w.cell? ⟨g, j * 5 + 3, none⟩ = some (.int .i64 y.z) ∧ w.cell? ⟨g, j * 5 + 4, none⟩ = some (.int .i64 y.m) := ⟨a0, a1, a2, a3, a4, b0, b1, b2, b3, b4⟩
  go_cut [7, 8] (fun v7 v8 wc => ∃ g1 g2 : Nat, v7 = .pointer (some ⟨g1, 0, none⟩) ∧ v8 = .pointer (some ⟨g2, 0, none⟩) ∧ g1 ≠ g2 ∧ w.heap.size ≤ g1 ∧ w.heap.size ≤ g2 ∧ Aside (Blk wc g1 #[.int .i64 x.at_, .int .i64 x.q, .int .i64 x.s, .int .i64 x.z, .int .i64 x.m] 69) ∧ Aside (Blk wc g2 #[.int .i64 y.at_, .int .i64 y.q, .int .i64 y.s, .int .i64 y.z, .int .i64 y.m] 69) ∧ Aside (Below w.heap.size w wc))
  case first =>
    go_region_held3 (fun W => W.cell? ⟨g, i * 5, none⟩ = some (.int .i64 x.at_) ∧ W.cell? ⟨g, i * 5 + 1, none⟩ = some (.int .i64 x.q) ∧ W.cell? ⟨g, i * 5 + 2, none⟩ = some (.int .i64 x.s) ∧ W.cell? ⟨g, i * 5 + 3, none⟩ = some (.int .i64 x.z) ∧ W.cell? ⟨g, i * 5 + 4, none⟩ = some (.int .i64 x.m) ∧ W.cell? ⟨g, j * 5, none⟩ = some (.int .i64 y.at_) ∧ W.cell? ⟨g, j * 5 + 1, none⟩ = some (.int .i64 y.q) ∧ W.cell? ⟨g, j * 5 + 2, none⟩ = some (.int .i64 y.s) ∧ W.cell? ⟨g, j * 5 + 3, none⟩ = some (.int .i64 y.z) ∧ W.cell? ⟨g, j * 5 + 4, none⟩ = some (.int .i64 y.m) ∧ Below w.heap.size w W) (first | (refine k10 HC ?_; (repeat (with_reducible first | exact Below.refl _ _ | (apply kz10; assumption) | apply bl_alloc | apply bl_drew | apply bl_drewN | (refine bl_setn ?_ (by apply kz10; assumption)) | (refine bl_step ?_ (by assumption)) | fail)); done) | fail) (fail)
    all_goals (go_wp2_with fail; go_meet)
    · exact ⟨_, _, rfl, rfl, by omega, by omega, by omega, ((Blk.new _ _ _).alloc _).drew, (Blk.new1 _ _ _ _).drew, bl_drew (bl_alloc (bl_alloc (Below.refl _ _) _) _)⟩
    · exact ⟨_, _, rfl, rfl, by omega, by omega, by omega, (Blk.new1 _ _ _ _).drew, ((Blk.new _ _ _).alloc _).drew, bl_drew (bl_alloc (bl_alloc (Below.refl _ _) _) _)⟩
  case rest =>
    obtain ⟨g1, g2, rfl, rfl, hne, hg1, hg2, BK1, BK2, BB⟩ := hcut
    clear HC a0 a1 a2 a3 a4 b0 b1 b2 b3 b4 HB
    have HB := BB.out
    have K1 : Blk wc g1 #[.int .i64 x.at_, .int .i64 x.q, .int .i64 x.s, .int .i64 x.z, .int .i64 x.m] 69 := BK1.out
    have K2 : Blk wc g2 #[.int .i64 y.at_, .int .i64 y.q, .int .i64 y.s, .int .i64 y.z, .int .i64 y.m] 69 := BK2.out
    clear BK1 BK2 BB
    obtain ⟨cK1_0, cK1_1, cK1_2, cK1_3, cK1_4, fK1, lK1, nK1, mK1⟩ := Blk.all5 K1
    obtain ⟨cK2_0, cK2_1, cK2_2, cK2_3, cK2_4, fK2, lK2, nK2, mK2⟩ := Blk.all5 K2
    by_cases hq : x.q = y.q
    · have q1 : (x.q != y.q) = false := by simp [hq]
      have hv := Lib.hid (show lessB x y = decide (y.at_ < x.at_) by simp [lessB, q1])
      clear hq
      go_wp2_with fail
      go_ret
      exact ⟨retB hv.out.symm, HB⟩
    · have q1 : (x.q != y.q) = true := by simpa using hq
      have hv := Lib.hid (show lessB x y = decide (y.q < x.q) by simp [lessB, q1])
      clear hq
      go_wp2_with fail
      go_ret
      exact ⟨retB hv.out.symm, HB⟩
theorem cell_swp {w : World} {p q : Addr} {v : Value} (h : w.cell? q = some v) : (w.setCell p v).cell? q = some v := by
  by_cases e : q = p
  · subst e
    exact World.cell?_setCell_same _ _ _ h
  · rw [World.cell?_setCell_other (h := fun e' => e e'.symm)]
    exact h
theorem cell_off {w : World} {g a b : Nat} {u v : Value} (hab : b ≠ a) (h : w.cell? ⟨g, b, none⟩ = some v) : (w.setCell ⟨g, a, none⟩ u).cell? ⟨g, b, none⟩ = some v := by
  rw [World.cell?_setCell_other (h := by intro e'; injection e' with _ e' _; omega)]
  exact h
theorem ex_set {w : World} {p q : Addr} {u : Value} (h : ∃ v, w.cell? q = some v) : ∃ v, (w.setCell p u).cell? q = some v := by
  obtain ⟨v, h⟩ := h
  by_cases e : q = p
  · subst e
    exact ⟨_, World.cell?_setCell_same _ _ _ h⟩
  · exact ⟨v, by rw [World.cell?_setCell_other (h := fun e' => e e'.symm)]; exact h⟩
theorem at_set {w : World} {g a : Nat} {u : Value} (h : ∃ v, w.cell? ⟨g, a, none⟩ = some v) : (w.setCell ⟨g, a, none⟩ u).cell? ⟨g, a, none⟩ = some u := by
  obtain ⟨v, h⟩ := h
  exact World.cell?_setCell_same _ _ _ h
theorem sw_i {F : Nat → PlV} {i j : Nat} : swF F i j i = F j := by simp [swF]
theorem sw_j {F : Nat → PlV} {i j : Nat} : swF F i j j = F i := by
  unfold swF
  by_cases e : j = i
  · simp [e]
  · simp [e]
theorem sw_o {F : Nat → PlV} {i j k : Nat} (h1 : k ≠ i) (h2 : k ≠ j) : swF F i j k = F k := by simp [swF, h1, h2]
theorem arr_swap {w : World} {g N i j : Nat} {F : Nat → PlV} (h : Arr w g N F) (hi : i < N) (hj : j < N) : Arr ((((((((((w.setCell ⟨g, i * 5, none⟩ (.int .i64 (F j).at_)).setCell ⟨g, i * 5 + 1, none⟩ (.int .i64 (F j).q)).setCell ⟨g, i * 5 + 2, none⟩ (.int .i64 (F j).s)).setCell ⟨g, i * 5 + 3, none⟩ (.int .i64 (F j).z)).setCell ⟨g, i * 5 + 4, none⟩ (.int .i64 (F j).m)).setCell ⟨g, j * 5, none⟩ (.int .i64 (F i).at_)).setCell ⟨g, j * 5 + 1, none⟩ (.int .i64 (F i).q)).setCell ⟨g, j * 5 + 2, none⟩ (.int .i64 (F i).s)).setCell ⟨g, j * 5 + 3, none⟩ (.int .i64 (F i).z)).setCell ⟨g, j * 5 + 4, none⟩ (.int .i64 (F i).m)) g N (swF F i j) := by
  refine ⟨by simpa using h.lt, ?_, ?_, ?_, ?_, ?_, fun n hn => by simp only [World.frozen?_setCell]; exact h.fr n hn⟩
  · intro k hk
    by_cases ej : k = j
    · subst ej
      rw [sw_j]
      exact (cell_off (by omega) (cell_off (by omega) (cell_off (by omega) (cell_off (by omega) (at_set (ex_set (ex_set (ex_set (ex_set (ex_set ⟨_, h.c0 k hk⟩))))))))))
    · by_cases ei : k = i
      · subst ei
        rw [sw_i]
        exact (cell_off (by omega) (cell_off (by omega) (cell_off (by omega) (cell_off (by omega) (cell_off (by omega) (cell_off (by omega) (cell_off (by omega) (cell_off (by omega) (cell_off (by omega) (at_set ⟨_, h.c0 k hk⟩))))))))))
      · rw [sw_o ei ej]
        exact (cell_off (by omega) (cell_off (by omega) (cell_off (by omega) (cell_off (by omega) (cell_off (by omega) (cell_off (by omega) (cell_off (by omega) (cell_off (by omega) (cell_off (by omega) (cell_off (by omega) (h.c0 k hk)))))))))))
  · intro k hk
    by_cases ej : k = j
    · subst ej
      rw [sw_j]
      exact (cell_off (by omega) (cell_off (by omega) (cell_off (by omega) (at_set (ex_set (ex_set (ex_set (ex_set (ex_set (ex_set ⟨_, h.c1 k hk⟩))))))))))
    · by_cases ei : k = i
      · subst ei
        rw [sw_i]
        exact (cell_off (by omega) (cell_off (by omega) (cell_off (by omega) (cell_off (by omega) (cell_off (by omega) (cell_off (by omega) (cell_off (by omega) (cell_off (by omega) (at_set (ex_set ⟨_, h.c1 k hk⟩))))))))))
      · rw [sw_o ei ej]
        exact (cell_off (by omega) (cell_off (by omega) (cell_off (by omega) (cell_off (by omega) (cell_off (by omega) (cell_off (by omega) (cell_off (by omega) (cell_off (by omega) (cell_off (by omega) (cell_off (by omega) (h.c1 k hk)))))))))))
  · intro k hk
    by_cases ej : k = j
    · subst ej
      rw [sw_j]
      exact (cell_off (by omega) (cell_off (by omega) (at_set (ex_set (ex_set (ex_set (ex_set (ex_set (ex_set (ex_set ⟨_, h.c2 k hk⟩))))))))))
    · by_cases ei : k = i
      · subst ei
        rw [sw_i]
        exact (cell_off (by omega) (cell_off (by omega) (cell_off (by omega) (cell_off (by omega) (cell_off (by omega) (cell_off (by omega) (cell_off (by omega) (at_set (ex_set (ex_set ⟨_, h.c2 k hk⟩))))))))))
      · rw [sw_o ei ej]
        exact (cell_off (by omega) (cell_off (by omega) (cell_off (by omega) (cell_off (by omega) (cell_off (by omega) (cell_off (by omega) (cell_off (by omega) (cell_off (by omega) (cell_off (by omega) (cell_off (by omega) (h.c2 k hk)))))))))))
  · intro k hk
    by_cases ej : k = j
    · subst ej
      rw [sw_j]
      exact (cell_off (by omega) (at_set (ex_set (ex_set (ex_set (ex_set (ex_set (ex_set (ex_set (ex_set ⟨_, h.c3 k hk⟩))))))))))
    · by_cases ei : k = i
      · subst ei
        rw [sw_i]
        exact (cell_off (by omega) (cell_off (by omega) (cell_off (by omega) (cell_off (by omega) (cell_off (by omega) (cell_off (by omega) (at_set (ex_set (ex_set (ex_set ⟨_, h.c3 k hk⟩))))))))))
      · rw [sw_o ei ej]
        exact (cell_off (by omega) (cell_off (by omega) (cell_off (by omega) (cell_off (by omega) (cell_off (by omega) (cell_off (by omega) (cell_off (by omega) (cell_off (by omega) (cell_off (by omega) (cell_off (by omega) (h.c3 k hk)))))))))))
  · intro k hk
    by_cases ej : k = j
    · subst ej
      rw [sw_j]
      exact (at_set (ex_set (ex_set (ex_set (ex_set (ex_set (ex_set (ex_set (ex_set (ex_set ⟨_, h.c4 k hk⟩))))))))))
    · by_cases ei : k = i
      · subst ei
        rw [sw_i]
        exact (cell_off (by omega) (cell_off (by omega) (cell_off (by omega) (cell_off (by omega) (cell_off (by omega) (at_set (ex_set (ex_set (ex_set (ex_set ⟨_, h.c4 k hk⟩))))))))))
      · rw [sw_o ei ej]
        exact (cell_off (by omega) (cell_off (by omega) (cell_off (by omega) (cell_off (by omega) (cell_off (by omega) (cell_off (by omega) (cell_off (by omega) (cell_off (by omega) (cell_off (by omega) (cell_off (by omega) (h.c4 k hk)))))))))))
set_option maxRecDepth 100000 in
set_option maxHeartbeats 3200000 in
theorem swap_c (g N n c i j : Nat) (F : Nat → PlV) (w : World) (h : Arr w g N F) (hi : i < n) (hj : j < n) (hn : n ≤ N) (hN : N ≤ 1000) : Calls Tryz.prog 292 #[.slice (some ⟨g, 0, none⟩) n c, .int .i64 i, .int .i64 j] w fun e w' => e = .returned (.tuple #[]) ∧ Arr w' g N (swF F i j) ∧ w.grownBy w' (some g) := by
  have HB := Below.refl w.heap.size w
  have a0 := h.c0 i (by omega)
  have a1 := h.c1 i (by omega)
  have a2 := h.c2 i (by omega)
  have a3 := h.c3 i (by omega)
  have a4 := h.c4 i (by omega)
  have b0 := h.c0 j (by omega)
  have b1 := h.c1 j (by omega)
  have b2 := h.c2 j (by omega)
  have b3 := h.c3 j (by omega)
  have b4 := h.c4 j (by omega)
  have fi0 := h.fr (i * 5) (by omega)
  have fi1 := h.fr (i * 5 + 1) (by omega)
  have fi2 := h.fr (i * 5 + 2) (by omega)
  have fi3 := h.fr (i * 5 + 3) (by omega)
  have fi4 := h.fr (i * 5 + 4) (by omega)
  have fj0 := h.fr (j * 5) (by omega)
  have fj1 := h.fr (j * 5 + 1) (by omega)
  have fj2 := h.fr (j * 5 + 2) (by omega)
  have fj3 := h.fr (j * 5 + 3) (by omega)
  have fj4 := h.fr (j * 5 + 4) (by omega)
  have hlt := h.lt
  have H := Lib.hid h
  clear h
  generalize hx : F i = x at *
  generalize hy : F j = y at *
  have e0 : (w.setCell ⟨g, i * 5, none⟩ (.int .i64 y.at_)).cell? ⟨g, j * 5, none⟩ = some (.int .i64 y.at_) := cell_swp b0
  have e1 : ((w.setCell ⟨g, i * 5, none⟩ (.int .i64 y.at_)).setCell ⟨g, i * 5 + 1, none⟩ (.int .i64 y.q)).cell? ⟨g, j * 5 + 1, none⟩ = some (.int .i64 y.q) := cell_swp (cell_off (by omega) b1)
  have e2 : (((w.setCell ⟨g, i * 5, none⟩ (.int .i64 y.at_)).setCell ⟨g, i * 5 + 1, none⟩ (.int .i64 y.q)).setCell ⟨g, i * 5 + 2, none⟩ (.int .i64 y.s)).cell? ⟨g, j * 5 + 2, none⟩ = some (.int .i64 y.s) := cell_swp (cell_off (by omega) (cell_off (by omega) b2))
  have e3 : ((((w.setCell ⟨g, i * 5, none⟩ (.int .i64 y.at_)).setCell ⟨g, i * 5 + 1, none⟩ (.int .i64 y.q)).setCell ⟨g, i * 5 + 2, none⟩ (.int .i64 y.s)).setCell ⟨g, i * 5 + 3, none⟩ (.int .i64 y.z)).cell? ⟨g, j * 5 + 3, none⟩ = some (.int .i64 y.z) := cell_swp (cell_off (by omega) (cell_off (by omega) (cell_off (by omega) b3)))
  have e4 : (((((w.setCell ⟨g, i * 5, none⟩ (.int .i64 y.at_)).setCell ⟨g, i * 5 + 1, none⟩ (.int .i64 y.q)).setCell ⟨g, i * 5 + 2, none⟩ (.int .i64 y.s)).setCell ⟨g, i * 5 + 3, none⟩ (.int .i64 y.z)).setCell ⟨g, i * 5 + 4, none⟩ (.int .i64 y.m)).cell? ⟨g, j * 5 + 4, none⟩ = some (.int .i64 y.m) := cell_swp (cell_off (by omega) (cell_off (by omega) (cell_off (by omega) (cell_off (by omega) b4))))
  have i0 : (0 : Int) ≤ (i : Int) := by omega
  have j0 : (0 : Int) ≤ (j : Int) := by omega
  have i1 : (i : Int) < (n : Int) := by omega
  have j1 : (j : Int) < (n : Int) := by omega
  go_enter Tryz.func292, Tryz.ntmps292
  go_wp2_with fail
  go_region
  all_goals
    go_end0
    refine ⟨rfl, ?_, ?_⟩
    · have hA := arr_swap H.out (show i < N by omega) (show j < N by omega)
      rw [hx, hy] at hA
      exact hA.below (bl_drew (Below.refl _ _))
    · repeat (with_reducible first | exact gb_refl _ _ | apply gb_drew | apply gb_set)
end Go.Proofs.YtccblleobcidfaaGreat.Ch
end
/- Layer 7: the queue behind the heap's interface. -/
section
namespace Go.Proofs.YtccblleobcidfaaGreat.Ch
open Go.RowKit Go.Proofs.YtccblleobcidfaaGreat.Kt Go.Proofs.YtccblleobcidfaaGreat.Lw Go.Proofs.YtccblleobcidfaaGreat.St Go.Proofs.YtccblleobcidfaaGreat.Nm Go.Proofs.YtccblleobcidfaaGreat.By Go.Proofs.YtccblleobcidfaaGreat.En Go.Proofs.YtccblleobcidfaaGreat.Jr Go.Proofs.YtccblleobcidfaaGreat.Im Go.Proofs.YtccblleobcidfaaGreat.Sl Go.Proofs.YtccblleobcidfaaGreat.Hp
set_option linter.unusedVariables false
set_option linter.unusedSimpArgs false
attribute [local irreducible] gotB goodB Cr.crcB nQ nS nZ nM placeB
set_option maxRecDepth 100000 in
set_option maxHeartbeats 3200000 in
theorem qpop_c (gq ga N n c : Nat) (F : Nat → PlV) (w : World) (K0 : Blk w gq #[.slice (some ⟨ga, 0, none⟩) (n + 1) c] 158) (h : Arr w ga N F) (hn : n < N) (hN : N ≤ 1000) (hc : n + 1 ≤ c) :
    Calls Tryz.prog 293 #[.pointer (some ⟨gq, 0, none⟩)] w fun e w' => e = .returned (.iface 69 (.agg #[.int .i64 (F n).at_, .int .i64 (F n).q, .int .i64 (F n).s, .int .i64 (F n).z, .int .i64 (F n).m])) ∧ Blk w' gq #[.slice (some ⟨ga, 0, none⟩) n c] 158 ∧ w.grownBy w' (some gq) := by
  have GB := gb_refl w gq
  obtain ⟨cK0_0, fK0, lK0, nK0, mK0⟩ := Blk.all1 K0
  have a0 := h.c0 n (by omega)
  have a1 := h.c1 n (by omega)
  have a2 := h.c2 n (by omega)
  have a3 := h.c3 n (by omega)
  have a4 := h.c4 n (by omega)
  have hlt := h.lt
  have e1 : wrap64 ((n + 1 : Nat) : Int) - 1 = (n : Int) := by unfold wrap64; omega
  have e2 : ((n + 1 : Nat) : Int) - 1 = (n : Int) := by omega
  go_enter Tryz.func293, Tryz.ntmps293
  go_wp2_with fail
  go_ret
  exact ⟨rfl, ⟨(by repeat (with_reducible first | exact K0 | apply Blk.alloc | apply Blk.drew | apply Blk.set1_0 | (apply Blk.off; (first | assumption | omega | (simp; omega))) | fail)), zq20⟩⟩
theorem m_less0 (k : Nat) (a : Addr) (w : World) : (method (k + 1) 160 (.pointer (some a)) "Less").run Tryz.prog w = ((load a) >>= fun v => (pure ((291 : FuncId), v) : Sem (FuncId × Value))).run Tryz.prog w := by kernel_rfl
theorem m_swap0 (k : Nat) (a : Addr) (w : World) : (method (k + 1) 160 (.pointer (some a)) "Swap").run Tryz.prog w = ((load a) >>= fun v => (pure ((292 : FuncId), v) : Sem (FuncId × Value))).run Tryz.prog w := by kernel_rfl
theorem m_len0 (k : Nat) (a : Addr) (w : World) : (method (k + 1) 160 (.pointer (some a)) "Len").run Tryz.prog w = ((load a) >>= fun v => (pure ((126 : FuncId), v) : Sem (FuncId × Value))).run Tryz.prog w := by kernel_rfl
theorem m_pop (k : Nat) (a : Addr) (w : World) : (method (k + 1) 160 (.pointer (some a)) "Pop").run Tryz.prog w = .ok (293, .pointer (some a)) w := by kernel_rfl
theorem run_ld {w : World} {a : Addr} {v : Value} {f : FuncId} (h : w.cell? a = some v) : ((load a) >>= fun v => (pure (f, v) : Sem (FuncId × Value))).run Tryz.prog w = .ok (f, v) w := by
  simp [Sem.run_bind, run_load, h]
set_option maxRecDepth 100000 in
set_option maxHeartbeats 12800000 in
theorem down_c (gq ga N n m c i0 : Nat) (F : Nat → PlV) (w : World) (K0 : Blk w gq #[.slice (some ⟨ga, 0, none⟩) m c] 158) (h : Arr w ga N F) (hnm : n ≤ m) (hm : m ≤ N) (hN : N ≤ 1000) (hi : i0 ≤ n) (hga : ga ≠ gq) (hh : HeapX leP F i0 i0 n) :
    Calls Tryz.prog 182 #[.iface 160 (.pointer (some ⟨gq, 0, none⟩)), .int .i64 i0, .int .i64 n] w fun e w' => (∃ b, e = .returned (.bool b)) ∧ ∃ F', HeapF leP F' i0 n ∧ SameF F F' n ∧ Blk w' gq #[.slice (some ⟨ga, 0, none⟩) m c] 158 ∧ Arr w' ga N F' ∧ w.grownBy w' (some ga) := by
  go_enter Tryz.func182, Tryz.ntmps182
  go_wp2_with fail
  go_loopg [7, 8, 9, 10] (n + 1) (fun gg s7 _ _ _ wr => ∃ (i : Nat) (F' : Nat → PlV), i0 ≤ i ∧ n + 1 - i ≤ gg ∧ i ≤ n ∧ s7 = .int .i64 i ∧ Aside (HeapX leP F' i i0 n) ∧ Aside (SameF F F' n) ∧ Aside (Blk wr gq #[.slice (some ⟨ga, 0, none⟩) m c] 158) ∧ Aside (Arr wr ga N F') ∧ Aside (w.grownBy wr (some ga)))
  case atStart => exact ⟨i0, F, by omega, by omega, by omega, rfl, hh, SameF.refl _ _, K0, h, gb_refl _ _⟩
  case round =>
    clear K0 h hh
    obtain ⟨i, F', hi1, hg, hi2, rfl, BH, BS, BK, BA, BG⟩ := hrel
    have K0 := BK.out
    obtain ⟨cK0_0, fK0, lK0, nK0, mK0⟩ := Blk.all1 K0
    have A0 := BA.out
    have GB := BG.out
    have HX := Lib.hid BH.out
    clear BK BA BG BH
    by_cases h1 : 2 * i + 1 < n
    · have hj1 : decide ((n : Int) ≤ 2 * (i : Int) + 1) = false := by simp; omega
      have hj0 : decide (2 * (i : Int) + 1 < 0) = false := by simp; omega
      by_cases h2 : 2 * i + 2 < n
      · have hj2 : decide (2 * (i : Int) + 1 + 1 < (n : Int)) = true := by simp; omega
        cases hb1 : lessB (F' (2 * i + 2)) (F' (2 * i + 1))
        · have L1 : Hid (∀ W : World, Arr W ga N F' → Calls Tryz.prog 291 #[.slice (some ⟨ga, 0, none⟩) m c, .int .i64 (2 * (i : Int) + 1 + 1), .int .i64 (2 * (i : Int) + 1)] W fun e w' => e = .returned (.bool false) ∧ Below W.heap.size W w') := Lib.hid (fun W hA => by
            have h := less_c ga N m c (2 * i + 2) (2 * i + 1) F' W hA (by omega) (by omega) hm hN
            rw [hb1, show (((2 * i + 2) : Nat) : Int) = 2 * (i : Int) + 1 + 1 by omega, show (((2 * i + 1) : Nat) : Int) = 2 * (i : Int) + 1 by omega] at h
            exact h)
          have HC := Lib.hid (fun cc (h3 : cc < n) (h4 : cc = 2 * i + 1 ∨ cc = 2 * i + 2) => (by
            rcases h4 with rfl | rfl
            · exact leP.refl _
            · exact less_no hb1 : leP (F' (2 * i + 1)) (F' cc)))
          clear hb1
          have ml := fun k : Nat => (m_less0 k ⟨gq, 0, none⟩ wr).trans (run_ld cK0_0)
          go_upto_region 8 with (first | (go_at_call 291; with_reducible refine (L1.out _ A0).mono ?_; rintro e w' ⟨rfl, hb⟩) | fail)
          have A0 := A0.below hb
          have K0 := K0.below hb
          have GB := gb_bel GB hb
          clear ml cK0_0 fK0 lK0 nK0 mK0 hb
          obtain ⟨cK0_0, fK0, lK0, nK0, mK0⟩ := Blk.all1 K0
          cases hb2 : lessB (F' (2 * i + 1)) (F' i)
          · have L2 : Hid (∀ W : World, Arr W ga N F' → Calls Tryz.prog 291 #[.slice (some ⟨ga, 0, none⟩) m c, .int .i64 (2 * (i : Int) + 1), .int .i64 ((i : Int))] W fun e w' => e = .returned (.bool false) ∧ Below W.heap.size W w') := Lib.hid (fun W hA => by
              have h := less_c ga N m c (2 * i + 1) (i) F' W hA (by omega) (by omega) hm hN
              rw [hb2, show (((2 * i + 1) : Nat) : Int) = 2 * (i : Int) + 1 by omega] at h
              exact h)
            have HD := Lib.hid (fun cc h3 h4 => (less_no hb2).trans (HC.out cc h3 h4))
            clear hb2
            have ml := fun k : Nat => (m_less0 k ⟨gq, 0, none⟩ w').trans (run_ld cK0_0)
            go_wp2_with (first | (go_at_call 291; with_reducible refine (L2.out _ A0).mono ?_; rintro e w' ⟨rfl, hb⟩; have A0 := A0.below hb; have K0 := K0.below hb; have GB := gb_bel GB hb) | fail)
            go_ret
            exact ⟨⟨_, rfl⟩, F', HX.out.done HD.out, BS.out, K0, A0, GB⟩
          · have L2 : Hid (∀ W : World, Arr W ga N F' → Calls Tryz.prog 291 #[.slice (some ⟨ga, 0, none⟩) m c, .int .i64 (2 * (i : Int) + 1), .int .i64 ((i : Int))] W fun e w' => e = .returned (.bool true) ∧ Below W.heap.size W w') := Lib.hid (fun W hA => by
              have h := less_c ga N m c (2 * i + 1) (i) F' W hA (by omega) (by omega) hm hN
              rw [hb2, show (((2 * i + 1) : Nat) : Int) = 2 * (i : Int) + 1 by omega] at h
              exact h)
            have HD := Lib.hid (less_yes hb2)
            clear hb2
            have ml := fun k : Nat => (m_less0 k ⟨gq, 0, none⟩ w').trans (run_ld cK0_0)
            go_upto_region 9 with (first | (go_at_call 291; with_reducible refine (L2.out _ A0).mono ?_; rintro e w' ⟨rfl, hb⟩) | fail)
            have A0 := A0.below hb
            have K0 := K0.below hb
            have GB := gb_bel GB hb
            clear ml cK0_0 fK0 lK0 nK0 mK0 hb
            obtain ⟨cK0_0, fK0, lK0, nK0, mK0⟩ := Blk.all1 K0
            have ms := fun k : Nat => (m_swap0 k ⟨gq, 0, none⟩ w').trans (run_ld cK0_0)
            have SW := Lib.hid (fun W (hA : Arr W ga N F') => swap_c ga N m c i (2 * i + 1) F' W hA (by omega) (by omega) hm hN)
            rw [show (((2 * i + 1) : Nat) : Int) = 2 * (i : Int) + 1 by omega] at SW
            go_wp2_with (first | (go_at_call 292; with_reducible refine (SW.out _ A0).mono ?_; rintro e w3 ⟨rfl, hA3, hg3⟩; have K0 := blk_gb K0 hg3 (Ne.symm hga); have GB := gb_step GB hg3) | fail)
            go_roundg (n + 1 - (2 * i + 1))
            case measure => omega
            case rel => exact ⟨2 * i + 1, swF F' i (2 * i + 1), by omega, by omega, by omega, (by show Value.int .i64 (2 * (i : Int) + 1) = _; exact vInt (by omega)), HX.out.step hi1 (by omega) (by omega) HC.out HD.out, BS.out.trans (swF_same _ (by omega) (by omega)), K0, hA3, GB⟩
        · have L1 : Hid (∀ W : World, Arr W ga N F' → Calls Tryz.prog 291 #[.slice (some ⟨ga, 0, none⟩) m c, .int .i64 (2 * (i : Int) + 1 + 1), .int .i64 (2 * (i : Int) + 1)] W fun e w' => e = .returned (.bool true) ∧ Below W.heap.size W w') := Lib.hid (fun W hA => by
            have h := less_c ga N m c (2 * i + 2) (2 * i + 1) F' W hA (by omega) (by omega) hm hN
            rw [hb1, show (((2 * i + 2) : Nat) : Int) = 2 * (i : Int) + 1 + 1 by omega, show (((2 * i + 1) : Nat) : Int) = 2 * (i : Int) + 1 by omega] at h
            exact h)
          have HC := Lib.hid (fun cc (h3 : cc < n) (h4 : cc = 2 * i + 1 ∨ cc = 2 * i + 2) => (by
            rcases h4 with rfl | rfl
            · exact less_yes hb1
            · exact leP.refl _ : leP (F' (2 * i + 2)) (F' cc)))
          clear hb1
          have ml := fun k : Nat => (m_less0 k ⟨gq, 0, none⟩ wr).trans (run_ld cK0_0)
          go_upto_region 8 with (first | (go_at_call 291; with_reducible refine (L1.out _ A0).mono ?_; rintro e w' ⟨rfl, hb⟩) | fail)
          have A0 := A0.below hb
          have K0 := K0.below hb
          have GB := gb_bel GB hb
          clear ml cK0_0 fK0 lK0 nK0 mK0 hb
          obtain ⟨cK0_0, fK0, lK0, nK0, mK0⟩ := Blk.all1 K0
          cases hb2 : lessB (F' (2 * i + 2)) (F' i)
          · have L2 : Hid (∀ W : World, Arr W ga N F' → Calls Tryz.prog 291 #[.slice (some ⟨ga, 0, none⟩) m c, .int .i64 (2 * (i : Int) + 1 + 1), .int .i64 ((i : Int))] W fun e w' => e = .returned (.bool false) ∧ Below W.heap.size W w') := Lib.hid (fun W hA => by
              have h := less_c ga N m c (2 * i + 2) (i) F' W hA (by omega) (by omega) hm hN
              rw [hb2, show (((2 * i + 2) : Nat) : Int) = 2 * (i : Int) + 1 + 1 by omega] at h
              exact h)
            have HD := Lib.hid (fun cc h3 h4 => (less_no hb2).trans (HC.out cc h3 h4))
            clear hb2
            have ml := fun k : Nat => (m_less0 k ⟨gq, 0, none⟩ w').trans (run_ld cK0_0)
            go_wp2_with (first | (go_at_call 291; with_reducible refine (L2.out _ A0).mono ?_; rintro e w' ⟨rfl, hb⟩; have A0 := A0.below hb; have K0 := K0.below hb; have GB := gb_bel GB hb) | fail)
            go_ret
            exact ⟨⟨_, rfl⟩, F', HX.out.done HD.out, BS.out, K0, A0, GB⟩
          · have L2 : Hid (∀ W : World, Arr W ga N F' → Calls Tryz.prog 291 #[.slice (some ⟨ga, 0, none⟩) m c, .int .i64 (2 * (i : Int) + 1 + 1), .int .i64 ((i : Int))] W fun e w' => e = .returned (.bool true) ∧ Below W.heap.size W w') := Lib.hid (fun W hA => by
              have h := less_c ga N m c (2 * i + 2) (i) F' W hA (by omega) (by omega) hm hN
              rw [hb2, show (((2 * i + 2) : Nat) : Int) = 2 * (i : Int) + 1 + 1 by omega] at h
              exact h)
            have HD := Lib.hid (less_yes hb2)
            clear hb2
            have ml := fun k : Nat => (m_less0 k ⟨gq, 0, none⟩ w').trans (run_ld cK0_0)
            go_upto_region 9 with (first | (go_at_call 291; with_reducible refine (L2.out _ A0).mono ?_; rintro e w' ⟨rfl, hb⟩) | fail)
            have A0 := A0.below hb
            have K0 := K0.below hb
            have GB := gb_bel GB hb
            clear ml cK0_0 fK0 lK0 nK0 mK0 hb
            obtain ⟨cK0_0, fK0, lK0, nK0, mK0⟩ := Blk.all1 K0
            have ms := fun k : Nat => (m_swap0 k ⟨gq, 0, none⟩ w').trans (run_ld cK0_0)
            have SW := Lib.hid (fun W (hA : Arr W ga N F') => swap_c ga N m c i (2 * i + 2) F' W hA (by omega) (by omega) hm hN)
            rw [show (((2 * i + 2) : Nat) : Int) = 2 * (i : Int) + 1 + 1 by omega] at SW
            go_wp2_with (first | (go_at_call 292; with_reducible refine (SW.out _ A0).mono ?_; rintro e w3 ⟨rfl, hA3, hg3⟩; have K0 := blk_gb K0 hg3 (Ne.symm hga); have GB := gb_step GB hg3) | fail)
            go_roundg (n + 1 - (2 * i + 2))
            case measure => omega
            case rel => exact ⟨2 * i + 2, swF F' i (2 * i + 2), by omega, by omega, by omega, (by show Value.int .i64 (2 * (i : Int) + 1 + 1) = _; exact vInt (by omega)), HX.out.step hi1 (by omega) (by omega) HC.out HD.out, BS.out.trans (swF_same _ (by omega) (by omega)), K0, hA3, GB⟩
      · have hj2 : decide (2 * (i : Int) + 1 + 1 < (n : Int)) = false := by simp; omega
        have HC := Lib.hid (fun cc (h3 : cc < n) (h4 : cc = 2 * i + 1 ∨ cc = 2 * i + 2) => (by
          rcases h4 with rfl | rfl
          · exact leP.refl _
          · omega : leP (F' (2 * i + 1)) (F' cc)))
        go_upto_region 8 with fail
        cases hb2 : lessB (F' (2 * i + 1)) (F' i)
        · have L2 : Hid (∀ W : World, Arr W ga N F' → Calls Tryz.prog 291 #[.slice (some ⟨ga, 0, none⟩) m c, .int .i64 (2 * (i : Int) + 1), .int .i64 ((i : Int))] W fun e w' => e = .returned (.bool false) ∧ Below W.heap.size W w') := Lib.hid (fun W hA => by
            have h := less_c ga N m c (2 * i + 1) (i) F' W hA (by omega) (by omega) hm hN
            rw [hb2, show (((2 * i + 1) : Nat) : Int) = 2 * (i : Int) + 1 by omega] at h
            exact h)
          have HD := Lib.hid (fun cc h3 h4 => (less_no hb2).trans (HC.out cc h3 h4))
          clear hb2
          have ml := fun k : Nat => (m_less0 k ⟨gq, 0, none⟩ wr).trans (run_ld cK0_0)
          go_wp2_with (first | (go_at_call 291; with_reducible refine (L2.out _ A0).mono ?_; rintro e w' ⟨rfl, hb⟩; have A0 := A0.below hb; have K0 := K0.below hb; have GB := gb_bel GB hb) | fail)
          go_ret
          exact ⟨⟨_, rfl⟩, F', HX.out.done HD.out, BS.out, K0, A0, GB⟩
        · have L2 : Hid (∀ W : World, Arr W ga N F' → Calls Tryz.prog 291 #[.slice (some ⟨ga, 0, none⟩) m c, .int .i64 (2 * (i : Int) + 1), .int .i64 ((i : Int))] W fun e w' => e = .returned (.bool true) ∧ Below W.heap.size W w') := Lib.hid (fun W hA => by
            have h := less_c ga N m c (2 * i + 1) (i) F' W hA (by omega) (by omega) hm hN
            rw [hb2, show (((2 * i + 1) : Nat) : Int) = 2 * (i : Int) + 1 by omega] at h
            exact h)
          have HD := Lib.hid (less_yes hb2)
          clear hb2
          have ml := fun k : Nat => (m_less0 k ⟨gq, 0, none⟩ wr).trans (run_ld cK0_0)
          go_upto_region 9 with (first | (go_at_call 291; with_reducible refine (L2.out _ A0).mono ?_; rintro e w' ⟨rfl, hb⟩) | fail)
          have A0 := A0.below hb
          have K0 := K0.below hb
          have GB := gb_bel GB hb
          clear ml cK0_0 fK0 lK0 nK0 mK0 hb
          obtain ⟨cK0_0, fK0, lK0, nK0, mK0⟩ := Blk.all1 K0
          have ms := fun k : Nat => (m_swap0 k ⟨gq, 0, none⟩ w').trans (run_ld cK0_0)
          have SW := Lib.hid (fun W (hA : Arr W ga N F') => swap_c ga N m c i (2 * i + 1) F' W hA (by omega) (by omega) hm hN)
          rw [show (((2 * i + 1) : Nat) : Int) = 2 * (i : Int) + 1 by omega] at SW
          go_wp2_with (first | (go_at_call 292; with_reducible refine (SW.out _ A0).mono ?_; rintro e w3 ⟨rfl, hA3, hg3⟩; have K0 := blk_gb K0 hg3 (Ne.symm hga); have GB := gb_step GB hg3) | fail)
          go_roundg (n + 1 - (2 * i + 1))
          case measure => omega
          case rel => exact ⟨2 * i + 1, swF F' i (2 * i + 1), by omega, by omega, by omega, (by show Value.int .i64 (2 * (i : Int) + 1) = _; exact vInt (by omega)), HX.out.step hi1 (by omega) (by omega) HC.out HD.out, BS.out.trans (swF_same _ (by omega) (by omega)), K0, hA3, GB⟩
    · have hj1 : decide ((n : Int) ≤ 2 * (i : Int) + 1) = true := by simp; omega
      have HD := Lib.hid (fun cc (h3 : cc < n) (h4 : cc = 2 * i + 1 ∨ cc = 2 * i + 2) => (by omega : leP (F' i) (F' cc)))
      go_wp2_with fail
      go_ret
      exact ⟨⟨_, rfl⟩, F', HX.out.done HD.out, BS.out, K0, A0, GB⟩
end Go.Proofs.YtccblleobcidfaaGreat.Ch
end
/- Layer 7: the heap's Init and Pop. -/
section
namespace Go.Proofs.YtccblleobcidfaaGreat.Ch
open Go.RowKit Go.Proofs.YtccblleobcidfaaGreat.Kt Go.Proofs.YtccblleobcidfaaGreat.Lw Go.Proofs.YtccblleobcidfaaGreat.St Go.Proofs.YtccblleobcidfaaGreat.Nm Go.Proofs.YtccblleobcidfaaGreat.By Go.Proofs.YtccblleobcidfaaGreat.En Go.Proofs.YtccblleobcidfaaGreat.Jr Go.Proofs.YtccblleobcidfaaGreat.Im Go.Proofs.YtccblleobcidfaaGreat.Sl Go.Proofs.YtccblleobcidfaaGreat.Hp
set_option linter.unusedVariables false
set_option linter.unusedSimpArgs false
attribute [local irreducible] gotB goodB Cr.crcB nQ nS nZ nM placeB
set_option maxRecDepth 100000 in
set_option maxHeartbeats 6400000 in
theorem init_c (gq ga N n c : Nat) (F : Nat → PlV) (w : World) (K0 : Blk w gq #[.slice (some ⟨ga, 0, none⟩) n c] 158) (h : Arr w ga N F) (hn : n ≤ N) (hN : N ≤ 1000) (hga : ga ≠ gq) :
    Calls Tryz.prog 125 #[.iface 160 (.pointer (some ⟨gq, 0, none⟩))] w fun e w' => e = .returned (.tuple #[]) ∧ ∃ F', HeapF leP F' 0 n ∧ SameF F F' n ∧ Blk w' gq #[.slice (some ⟨ga, 0, none⟩) n c] 158 ∧ Arr w' ga N F' ∧ w.grownBy w' (some ga) := by
  obtain ⟨cK0_0, fK0, lK0, nK0, mK0⟩ := Blk.all1 K0
  have ml := fun k : Nat => (m_len0 k ⟨gq, 0, none⟩ w).trans (run_ld cK0_0)
  have hn1 : n ≤ 1000 := by omega
  go_enter Tryz.func125, Tryz.ntmps125
  go_wp2_with (first | (go_at_call 126; with_reducible refine (len_c _ _ _ _).mono ?_; rintro e w' ⟨rfl, rfl⟩) | fail)
  clear ml cK0_0 fK0 lK0 nK0 mK0
  go_loopg [3] (n / 2) (fun gg s3 wr => ∃ (d : Nat) (F' : Nat → PlV), d ≤ n / 2 ∧ d ≤ gg ∧ ((d = 0 ∧ s3 = .int .i64 (-1)) ∨ (∃ e : Nat, d = e + 1 ∧ s3 = .int .i64 e)) ∧ Aside (HeapF leP F' d n) ∧ Aside (SameF F F' n) ∧ Aside (Blk wr gq #[.slice (some ⟨ga, 0, none⟩) n c] 158) ∧ Aside (Arr wr ga N F') ∧ Aside (w.grownBy wr (some ga)))
  case atStart =>
    refine ⟨n / 2, F, by omega, by omega, ?_, HeapF.none (by omega), SameF.refl _ _, K0, h, gb_refl _ _⟩
    by_cases h0 : n / 2 = 0
    · exact .inl ⟨h0, by show Value.int .i64 ((n : Int) / 2 - 1) = _; exact vInt (by omega)⟩
    · exact .inr ⟨n / 2 - 1, by omega, by show Value.int .i64 ((n : Int) / 2 - 1) = _; exact vInt (by omega)⟩
  case round =>
    clear K0 h
    obtain ⟨d, F', hd, hg, hcase, BH, BS, BK, BA, BG⟩ := hrel
    rcases hcase with ⟨rfl, rfl⟩ | ⟨e0, rfl, rfl⟩
    · go_wp2_with fail
      go_end0
      exact ⟨rfl, F', BH.out, BS.out, BK.out, BA.out, BG.out⟩
    · have dn := Lib.hid (down_c gq ga N n n c e0 F' wr BK.out BA.out (Nat.le_refl _) hn hN (by omega) hga (HeapX.first BH.out))
      have e0z : (0 : Int) ≤ (e0 : Int) := by omega
      go_wp2_with (first | (go_at_call 182; with_reducible refine dn.out.mono ?_; rintro e w3 ⟨⟨bb, rfl⟩, F3, hH3, hS3, hK3, hA3, hg3⟩) | fail)
      go_roundg e0
      case measure => omega
      case rel =>
        refine ⟨e0, F3, by omega, by omega, ?_, hH3, BS.out.trans hS3, hK3, hA3, gb_step BG.out hg3⟩
        by_cases h0 : e0 = 0
        · exact .inl ⟨h0, by show Value.int .i64 ((e0 : Int) - 1) = _; exact vInt (by omega)⟩
        · exact .inr ⟨e0 - 1, by omega, by show Value.int .i64 ((e0 : Int) - 1) = _; exact vInt (by omega)⟩
/-- all blocks but two are as they were. -/
structure Fr2 (w w' : World) (a b : Nat) : Prop where
  os : w'.os = w.os
  tape : w'.tape = w.tape
  output : w'.output = w.output
  size : w.heap.size ≤ w'.heap.size
  block : ∀ k, k < w.heap.size → k ≠ a → k ≠ b → w'.heap[k]? = w.heap[k]?
theorem Fr2.trans {w w1 w2 : World} {a b : Nat} (h : Fr2 w w1 a b) (k : Fr2 w1 w2 a b) : Fr2 w w2 a b :=
  ⟨k.os.trans h.os, k.tape.trans h.tape, k.output.trans h.output, Nat.le_trans h.size k.size, fun i hi ha hb => (k.block i (Nat.lt_of_lt_of_le hi h.size) ha hb).trans (h.block i hi ha hb)⟩
theorem Fr2.one {w w' : World} {a b : Nat} (h : w.grownBy w' (some a)) : Fr2 w w' a b := ⟨h.os, h.tape, h.output, h.size, fun k hk ha _ => h.block k hk (fun e => ha (by cases e; rfl))⟩
theorem Fr2.two {w w' : World} {a b : Nat} (h : w.grownBy w' (some b)) : Fr2 w w' a b := ⟨h.os, h.tape, h.output, h.size, fun k hk _ hb => h.block k hk (fun e => hb (by cases e; rfl))⟩
theorem bl_fr2 {w0 w w' : World} {a b : Nat} (h : Below w0.heap.size w0 w) (k : Fr2 w w' a b) (ha : w0.heap.size ≤ a) (hb : w0.heap.size ≤ b) : Below w0.heap.size w0 w' :=
  ⟨k.os.trans h.os, k.tape.trans h.tape, k.output.trans h.output, Nat.le_trans h.size k.size, fun i hi => (k.block i (Nat.lt_of_lt_of_le hi h.size) (by omega) (by omega)).trans (h.block i hi)⟩
theorem blk_fr2 {w w' : World} {a b g : Nat} {cs : Array Value} {t : TypeId} (h : Blk w g cs t) (k : Fr2 w w' a b) (ha : g ≠ a) (hb : g ≠ b) : Blk w' g cs t := (k.block g h.lt ha hb).trans h
theorem arr_gb {w w' : World} {g r N : Nat} {F : Nat → PlV} (h : Arr w g N F) (k : w.grownBy w' (some r)) (hg : g ≠ r) : Arr w' g N F := by
  have e := k.block g h.lt (fun e => hg (by cases e; rfl))
  have ec : ∀ o, w'.cell? ⟨g, o, none⟩ = w.cell? ⟨g, o, none⟩ := fun o => World.cell?_of_block (a := ⟨g, o, none⟩) e
  have ef : ∀ o, w'.frozen? ⟨g, o, none⟩ = w.frozen? ⟨g, o, none⟩ := fun o => World.frozen?_of_block (a := ⟨g, o, none⟩) e
  exact ⟨Nat.lt_of_lt_of_le h.lt k.size, fun i hi => (ec _).trans (h.c0 i hi), fun i hi => (ec _).trans (h.c1 i hi), fun i hi => (ec _).trans (h.c2 i hi), fun i hi => (ec _).trans (h.c3 i hi), fun i hi => (ec _).trans (h.c4 i hi), fun i hi => (ef _).trans (h.fr i hi)⟩
set_option maxRecDepth 100000 in
set_option maxHeartbeats 6400000 in
theorem hpop_c (gq ga N n c : Nat) (F : Nat → PlV) (w : World) (K0 : Blk w gq #[.slice (some ⟨ga, 0, none⟩) (n + 1) c] 158) (h : Arr w ga N F) (hn : n + 1 ≤ N) (hN : N ≤ 1000) (hc : n + 1 ≤ c) (hga : ga ≠ gq) (hh : HeapF leP F 0 (n + 1)) :
    Calls Tryz.prog 127 #[.iface 160 (.pointer (some ⟨gq, 0, none⟩))] w fun e w' => e = .returned (.iface 69 (.agg #[.int .i64 (F 0).at_, .int .i64 (F 0).q, .int .i64 (F 0).s, .int .i64 (F 0).z, .int .i64 (F 0).m])) ∧
      ∃ F', HeapF leP F' 0 n ∧ SameF (swF F 0 n) F' n ∧ Blk w' gq #[.slice (some ⟨ga, 0, none⟩) n c] 158 ∧ Arr w' ga N F' ∧ Fr2 w w' ga gq := by
  obtain ⟨cK0_0, fK0, lK0, nK0, mK0⟩ := Blk.all1 K0
  have ml := fun k : Nat => (m_len0 k ⟨gq, 0, none⟩ w).trans (run_ld cK0_0)
  have ms := fun k : Nat => (m_swap0 k ⟨gq, 0, none⟩ w).trans (run_ld cK0_0)
  have sw := Lib.hid (swap_c ga N (n + 1) c 0 n F w h (by omega) (by omega) hn hN)
  rw [show ((0 : Nat) : Int) = 0 from rfl] at sw
  have hn1 : n ≤ 1000 := by omega
  have e2 : ((n + 1 : Nat) : Int) - 1 = (n : Int) := by omega
  go_enter Tryz.func127, Tryz.ntmps127
  go_upto_region 3 with (first | (go_at_call 126; with_reducible refine (len_c _ _ _ _).mono ?_; rintro e w' ⟨rfl, rfl⟩) | (go_at_call 292; with_reducible refine sw.out.mono ?_; rintro e w1 ⟨rfl, hA1, hg1⟩) | fail)
  have K1 := blk_gb K0 hg1 (Ne.symm hga)
  have dn := Lib.hid (down_c gq ga N n (n + 1) c 0 (swF F 0 n) w1 K1 hA1 (by omega) hn hN (by omega) hga hh.pop)
  rw [show ((0 : Nat) : Int) = 0 from rfl] at dn
  clear ml ms cK0_0 fK0 lK0 nK0 mK0
  go_upto_region 4 with (first | (go_at_call 182; with_reducible refine dn.out.mono ?_; rintro e w2 ⟨⟨bb, rfl⟩, F2, hH2, hS2, hK2, hA2, hg2⟩) | fail)
  have mp := fun k : Nat => m_pop k ⟨gq, 0, none⟩ w2
  have qp := Lib.hid (qpop_c gq ga N n c F2 w2 hK2 hA2 (by omega) hN hc)
  have hF := Lib.hid (show F2 n = F 0 by rw [hS2.2.2 n (Nat.le_refl _), sw_j])
  rw [hF.out] at qp
  clear K0 K1
  go_wp2_with (first | (go_at_call 293; with_reducible refine qp.out.mono ?_; rintro e w3 ⟨rfl, hK3, hg3⟩) | fail)
  go_ret
  exact ⟨rfl, F2, hH2, hS2, hK3, arr_gb hA2 hg3 hga, (Fr2.one (gb_step hg1 hg2)).trans (Fr2.two hg3)⟩
end Go.Proofs.YtccblleobcidfaaGreat.Ch
end
/- Layer 7: the references' Active. -/
section
namespace Go.Proofs.YtccblleobcidfaaGreat.Ch
open Go.RowKit Go.Proofs.YtccblleobcidfaaGreat.Kt Go.Proofs.YtccblleobcidfaaGreat.Lw Go.Proofs.YtccblleobcidfaaGreat.St Go.Proofs.YtccblleobcidfaaGreat.Nm Go.Proofs.YtccblleobcidfaaGreat.By Go.Proofs.YtccblleobcidfaaGreat.En Go.Proofs.YtccblleobcidfaaGreat.Jr Go.Proofs.YtccblleobcidfaaGreat.Im Go.Proofs.YtccblleobcidfaaGreat.Sl
set_option linter.unusedVariables false
set_option linter.unusedSimpArgs false
attribute [local irreducible] gotB goodB Cr.crcB nQ nS nZ nM placeB
theorem act_some {f : ByteArray} {p : PlV} (h : activeO f = some p) : actV f = #[.int .i64 p.at_, .int .i64 p.q, .int .i64 p.s, .int .i64 p.z, .int .i64 p.m] ∧ actE f = 0 := by simp [actV, actE, h]
theorem act_none {f : ByteArray} (h : activeO f = none) : actV f = #[.int .i64 0, .int .i64 0, .int .i64 0, .int .i64 0, .int .i64 0] ∧ actE f = 701 := by simp [actV, actE, h]
/-- the best of the first n: its place in the row. -/
def BestAt (f : ByteArray) (n : Nat) (b : Int) : Prop := (b = -1 ∧ bestL f ((scanL f).take n) = none) ∨ ∃ (j : Nat) (p : PlV), b = (j : Int) ∧ j < n ∧ (scanL f)[j]? = some p ∧ bestL f ((scanL f).take n) = some p
theorem best_next {f : ByteArray} {n : Nat} {x : PlV} (hx : (scanL f)[n]? = some x) : bestL f ((scanL f).take (n + 1)) = stepB f (bestL f ((scanL f).take n)) x := by
  have hn : n < (scanL f).length := (List.getElem?_eq_some_iff.1 hx).1
  rw [List.take_add_one, hx]
  simp only [bestL, List.foldl_append, Option.toList_some, List.foldl_cons, List.foldl_nil]
theorem best_stay {f : ByteArray} {k : Nat} {b : Int} (h : bestL f ((scanL f).take (k + 1)) = bestL f ((scanL f).take k)) (hb : BestAt f k b) : BestAt f (k + 1) b := by
  rcases hb with ⟨h1, h2⟩ | ⟨j, p, h1, h2, h3, h4⟩
  · exact .inl ⟨h1, by rw [h, h2]⟩
  · exact .inr ⟨j, p, h1, by omega, h3, by rw [h, h4]⟩
theorem best_here {f : ByteArray} {k : Nat} {x : PlV} (h : bestL f ((scanL f).take (k + 1)) = some x) (hx : (scanL f)[k]? = some x) : BestAt f (k + 1) (k : Int) := .inr ⟨k, x, rfl, by omega, hx, h⟩
set_option maxHeartbeats 1600000 in
theorem ractive_no (f : ByteArray) (w : World) (h : f.size ≤ 9223372036854775807) (hf : ¬ f.size = 768) : Calls Tryz.prog 48 #[.string f] w fun e w' => e = .returned (.tuple #[.agg #[.int .i64 0, .int .i64 0, .int .i64 0, .int .i64 0, .int .i64 0], .int .i64 700]) ∧ Below w.heap.size w w' := by
  have HB := Below.refl w.heap.size w
  have K0 := Blk.new w #[.int .i64 0, .int .i64 0, .int .i64 0, .int .i64 0, .int .i64 0] 69
  have sc := Lib.hid (fun W : World => rscan_no f W h hf)
  clear hf
  go_enter Tryz.func48, Tryz.ntmps48
  go_wp2_with (first | (go_at_call 112; with_reducible refine (sc.out _).mono ?_; rintro e w' ⟨rfl, rfl⟩) | fail)
  exact bodyPost_ret (v := .tuple #[.agg #[.int .i64 0, .int .i64 0, .int .i64 0, .int .i64 0, .int .i64 0], .int .i64 700]) (by simp [results, Tryz.results48, go_sem, *]) rfl ⟨rfl, zq1⟩
set_option maxRecDepth 100000 in
set_option maxHeartbeats 12800000 in
theorem ractive_c (f : ByteArray) (w : World) (hf : f.size = 768) : Calls Tryz.prog 48 #[.string f] w fun e w' => e = .returned (.tuple #[.agg (actV f), .int .i64 (actE f)]) ∧ Below w.heap.size w w' := by
  have HB := Below.refl w.heap.size w
  have K0 := Blk.new w #[.int .i64 0, .int .i64 0, .int .i64 0, .int .i64 0, .int .i64 0] 69
  have sc := Lib.hid (fun W : World => rscan_yes f W hf)
  have HF := Lib.hid hf
  clear hf
  go_enter Tryz.func48, Tryz.ntmps48
  go_wp2_with (first | (go_at_call 112; (with_reducible refine (sc.out _).mono ?_); rintro e w' ⟨A, c, rfl, hown, hb⟩; have HB := bl_step (w := w) zq0 hb; have hzB := HB.size; have K0 := Blk.on zq3 zq39 hb; (try clear cK0_0 cK0_1 cK0_2 cK0_3 cK0_4 fK0 lK0 nK0 mK0); obtain ⟨cK0_0, cK0_1, cK0_2, cK0_3, cK0_4, fK0, lK0, nK0, mK0⟩ := Blk.all5 K0) | fail)
  have hln : (scanL f).length ≤ 8 := scanN_le f 8
  have LL := Lib.hid (lies_own encP_len hown rfl)
  clear hown
  obtain ⟨n, hn⟩ : ∃ n, (scanL f).length = n := ⟨_, rfl⟩
  rw [hn] at hln ⊢
  have HN := Lib.hid hn
  clear hn cK0_0 cK0_1 cK0_2 cK0_3 cK0_4 fK0 lK0 nK0 mK0 hb hzB sc
  go_loopg [6, 7, 8, 9] n (fun gg s6 s7 _ _ wr => ∃ (k : Nat) (b : Int), k ≤ n ∧ n - k ≤ gg ∧ s7 = .int .i64 k ∧ s6 = .int .i64 b ∧ -1 ≤ b ∧ b < n ∧ Aside (BestAt f k b) ∧ Aside (Below w.heap.size w wr) ∧ Aside (Blk wr w.heap.size #[.int .i64 0, .int .i64 0, .int .i64 0, .int .i64 0, .int .i64 0] 69) ∧ Aside (Lies encP 5 wr A (scanL f)))
  case atStart => exact ⟨0, -1, by omega, by omega, rfl, rfl, by omega, by omega, .inl ⟨rfl, by simp [bestL]⟩, HB, K0, LL.out⟩
  case round =>
    clear HB K0 LL
    obtain ⟨k, b, hk, hg, rfl, rfl, hb0, hb1, BB, BW, BK, BL⟩ := hrel
    have HB := BW.out
    have K0 := BK.out
    have hzB := HB.size
    obtain ⟨cK0_0, cK0_1, cK0_2, cK0_3, cK0_4, fK0, lK0, nK0, mK0⟩ := Blk.all5 K0
    clear BW BK
    by_cases hlt : k < n
    · have hlz : decide ((k : Int) < (n : Int)) = true := by simp; omega
      obtain ⟨ab, off, x, rfl, hbs, hx, c0, c1, c2, c3, c4⟩ := lies_at BL.out (j := k) (by have := HN.out; omega)
      have hok := scan_ok (List.mem_of_getElem? hx)
      have gd := Lib.hid (fun W : World => rgood_c f x.q x.s x.z x.m W HF.out hok.may)
      have BN := Lib.hid (best_next hx)
      have HX := Lib.hid hx
      clear hx hok
      cases hgd : goodB f x.s x.z x.m
      · rw [hgd] at gd
        have hst := Lib.hid (show bestL f ((scanL f).take (k + 1)) = bestL f ((scanL f).take k) by rw [BN.out, step_no hgd])
        clear hgd
        go_upto_region 9 with (first | (go_at_call 113; with_reducible refine (gd.out _).mono ?_; rintro e w' ⟨rfl, hb⟩; have HB := bl_step (w := w) zq0 hb; have hzB := HB.size; have K0 := Blk.on zq3 zq39 hb; (try clear cK0_0 cK0_1 cK0_2 cK0_3 cK0_4 fK0 lK0 nK0 mK0); obtain ⟨cK0_0, cK0_1, cK0_2, cK0_3, cK0_4, fK0, lK0, nK0, mK0⟩ := Blk.all5 K0) | fail)
        have BL2 := BL.out.below hb
        clear hb BL gd
        have qK0_0 := fun s : Wld _ => Wld.cell cK0_0 s; have qK0_1 := fun s : Wld _ => Wld.cell cK0_1 s; have qK0_2 := fun s : Wld _ => Wld.cell cK0_2 s; have qK0_3 := fun s : Wld _ => Wld.cell cK0_3 s; have qK0_4 := fun s : Wld _ => Wld.cell cK0_4 s
        refine wld_lit (by kernel_rfl) (by kernel_rfl) ?_
        repeat (go_big_quiet_step (fail))
        refine wpQuiet_nil ?_; refine Wld.elim ?_; intro w' hb; clear qK0_0 qK0_1 qK0_2 qK0_3 qK0_4; have HB := bl_step (w := w) zq0 hb; have hzB := HB.size; have K0 := Blk.on zq3 zq39 hb; (try clear cK0_0 cK0_1 cK0_2 cK0_3 cK0_4 fK0 lK0 nK0 mK0); obtain ⟨cK0_0, cK0_1, cK0_2, cK0_3, cK0_4, fK0, lK0, nK0, mK0⟩ := Blk.all5 K0
        have BL3 := BL2.below hb
        go_wp2_with fail
        go_roundg (n - (k + 1))
        case measure => omega
        case rel => exact ⟨k + 1, b, by omega, by omega, by go_num, rfl, by omega, by omega, best_stay hst.out BB.out, HB, K0, BL3⟩
      · rw [hgd] at gd
        rcases BB.out with ⟨rfl, hno⟩ | ⟨j, p, rfl, hj, hp, hbp⟩
        · have hst := Lib.hid (show bestL f ((scanL f).take (k + 1)) = some x by rw [BN.out, hno, step_new hgd])
          clear hgd hno BB
          go_upto_region 9 with (first | (go_at_call 113; with_reducible refine (gd.out _).mono ?_; rintro e w' ⟨rfl, hb⟩; have HB := bl_step (w := w) zq0 hb; have hzB := HB.size; have K0 := Blk.on zq3 zq39 hb; (try clear cK0_0 cK0_1 cK0_2 cK0_3 cK0_4 fK0 lK0 nK0 mK0); obtain ⟨cK0_0, cK0_1, cK0_2, cK0_3, cK0_4, fK0, lK0, nK0, mK0⟩ := Blk.all5 K0) | fail)
          have BL2 := BL.out.below hb
          clear hb BL gd
          have qK0_0 := fun s : Wld _ => Wld.cell cK0_0 s; have qK0_1 := fun s : Wld _ => Wld.cell cK0_1 s; have qK0_2 := fun s : Wld _ => Wld.cell cK0_2 s; have qK0_3 := fun s : Wld _ => Wld.cell cK0_3 s; have qK0_4 := fun s : Wld _ => Wld.cell cK0_4 s
          refine wld_lit (by kernel_rfl) (by kernel_rfl) ?_
          repeat (go_big_quiet_step (fail))
          refine wpQuiet_nil ?_; refine Wld.elim ?_; intro w' hb; clear qK0_0 qK0_1 qK0_2 qK0_3 qK0_4; have HB := bl_step (w := w) zq0 hb; have hzB := HB.size; have K0 := Blk.on zq3 zq39 hb; (try clear cK0_0 cK0_1 cK0_2 cK0_3 cK0_4 fK0 lK0 nK0 mK0); obtain ⟨cK0_0, cK0_1, cK0_2, cK0_3, cK0_4, fK0, lK0, nK0, mK0⟩ := Blk.all5 K0
          have BL3 := BL2.below hb
          go_wp2_with fail
          go_roundg (n - (k + 1))
          case measure => omega
          case rel => exact ⟨k + 1, (k : Int), by omega, by omega, by go_num, rfl, by omega, by omega, best_here hst.out HX.out, HB, K0, BL3⟩
        · have hjz : decide ((j : Int) < 0) = false := by simp
          have hjn : (j : Int) < (n : Int) := by omega
          have hj0 : (0 : Int) ≤ (j : Int) := by omega
          obtain ⟨ab2, off2, y, he, hbs2, hy, d0, d1, d2, d3, d4⟩ := lies_at BL.out (j := j) (by have := HN.out; omega)
          injection he with he
          injection he with he1 he2 _
          subst he1 he2
          obtain rfl : y = p := by rw [hp] at hy; exact (Option.some.inj hy).symm
          have HBP := Lib.hid hbp
          clear hp hy hbp d0 d2 d3 d4
          by_cases hq : y.q ≤ x.q
          · have hqz : decide (y.q ≤ x.q) = true := decide_eq_true hq
            have hst := Lib.hid (show bestL f ((scanL f).take (k + 1)) = some x by rw [BN.out, HBP.out, step_up hgd hq])
            clear hgd BB hq
            go_upto_region 9 with (first | (go_at_call 113; with_reducible refine (gd.out _).mono ?_; rintro e w' ⟨rfl, hb⟩; have HB := bl_step (w := w) zq0 hb; have hzB := HB.size; have K0 := Blk.on zq3 zq39 hb; (try clear cK0_0 cK0_1 cK0_2 cK0_3 cK0_4 fK0 lK0 nK0 mK0); obtain ⟨cK0_0, cK0_1, cK0_2, cK0_3, cK0_4, fK0, lK0, nK0, mK0⟩ := Blk.all5 K0) | fail)
            have BL2 := BL.out.below hb
            have c1w := cb hb c1
            have d1w := cb hb d1
            clear hb BL gd c0 c1 c2 c3 c4 d1
            have r1 := fun s : Wld w' => Wld.cell c1w s
            have r2 := fun s : Wld w' => Wld.cell d1w s
            have qK0_0 := fun s : Wld _ => Wld.cell cK0_0 s; have qK0_1 := fun s : Wld _ => Wld.cell cK0_1 s; have qK0_2 := fun s : Wld _ => Wld.cell cK0_2 s; have qK0_3 := fun s : Wld _ => Wld.cell cK0_3 s; have qK0_4 := fun s : Wld _ => Wld.cell cK0_4 s
            refine wld_lit (by kernel_rfl) (by kernel_rfl) ?_
            repeat (go_big_quiet_step (fail))
            clear r1 r2
            refine wpQuiet_nil ?_; refine Wld.elim ?_; intro w' hb; clear qK0_0 qK0_1 qK0_2 qK0_3 qK0_4; have HB := bl_step (w := w) zq0 hb; have hzB := HB.size; have K0 := Blk.on zq3 zq39 hb; (try clear cK0_0 cK0_1 cK0_2 cK0_3 cK0_4 fK0 lK0 nK0 mK0); obtain ⟨cK0_0, cK0_1, cK0_2, cK0_3, cK0_4, fK0, lK0, nK0, mK0⟩ := Blk.all5 K0
            have BL3 := BL2.below hb
            go_wp2_with fail
            go_roundg (n - (k + 1))
            case measure => omega
            case rel => exact ⟨k + 1, (k : Int), by omega, by omega, by go_num, rfl, by omega, by omega, best_here hst.out HX.out, HB, K0, BL3⟩
          · have hqz : decide (y.q ≤ x.q) = false := decide_eq_false hq
            have hst := Lib.hid (show bestL f ((scanL f).take (k + 1)) = bestL f ((scanL f).take k) by rw [BN.out, HBP.out, step_keep hq])
            clear hgd hq
            go_upto_region 9 with (first | (go_at_call 113; with_reducible refine (gd.out _).mono ?_; rintro e w' ⟨rfl, hb⟩; have HB := bl_step (w := w) zq0 hb; have hzB := HB.size; have K0 := Blk.on zq3 zq39 hb; (try clear cK0_0 cK0_1 cK0_2 cK0_3 cK0_4 fK0 lK0 nK0 mK0); obtain ⟨cK0_0, cK0_1, cK0_2, cK0_3, cK0_4, fK0, lK0, nK0, mK0⟩ := Blk.all5 K0) | fail)
            have BL2 := BL.out.below hb
            have c1w := cb hb c1
            have d1w := cb hb d1
            clear hb BL gd c0 c1 c2 c3 c4 d1
            have r1 := fun s : Wld w' => Wld.cell c1w s
            have r2 := fun s : Wld w' => Wld.cell d1w s
            have qK0_0 := fun s : Wld _ => Wld.cell cK0_0 s; have qK0_1 := fun s : Wld _ => Wld.cell cK0_1 s; have qK0_2 := fun s : Wld _ => Wld.cell cK0_2 s; have qK0_3 := fun s : Wld _ => Wld.cell cK0_3 s; have qK0_4 := fun s : Wld _ => Wld.cell cK0_4 s
            refine wld_lit (by kernel_rfl) (by kernel_rfl) ?_
            repeat (go_big_quiet_step (fail))
            clear r1 r2
            refine wpQuiet_nil ?_; refine Wld.elim ?_; intro w' hb; clear qK0_0 qK0_1 qK0_2 qK0_3 qK0_4; have HB := bl_step (w := w) zq0 hb; have hzB := HB.size; have K0 := Blk.on zq3 zq39 hb; (try clear cK0_0 cK0_1 cK0_2 cK0_3 cK0_4 fK0 lK0 nK0 mK0); obtain ⟨cK0_0, cK0_1, cK0_2, cK0_3, cK0_4, fK0, lK0, nK0, mK0⟩ := Blk.all5 K0
            have BL3 := BL2.below hb
            go_wp2_with fail
            go_roundg (n - (k + 1))
            case measure => omega
            case rel => exact ⟨k + 1, (j : Int), by omega, by omega, by go_num, rfl, by omega, by omega, best_stay hst.out BB.out, HB, K0, BL3⟩
    · obtain rfl : k = n := by omega
      have hall : (scanL f).take k = scanL f := List.take_of_length_le (by have := HN.out; omega)
      rcases BB.out with ⟨rfl, hno⟩ | ⟨j, p, rfl, hj, hp, hbp⟩
      · rw [hall] at hno
        have hv := Lib.hid (act_none (f := f) hno)
        clear hall hno BB
        go_wp2_with fail
        exact bodyPost_ret (v := .tuple #[.agg #[.int .i64 0, .int .i64 0, .int .i64 0, .int .i64 0, .int .i64 0], .int .i64 701]) (by simp [results, Tryz.results48, go_sem, *]) rfl ⟨by rw [hv.out.1, hv.out.2], zq1⟩
      · rw [hall] at hbp
        have hv := Lib.hid (act_some (f := f) hbp)
        have hjz : decide ((j : Int) < 0) = false := by simp
        have hjn : (j : Int) < (k : Int) := by omega
        have hj0 : (0 : Int) ≤ (j : Int) := by omega
        obtain ⟨ab2, off2, y, rfl, hbs2, hy, d0, d1, d2, d3, d4⟩ := lies_at BL.out (j := j) (by have := HN.out; omega)
        obtain rfl : y = p := by rw [hp] at hy; exact (Option.some.inj hy).symm
        clear hall hbp hp hy BB
        go_wp2_with fail
        exact bodyPost_ret (v := .tuple #[.agg #[.int .i64 y.at_, .int .i64 y.q, .int .i64 y.s, .int .i64 y.z, .int .i64 y.m], .int .i64 0]) (by simp [results, Tryz.results48, go_sem, *]) rfl ⟨by rw [hv.out.1, hv.out.2], zq1⟩
end Go.Proofs.YtccblleobcidfaaGreat.Ch
end
/- Layer 7: the program's Active. -/
section
namespace Go.Proofs.YtccblleobcidfaaGreat.Ch
open Go.RowKit Go.Proofs.YtccblleobcidfaaGreat.Kt Go.Proofs.YtccblleobcidfaaGreat.Lw Go.Proofs.YtccblleobcidfaaGreat.St Go.Proofs.YtccblleobcidfaaGreat.Nm Go.Proofs.YtccblleobcidfaaGreat.By Go.Proofs.YtccblleobcidfaaGreat.En Go.Proofs.YtccblleobcidfaaGreat.Jr Go.Proofs.YtccblleobcidfaaGreat.Im Go.Proofs.YtccblleobcidfaaGreat.Sl Go.Proofs.YtccblleobcidfaaGreat.Hp
set_option linter.unusedVariables false
set_option linter.unusedSimpArgs false
attribute [local irreducible] gotB goodB Cr.crcB nQ nS nZ nM placeB
/-- what is left in the queue: all that may be good. -/
structure Left (f : ByteArray) (F : Nat → PlV) (n : Nat) : Prop where
  mem : ∀ k, k < n → F k ∈ scanL f
  all : ∀ x ∈ scanL f, gdP f x = false ∨ ∃ k, k < n ∧ F k = x
theorem Left.same {f : ByteArray} {F G : Nat → PlV} {n : Nat} (h : Left f F n) (s : SameF F G n) : Left f G n := by
  refine ⟨fun k hk => ?_, fun x hx => ?_⟩
  · obtain ⟨m, hm, e⟩ := s.1 k hk
    rw [e]
    exact h.mem m hm
  · rcases h.all x hx with a | ⟨k, hk, e⟩
    · exact .inl a
    · obtain ⟨m, hm, e'⟩ := s.2.1 k hk
      exact .inr ⟨m, hm, by rw [← e', e]⟩
theorem Left.pop {f : ByteArray} {F G : Nat → PlV} {n : Nat} (h : Left f F (n + 1)) (hb : gdP f (F 0) = false) (s : SameF (swF F 0 n) G n) : Left f G n := by
  refine ⟨fun k hk => ?_, fun x hx => ?_⟩
  · obtain ⟨m, hm, e⟩ := s.1 k hk
    rw [e]
    by_cases e0 : m = 0
    · subst e0
      rw [sw_i]
      exact h.mem n (by omega)
    · rw [sw_o e0 (by omega)]
      exact h.mem m (by omega)
  · rcases h.all x hx with a | ⟨k, hk, rfl⟩
    · exact .inl a
    · by_cases k0 : k = 0
      · subst k0
        exact .inl hb
      · by_cases kn : k = n
        · subst kn
          obtain ⟨m, hm, e⟩ := s.2.1 0 (by omega)
          rw [sw_i] at e
          exact .inr ⟨m, hm, e.symm⟩
        · obtain ⟨m, hm, e⟩ := s.2.1 k (by omega)
          rw [sw_o k0 kn] at e
          exact .inr ⟨m, hm, e.symm⟩
theorem Left.best {f : ByteArray} {F : Nat → PlV} {n : Nat} (h : Left f F (n + 1)) (hh : HeapF leP F 0 (n + 1)) (hg : gdP f (F 0) = true) : IsBest f (scanL f) (F 0) := by
  refine ⟨h.mem 0 (by omega), hg, fun x hx gx => ?_⟩
  rcases h.all x hx with a | ⟨k, hk, rfl⟩
  · rw [a] at gx; cases gx
  · exact hh.head leP.refl (fun _ _ _ => leP.trans) k hk
theorem Left.none {f : ByteArray} {F : Nat → PlV} (h : Left f F 0) : ∀ x ∈ scanL f, gdP f x = false := by
  intro x hx
  rcases h.all x hx with a | ⟨k, hk, _⟩
  · exact a
  · omega
/-- the scan's row as the queue's array. -/
def funL (l : List PlV) (k : Nat) : PlV := l.getD k ⟨0, 0, 0, 0, 0⟩
theorem fun_at {l : List PlV} {k : Nat} (h : k < l.length) : l[k]? = some (funL l k) := by
  unfold funL
  rw [List.getD_eq_getElem?_getD, List.getElem?_eq_getElem h]
  rfl
theorem left_scan (f : ByteArray) : Left f (funL (scanL f)) (scanL f).length :=
  ⟨fun k hk => List.mem_of_getElem? (fun_at hk), fun x hx => by
    obtain ⟨k, hk, e⟩ := List.mem_iff_getElem.1 hx
    refine .inr ⟨k, hk, ?_⟩
    have := fun_at hk
    rw [List.getElem?_eq_getElem hk] at this
    rw [← Option.some.inj this, e]⟩
theorem arr_own {w : World} {base g c : Nat} {T : TypeId} {l : List PlV} (h : w.ownsRow base T 5 (.slice (some ⟨g, 0, none⟩) l.length c) l.length (l.flatMap encP)) : Arr w g l.length (funL l) ∧ base ≤ g ∧ l.length ≤ c := by
  have hl := h.lt g rfl
  have hc : ∀ k, k < l.length → ∀ i v, (encP (funL l k))[i]? = some v → w.cell? ⟨g, k * 5 + i, none⟩ = some v := fun k hk i v hv => by
    have := h.cells (g := g) rfl (k * 5 + i) v (flat_at encP_len l k _ i v (fun_at hk) hv)
    rwa [add_plain] at this
  rcases h.2 with ⟨e, _⟩ | ⟨g', cap, cur, e, _, hg, hcap, _, hz, _⟩
  · cases e
  · injection e with e1 e2 e3
    injection e1 with e1
    injection e1 with e1
    subst e1
    subst e3
    exact ⟨⟨hl.2, fun k hk => hc k hk 0 _ rfl, fun k hk => hc k hk 1 _ rfl, fun k hk => hc k hk 2 _ rfl, fun k hk => hc k hk 3 _ rfl, fun k hk => hc k hk 4 _ rfl, fun i hi => by simp [World.frozen?, hg]⟩, hl.1, hcap⟩
set_option maxHeartbeats 1600000 in
theorem active_no (f : ByteArray) (w : World) (h : f.size ≤ 9223372036854775807) (hf : ¬ f.size = 768) : Calls Tryz.prog 64 #[.string f] w fun e w' => e = .returned (.tuple #[.agg #[.int .i64 0, .int .i64 0, .int .i64 0, .int .i64 0, .int .i64 0], .int .i64 700]) ∧ Below w.heap.size w w' := by
  have HB := Below.refl w.heap.size w
  have K0 := Blk.new w #[.int .i64 0, .int .i64 0, .int .i64 0, .int .i64 0, .int .i64 0] 69
  have sc := Lib.hid (fun W : World => scan_no f W h hf)
  clear hf
  go_enter Tryz.func64, Tryz.ntmps64
  go_wp2_with (first | (go_at_call 63; with_reducible refine (sc.out _).mono ?_; rintro e w' ⟨rfl, rfl⟩) | fail)
  exact bodyPost_ret (v := .tuple #[.agg #[.int .i64 0, .int .i64 0, .int .i64 0, .int .i64 0, .int .i64 0], .int .i64 700]) (by simp [results, Tryz.results64, go_sem, *]) rfl ⟨rfl, zq1⟩
theorem own_form {w : World} {base : Nat} {T : TypeId} {A : Option Addr} {n c : Nat} {xs : List Value} (h : w.ownsRow base T 5 (.slice A n c) n xs) : (A = none ∧ n = 0 ∧ c = 0) ∨ ∃ g, A = some ⟨g, 0, none⟩ := by
  rcases h.2 with ⟨e, e2⟩ | ⟨g, cap, cur, e, _⟩
  · injection e with e1 _ e3
    exact .inl ⟨e1, e2, e3⟩
  · injection e with e1 _ _
    exact .inr ⟨g, e1⟩
set_option maxRecDepth 100000 in
set_option maxHeartbeats 3200000 in
theorem init_nil_c (gq : Nat) (w : World) (K0 : Blk w gq #[.slice none 0 0] 158) :
    Calls Tryz.prog 125 #[.iface 160 (.pointer (some ⟨gq, 0, none⟩))] w fun e w' => e = .returned (.tuple #[]) ∧ w = w' := by
  obtain ⟨cK0_0, fK0, lK0, nK0, mK0⟩ := Blk.all1 K0
  have ml := fun k : Nat => (m_len0 k ⟨gq, 0, none⟩ w).trans (run_ld cK0_0)
  go_enter Tryz.func125, Tryz.ntmps125
  go_wp2_with (first | (go_at_call 126; with_reducible refine (len_c _ _ _ _).mono ?_; rintro e w' ⟨rfl, rfl⟩) | fail)
  go_loopg [3] 1 (fun gg s3 wr => s3 = .int .i64 (-1) ∧ w = wr)
  case atStart => exact ⟨rfl, rfl⟩
  case round =>
    obtain ⟨rfl, rfl⟩ := hrel
    go_wp2_with fail
    go_end0
    exact ⟨rfl, rfl⟩
theorem assert_place (v : Value) (w : World) : (Instr.typeAssert (.iface 69 v) 20 69 false).run Tryz.prog w = .ok v w := by kernel_rfl
set_option maxRecDepth 100000 in
set_option maxHeartbeats 12800000 in
theorem active_c (f : ByteArray) (w : World) (hf : f.size = 768) : Calls Tryz.prog 64 #[.string f] w fun e w' => e = .returned (.tuple #[.agg (actV f), .int .i64 (actE f)]) ∧ Below w.heap.size w w' := by
  have HB := Below.refl w.heap.size w
  have K0 := Blk.new w #[.int .i64 0, .int .i64 0, .int .i64 0, .int .i64 0, .int .i64 0] 69
  have sc := Lib.hid (fun W : World => scan_yes f W hf)
  have HF := Lib.hid hf
  clear hf
  go_enter Tryz.func64, Tryz.ntmps64
  go_upto_region 4 with (first | (go_at_call 63; (with_reducible refine (sc.out _).mono ?_); rintro e w' ⟨A, c, rfl, hown, hb⟩; have HB := bl_step (w := w) zq0 hb; have hzB := HB.size; have K0 := Blk.on zq3 zq39 hb; (try clear cK0_0 cK0_1 cK0_2 cK0_3 cK0_4 fK0 lK0 nK0 mK0); obtain ⟨cK0_0, cK0_1, cK0_2, cK0_3, cK0_4, fK0, lK0, nK0, mK0⟩ := Blk.all5 K0) | fail)
  have hln : (scanL f).length ≤ 8 := scanN_le f 8
  have K1 := fun cs => Blk.new w' cs 158
  have hwz : w.heap.size < w'.heap.size := lK0
  clear cK0_0 cK0_1 cK0_2 cK0_3 cK0_4 fK0 lK0 nK0 mK0 hzB sc
  rcases own_form hown with ⟨rfl, hl0, rfl⟩ | ⟨ga, rfl⟩
  · have hno := Lib.hid (act_none (active_none (fun x hx => by
      have : scanL f = [] := List.eq_nil_of_length_eq_zero hl0
      rw [this] at hx
      cases hx)))
    clear hown hb
    rw [hl0]
    go_upto_region 5 with fail
    have K1 := K1 #[.slice none 0 0]
    have K0 := K0.alloc (.cells #[.slice none 0 0] 158)
    have HB := bl_alloc HB (.cells #[.slice none 0 0] 158)
    generalize w'.alloc (.cells #[.slice none 0 0] 158) = w2 at *
    generalize w'.heap.size = gq at *
    have in1 := Lib.hid (init_nil_c gq w2 K1)
    obtain ⟨cK0_0, cK0_1, cK0_2, cK0_3, cK0_4, fK0, lK0, nK0, mK0⟩ := Blk.all5 K0
    obtain ⟨cK1_0, fK1, lK1, nK1, mK1⟩ := Blk.all1 K1
    go_wp2_with (first | (go_at_call 125; with_reducible refine in1.out.mono ?_; rintro e w3 ⟨rfl, rfl⟩) | fail)
    go_loopg [7, 8, 9] 1 (fun gg _ _ _ wr => w2 = wr)
    case atStart => rfl
    case round =>
      obtain rfl := hrel
      go_wp2_with (first | (go_at_call 126; with_reducible refine (len_c _ _ _ _).mono ?_; rintro e w' ⟨rfl, rfl⟩) | fail)
      exact bodyPost_ret (v := .tuple #[.agg #[.int .i64 0, .int .i64 0, .int .i64 0, .int .i64 0, .int .i64 0], .int .i64 701]) (by simp [results, Tryz.results64, go_sem, *]) rfl ⟨by rw [hno.out.1, hno.out.2], zq1⟩
  · obtain ⟨hA, hgab, hcap⟩ := arr_own hown
    have hgaw : w.heap.size + 1 ≤ ga := by simpa using hgab
    have hgal : ga < w'.heap.size := hA.lt
    have LF := left_scan f
    generalize (scanL f).length = n at *
    generalize funL (scanL f) = F0 at *
    clear hown hb hgab
    go_upto_region 5 with fail
    have K1 := K1 #[.slice (some ⟨ga, 0, none⟩) n c]
    have K0 := K0.alloc (.cells #[.slice (some ⟨ga, 0, none⟩) n c] 158)
    have HB := bl_alloc HB (.cells #[.slice (some ⟨ga, 0, none⟩) n c] 158)
    have hA := hA.below (bl_alloc (Below.refl _ _) (.cells #[.slice (some ⟨ga, 0, none⟩) n c] 158))
    generalize w'.alloc (.cells #[.slice (some ⟨ga, 0, none⟩) n c] 158) = w2 at *
    generalize w'.heap.size = gq at *
    have hgq : ga ≠ gq := by omega
    have in1 := Lib.hid (init_c gq ga n n c F0 w2 K1 hA (Nat.le_refl _) (by omega) hgq)
    go_wp2_with (first | (go_at_call 125; with_reducible refine in1.out.mono ?_; rintro e w3 ⟨rfl, F1, hH1, hS1, hK1, hA1, hg1⟩) | fail)
    have HB3 : Below w.heap.size w w3 := bl_gb HB hg1 (by omega)
    have K03 := blk_gb K0 hg1 (show w.heap.size ≠ ga by omega)
    have LF1 := LF.same hS1
    clear K1 K0 HB hA hg1 hS1 LF in1
    go_loopg [7, 8, 9] (n + 1) (fun gg _ _ _ wr => ∃ (m : Nat) (F : Nat → PlV), m ≤ gg ∧ m ≤ n ∧ Aside (HeapF leP F 0 m) ∧ Aside (Left f F m) ∧ Aside (Blk wr gq #[.slice (some ⟨ga, 0, none⟩) m c] 158) ∧ Aside (Arr wr ga n F) ∧ Aside (Below w.heap.size w wr) ∧ Aside (Blk wr w.heap.size #[.int .i64 0, .int .i64 0, .int .i64 0, .int .i64 0, .int .i64 0] 69))
    case atStart => exact ⟨n, F1, by omega, by omega, hH1, LF1, hK1, hA1, HB3, K03⟩
    case round =>
      clear hH1 LF1 hK1 hA1 HB3 K03
      obtain ⟨m, F, hmg, hmn, BH, BL, BK, BA, BW, B0⟩ := hrel
      have HB := BW.out
      have K0 := B0.out
      have K1 := BK.out
      obtain ⟨cK0_0, cK0_1, cK0_2, cK0_3, cK0_4, fK0, lK0, nK0, mK0⟩ := Blk.all5 K0
      obtain ⟨cK1_0, fK1, lK1, nK1, mK1⟩ := Blk.all1 K1
      rcases Nat.eq_zero_or_pos m with rfl | hm0
      · have hno := Lib.hid (act_none (active_none BL.out.none))
        go_wp2_with (first | (go_at_call 126; with_reducible refine (len_c _ _ _ _).mono ?_; rintro e w' ⟨rfl, rfl⟩) | fail)
        exact bodyPost_ret (v := .tuple #[.agg #[.int .i64 0, .int .i64 0, .int .i64 0, .int .i64 0, .int .i64 0], .int .i64 701]) (by simp [results, Tryz.results64, go_sem, *]) rfl ⟨by rw [hno.out.1, hno.out.2], zq1⟩
      · obtain ⟨k, rfl⟩ : ∃ k, m = k + 1 := ⟨m - 1, by omega⟩
        have hm1 : decide ((0 : Int) < ((k + 1 : Nat) : Int)) = true := by first | (simp; done) | (simp; omega)
        have hp := Lib.hid (hpop_c gq ga n k c F wr K1 BA.out hmn (by omega) (by omega) hgq BH.out)
        have hok := scan_ok (BL.out.mem 0 (by omega))
        have gd := Lib.hid (fun W : World => good_c f (F 0).q (F 0).s (F 0).z (F 0).m W HF.out hok.may)
        clear hok
        have tas := fun (v : Value) (W : World) => assert_place v W
        go_upto_region 8 with (first | (go_at_call 126; with_reducible refine (len_c _ _ _ _).mono ?_; rintro e w' ⟨rfl, rfl⟩) | (go_at_call 127; with_reducible refine hp.out.mono ?_; rintro e w4 ⟨rfl, F4, hH4, hS4, hK4, hA4, hfr⟩) | fail)
        have KP := Blk.new w4 #[.int .i64 (F 0).at_, .int .i64 (F 0).q, .int .i64 (F 0).s, .int .i64 (F 0).z, .int .i64 (F 0).m] 69
        have HB := bl_alloc (bl_fr2 HB hfr (by omega) (by omega)) (.cells #[.int .i64 (F 0).at_, .int .i64 (F 0).q, .int .i64 (F 0).s, .int .i64 (F 0).z, .int .i64 (F 0).m] 69)
        have K0 := (blk_fr2 K0 hfr (show w.heap.size ≠ ga by omega) (show w.heap.size ≠ gq by omega)).alloc (.cells #[.int .i64 (F 0).at_, .int .i64 (F 0).q, .int .i64 (F 0).s, .int .i64 (F 0).z, .int .i64 (F 0).m] 69)
        have K1 := hK4.alloc (.cells #[.int .i64 (F 0).at_, .int .i64 (F 0).q, .int .i64 (F 0).s, .int .i64 (F 0).z, .int .i64 (F 0).m] 69)
        have A4 := hA4.below (bl_alloc (Below.refl _ _) (.cells #[.int .i64 (F 0).at_, .int .i64 (F 0).q, .int .i64 (F 0).s, .int .i64 (F 0).z, .int .i64 (F 0).m] 69))
        have hwp : w.heap.size < w4.heap.size := Nat.lt_of_lt_of_le lK0 hfr.size
        have LB := Lib.hid (fun (hg : gdP f (F 0) = false) => BL.out.pop hg hS4)
        have LG := Lib.hid (fun (hg : gdP f (F 0) = true) => BL.out.best BH.out hg)
        clear hK4 hA4 hfr hp tas hm1 cK0_0 cK0_1 cK0_2 cK0_3 cK0_4 fK0 lK0 nK0 mK0 cK1_0 fK1 lK1 nK1 mK1 BA BH BL
        generalize F 0 = p at *
        generalize w4.alloc (.cells #[.int .i64 p.at_, .int .i64 p.q, .int .i64 p.s, .int .i64 p.z, .int .i64 p.m] 69) = w5 at *
        generalize w4.heap.size = gp at *
        have hne0 : w.heap.size ≠ gp := by omega
        obtain ⟨cK0_0, cK0_1, cK0_2, cK0_3, cK0_4, fK0, lK0, nK0, mK0⟩ := Blk.all5 K0
        obtain ⟨cKP_0, cKP_1, cKP_2, cKP_3, cKP_4, fKP, lKP, nKP, mKP⟩ := Blk.all5 KP
        cases hgd : goodB f p.s p.z p.m
        · rw [hgd] at gd
          have LF := LB.out hgd
          go_wp2_with (first | (go_at_call 128; with_reducible refine (gd.out _).mono ?_; rintro e w' ⟨rfl, hb⟩) | fail)
          go_roundg k
          case measure => omega
          case rel => exact ⟨k, F4, by omega, by omega, hH4, LF, K1.below hb, A4.below hb, bl_step HB hb, K0.below hb⟩
        · rw [hgd] at gd
          have hv := Lib.hid (act_some (active_some (LG.out hgd)))
          go_wp2_with (first | (go_at_call 128; with_reducible refine (gd.out _).mono ?_; rintro e w' ⟨rfl, hb⟩; have HB := bl_step (w := w) zq0 hb; have hzB := HB.size; have K0 := Blk.on zq3 zq39 hb; (try clear cK0_0 cK0_1 cK0_2 cK0_3 cK0_4 fK0 lK0 nK0 mK0); obtain ⟨cK0_0, cK0_1, cK0_2, cK0_3, cK0_4, fK0, lK0, nK0, mK0⟩ := Blk.all5 K0; have KP := Blk.on (by first | exact KP | exact KP #[] | exact KP (.cells #[] 0) #[] | exact KP #[] #[]) (by repeat (with_reducible first | exact KP | exact KP _ | exact KP _ _ | apply Blk.alloc | apply Blk.drew | apply Blk.drewN | apply Blk.set5_0 | apply Blk.set5_1 | apply Blk.set5_2 | apply Blk.set5_3 | apply Blk.set5_4 | (apply Blk.off; (first | assumption | omega | (simp; omega))) | fail)) hb; (try clear cKP_0 cKP_1 cKP_2 cKP_3 cKP_4 fKP lKP nKP mKP); obtain ⟨cKP_0, cKP_1, cKP_2, cKP_3, cKP_4, fKP, lKP, nKP, mKP⟩ := Blk.all5 KP) | fail)
          exact bodyPost_ret (v := .tuple #[.agg #[.int .i64 p.at_, .int .i64 p.q, .int .i64 p.s, .int .i64 p.z, .int .i64 p.m], .int .i64 0]) (by simp [results, Tryz.results64, go_sem, *]) rfl ⟨by rw [hv.out.1, hv.out.2], zq1⟩
end Go.Proofs.YtccblleobcidfaaGreat.Ch
end
