/- Layer 8: records appended one behind the other: in plain Lean. -/
import Derived.Test.YtimnhdmpfndeaaaPlz
namespace Go.Proofs.Ytimnhdmpfndeaaa.Pl
open Go.RowKit Go.Proofs.Ytimnhdmpfndeaaa.Kt Go.Proofs.Ytimnhdmpfndeaaa.Lw Go.Proofs.Ytimnhdmpfndeaaa.St Go.Proofs.Ytimnhdmpfndeaaa.Nm Go.Proofs.Ytimnhdmpfndeaaa.By Go.Proofs.Ytimnhdmpfndeaaa.En Go.Proofs.Ytimnhdmpfndeaaa.Jr Go.Proofs.Ytimnhdmpfndeaaa.Im Go.Proofs.Ytimnhdmpfndeaaa.Sl Go.Proofs.Ytimnhdmpfndeaaa.Gr Go.Proofs.Ytimnhdmpfndeaaa.Ops Go.Proofs.Ytimnhdmpfndeaaa.Ch Go.Proofs.Ytimnhdmpfndeaaa.Fl
set_option linter.unusedVariables false
set_option linter.unusedSimpArgs false
attribute [local irreducible] gotB goodB Cr.crcB nQ nS nZ nM placeB wholeB
theorem fold_le {l : List PlV} {c : Int} : ∀ (a : Int), a ≤ c → (∀ p ∈ l, p.q ≤ c) → l.foldl (fun a p => max a p.q) a ≤ c := by
  induction l with
  | nil => intro a h _; exact h
  | cons x l ih =>
    intro a h hl
    exact ih _ (Int.max_le.2 ⟨h, hl x (by simp)⟩) (fun p hp => hl p (by simp [hp]))
theorem max_eq {l : List PlV} {c : Int} {p : PlV} (h0 : 0 ≤ c) (hl : ∀ p ∈ l, p.q ≤ c) (hp : p ∈ l) (hq : p.q = c) : maxL l = c := by
  have h1 := max_ge 0 hp
  have h2 := fold_le 0 h0 hl
  unfold maxL
  omega
theorem max_nil {l : List PlV} (h : l = []) : maxL l = 0 := by rw [h]; rfl
/-- so many records stand, the last one with that number. -/
def RowOk (f : ByteArray) (i : Nat) : Prop := tameF f ∧ maxL (scanL f) = (i : Int)
theorem blank_place {k : Nat} (hk : k < 8) : placeB (fullB 768) k = fullB 24 := by
  have hz : (placeB (fullB 768) k).size = 24 := place_size (by rw [full_size]; omega)
  refine byt_ext (by rw [hz, full_size]) fun j hj => ?_
  rw [hz] at hj
  rw [byt_place (by rw [full_size]) hk hj, byt_full (by omega), byt_full hj]
theorem blank_tame : tameF (fullB 768) := ⟨full_size 768, fun i j hi hj => by
  rw [byt_full (by omega), byt_full (by omega)]
  exact or_l (by omega) (by omega)⟩
theorem blank_scan : scanL (fullB 768) = [] := by
  cases h : scanL (fullB 768) with
  | nil => rfl
  | cons x l =>
    obtain ⟨k, hk, _, hg⟩ := scan_ok (f := fullB 768) (p := x) (by rw [h]; simp)
    rw [blank_place hk, got_blank'] at hg
    cases hg
theorem row_blank : RowOk (fullB 768) 0 := ⟨blank_tame, max_nil blank_scan⟩
theorem left_over {f y : ByteArray} {P : Nat} {q s z m : Int} (h : Left f y P q s z m) (hm : recMay q s z m = true) (hq : Over f q) (hP : P < 8) (hb : placeB y P = wholeB q s z m) : maxL (scanL y) = q := by
  obtain ⟨g0, g1, _⟩ := got_whole hm
  have hmq := (may_parts hm).1
  refine max_eq (p := plOf y P) (by omega) (fun x hx => ?_) (scan_mem hP (by rw [hb]; exact g0)) (by simp only [plOf, hb, g1])
  obtain ⟨k, hk, rfl, hg⟩ := scan_ok hx
  rcases h.places k hk hg with e | ⟨_, e⟩
  · have := hq k hk (by rw [← e]; exact hg)
    simp only [plOf, e]
    omega
  · simp only [plOf, e, g1]
    omega
theorem last_cut {f : ByteArray} {OL : List OpV} {n : Nat} (hn : OL.length = n + 1) : ∃ o, OL[n]? = some o ∧ cutB (allB f (OL.take n)) o 96 = allB f OL := by
  have ho : OL[n]? = some (OL[n]'(by omega)) := List.getElem?_eq_getElem (by omega)
  refine ⟨_, ho, ?_⟩
  have h := all_next (f := f) ho
  rw [List.take_of_length_le (by omega)] at h
  rw [h]
  rfl
theorem app_all {f : ByteArray} {q s z m : Int} (hf : tameF f) (hm : recMay q s z m = true) (hq : Over f q) (hg : goodB f s z m = true) :
    ∃ P, P < 8 ∧ Left f (allB f (appL f q s z m)) P q s z m ∧ activeO (allB f (appL f q s z m)) = some ⟨24 * (P : Int), q, s, z, m⟩ ∧ placeB (allB f (appL f q s z m)) P = wholeB q s z m := by
  have hl := app_len f q s z m
  obtain ⟨n, hn⟩ : ∃ n, (appL f q s z m).length = n + 1 := ⟨(appL f q s z m).length - 1, by omega⟩
  obtain ⟨o, ho, hc⟩ := last_cut (f := f) hn
  obtain ⟨P, hP, _, h1, h2⟩ := cut_steps (n := 96) hf hm hq hg (by omega) ho
  obtain ⟨h3, h4⟩ := h2 hn.symm rfl
  rw [hc] at h1 h3 h4
  exact ⟨P, hP, h1, h3, h4⟩
theorem row_next {f : ByteArray} {i : Nat} {s z : Int} (h : RowOk f i) (hi : i ≤ 1000) (hs : rngB s 0 1 = true) (hz : rngB z 1 288 = true) :
    nextV f = #[.int .i64 ((i : Int) + 1), .int .i64 0] ∧ recE f s z = 0 ∧ ∃ m, recV f s z = #[.int .i64 ((i : Int) + 1), .int .i64 s, .int .i64 z, .int .i64 m] ∧ recMay ((i : Int) + 1) s z m = true ∧
    ∃ a, activeO (allB f (appL f ((i : Int) + 1) s z m)) = some ⟨a, (i : Int) + 1, s, z, m⟩ ∧ RowOk (allB f (appL f ((i : Int) + 1) s z m)) (i + 1) := by
  obtain ⟨ht, hx⟩ := h
  have hnm : ¬ maxL (scanL f) = 1048576 := by omega
  have hr : recE f s z = 0 := by simp [recE, recOk, ht.1, hs, hz, hnm]
  obtain ⟨_, hv, hm, hg⟩ := rec_yes hr
  have hov := over_max f
  rw [hx] at hv hm hov
  obtain ⟨P, hP, h1, h2, h3⟩ := app_all ht hm hov hg
  refine ⟨by rw [next_one ht.1 hnm, hx], hr, _, hv, hm, _, h2, h1.tame, ?_⟩
  rw [left_over h1 hm hov hP h3]
  omega
end Go.Proofs.Ytimnhdmpfndeaaa.Pl
