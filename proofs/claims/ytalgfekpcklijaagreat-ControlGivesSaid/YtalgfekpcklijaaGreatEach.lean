/- A region that draws its order: some of its operations, that may come in any order among themselves, by an invariant on what is done. -/
import Derived.Test.YtalgfekpcklijaaGreatGb
import Derived.Orders
namespace Go.Proofs.YtalgfekpcklijaaGreat.Eh
open Go.RowKit Go.Proofs.YtalgfekpcklijaaGreat.Kt
set_option linter.unusedVariables false
set_option linter.unusedSimpArgs false

def lmark (l : Array Bool) : List Nat → Array Bool
  | [] => l
  | i :: D => (lmark l D).setIfInBounds i true
theorem lmark_size (l : Array Bool) : ∀ D, (lmark l D).size = l.size
  | [] => rfl
  | i :: D => by simp [lmark, lmark_size l D]
theorem lmark_getD (l : Array Bool) (j : Nat) (hj : j < l.size) (d : Bool) : ∀ D : List Nat, (lmark l D).getD j d = (decide (j ∈ D) || l.getD j d)
  | [] => by simp [lmark]
  | i :: D => by
    have ih := lmark_getD l j hj d D
    have hs := lmark_size l D
    by_cases h : i = j
    · subst h
      have : i < (lmark l D).size := by omega
      simp [lmark, Array.getD_eq_getD_getElem?, Array.getElem?_setIfInBounds, this]
    · have h' : j ≠ i := fun e => h e.symm
      rw [show (lmark l (i :: D)).getD j d = (lmark l D).getD j d from getD_set_ne d h, ih]
      simp [h']
theorem lmark_out (l : Array Bool) (j : Nat) (hj : ¬ j < l.size) (d : Bool) (D : List Nat) : (lmark l D).getD j d = d := by
  have := lmark_size l D
  simp [Array.getD_eq_getD_getElem?, Array.getElem?_eq_none (show (lmark l D).size ≤ j by omega)]
theorem lmark_eq (l : Array Bool) (D D' : List Nat) (h : ∀ x, x ∈ D ↔ x ∈ D') : lmark l D = lmark l D' := by
  apply Array.ext
  · rw [lmark_size, lmark_size]
  · intro i h1 h2
    have hi : i < l.size := by rw [lmark_size] at h1; exact h1
    have a := lmark_getD l i hi false D
    have b := lmark_getD l i hi false D'
    have e1 : (lmark l D).getD i false = (lmark l D)[i] := by simp [Array.getD, h1]
    have e2 : (lmark l D').getD i false = (lmark l D')[i] := by simp [Array.getD, h2]
    rw [← e1, ← e2, a, b]
    simp [h i]

/-- the operations that number i waits for. -/
def deps (md : Region.Mode) (ops : Array Oper) (i : Nat) : List Nat :=
  match ops[i]? with
  | some o => (o.after.toList.filter (Region.binds md)).map (·.on)
  | none => []
theorem ready_iff (md : Region.Mode) (ops : Array Oper) (l : Array Bool) (i : Nat) :
    i ∈ Region.ready md ops l ↔ i < ops.size ∧ l.getD i true = false ∧ ∀ k ∈ deps md ops i, l.getD k false = true := by
  unfold Region.ready deps
  rw [List.mem_filter, List.mem_range]
  constructor
  · rintro ⟨h1, h2⟩
    rw [Bool.and_eq_true] at h2
    refine ⟨h1, by simpa using h2.1, ?_⟩
    have hi : ops[i]? = some ops[i] := by simp [h1]
    rw [hi] at h2 ⊢
    simp only [Option.map_some, Option.getD_some] at h2
    intro k hk
    obtain ⟨e, he, rfl⟩ := List.mem_map.1 hk
    have he' := List.mem_filter.1 he
    have h3 := Array.all_eq_true_iff_forall_mem.1 h2.2 e (by simpa using he'.1)
    rw [he'.2] at h3
    simpa using h3
  · rintro ⟨h1, h2, h3⟩
    refine ⟨h1, ?_⟩
    have hi : ops[i]? = some ops[i] := by simp [h1]
    rw [hi] at h3 ⊢
    rw [Bool.and_eq_true]
    refine ⟨by simp [h2], ?_⟩
    simp only [Option.map_some, Option.getD_some]
    refine Array.all_eq_true_iff_forall_mem.2 fun e he => ?_
    cases hb : Region.binds md e
    · simp
    · have := h3 e.on (List.mem_map.2 ⟨e, List.mem_filter.2 ⟨by simpa using he, hb⟩, rfl⟩)
      simpa using this

/-- each other operation that is not done waits for all of J, or for one that is not done and not of J. -/
def waitsFor (md : Region.Mode) (ops : Array Oper) (J : List Nat) (l : Array Bool) (i : Nat) : Bool :=
  l.getD i true || J.contains i || J.all (fun j => (deps md ops i).contains j) || (deps md ops i).any (fun k => !J.contains k && !l.getD k false)
/-- what can be asked of the region's table alone. -/
def eachOk (md : Region.Mode) (ops : Array Oper) (J : List Nat) (l : Array Bool) : Bool :=
  (l.size == ops.size) && J.all (fun j => decide (j < l.size) && !l.getD j true && (deps md ops j).all (fun k => l.getD k false)) && (List.range ops.size).all (waitsFor md ops J l)

theorem wpAny_each {P : Program} {ops : Array Oper} {Q : Exit → Act → World → Prop} {md : Region.Mode} (J : List Nat) (hJ : J.Nodup) {l : Array Bool} {a : Act} (I : List Nat → World → Prop)
    (hok : eachOk md ops J l = true) (rest : Nat)
    (step : ∀ D i w, i ∈ J → i ∉ D → (∀ x ∈ D, x ∈ J) → I D w → ∀ K : Act → World → Prop, (∀ w', I (i :: D) w' → K a w') → wpOp P ops Q i K a w)
    (fin : ∀ fuel, rest ≤ fuel → ∀ D w, (∀ x, x ∈ D ↔ x ∈ J) → I D w → wpAny P md ops Q fuel (lmark l J) a w) :
    ∀ (n fuel : Nat) (D : List Nat) (w : World), (J.filter (fun j => !D.contains j)).length ≤ n → n + rest ≤ fuel → (∀ x ∈ D, x ∈ J) → I D w → wpAny P md ops Q fuel (lmark l D) a w := by
  simp only [eachOk, Bool.and_eq_true, List.all_eq_true, decide_eq_true_eq, beq_iff_eq, Bool.not_eq_true', List.mem_range] at hok
  obtain ⟨⟨hsz, hj⟩, hw⟩ := hok
  intro n
  induction n with
  | zero =>
    intro fuel D w hn hf hD hI
    have hall : ∀ x, x ∈ J → x ∈ D := by
      intro x hx
      by_cases h : x ∈ D
      · exact h
      · have : x ∈ J.filter (fun j => !D.contains j) := List.mem_filter.2 ⟨hx, by simp [h]⟩
        have h0 : J.filter (fun j => !D.contains j) = [] := List.eq_nil_of_length_eq_zero (by omega)
        rw [h0] at this; cases this
    have hiff : ∀ x, x ∈ D ↔ x ∈ J := fun x => ⟨hD x, hall x⟩
    rw [lmark_eq l D J hiff]
    exact fin fuel (by omega) D w hiff hI
  | succ n ih =>
    intro fuel D w hn hf hD hI
    by_cases hall : ∀ x, x ∈ J → x ∈ D
    · have hiff : ∀ x, x ∈ D ↔ x ∈ J := fun x => ⟨hD x, hall x⟩
      rw [lmark_eq l D J hiff]
      exact fin fuel (by omega) D w hiff hI
    · obtain ⟨j, hj1, hj2⟩ : ∃ j, j ∈ J ∧ j ∉ D := by
        refine Classical.byContradiction fun h => hall fun x hx => ?_
        exact Classical.byContradiction fun hx2 => h ⟨x, hx, hx2⟩
      obtain ⟨fuel, rfl⟩ : ∃ f, fuel = f + 1 := ⟨fuel - 1, by omega⟩
      have low : ∀ k, l.getD k false = true → (lmark l D).getD k false = true := by
        intro k hk
        by_cases hks : k < l.size
        · rw [lmark_getD l k hks]; simp [hk]
        · simp [Array.getD_eq_getD_getElem?, Array.getElem?_eq_none (show l.size ≤ k by omega)] at hk
      have readyJ : ∀ x, x ∈ J → x ∉ D → x ∈ Region.ready md ops (lmark l D) := by
        intro x hx hxD
        have h := hj x hx
        refine (ready_iff md ops _ x).2 ⟨by omega, ?_, fun k hk => low k (h.2 k hk)⟩
        rw [lmark_getD l x h.1.1]; simp [hxD, h.1.2]
      refine ⟨fun h0 => ?_, fun i hi => ?_⟩
      · have := readyJ j hj1 hj2
        rw [h0] at this; cases this
      · have hr := (ready_iff md ops _ i).1 hi
        have his : i < l.size := by omega
        have hnl : i ∉ D ∧ l.getD i true = false := by
          have := hr.2.1
          rw [lmark_getD l i his] at this
          simpa using this
        have hiJ : i ∈ J := by
          refine Classical.byContradiction fun hiJ => ?_
          have h := hw i hr.1
          simp only [waitsFor, Bool.or_eq_true, hnl.2, List.all_eq_true, List.any_eq_true, Bool.and_eq_true, Bool.not_eq_true'] at h
          rcases h with ((h | h) | h) | ⟨k, hk, h1, h2⟩
          · cases h
          · exact hiJ (by simpa using h)
          · have hjd := hr.2.2 j (by simpa using h j hj1)
            have hjs := (hj j hj1).1.1
            have hf1 : l.getD j false = false := by
              have := (hj j hj1).1.2
              rw [show l.getD j false = l.getD j true by simp [Array.getD, hjs]]; exact this
            rw [lmark_getD l j hjs, hf1] at hjd
            simp [hj2] at hjd
          · have hkd := hr.2.2 k hk
            by_cases hks : k < l.size
            · rw [lmark_getD l k hks, h2] at hkd
              have : k ∈ D := by simpa using hkd
              have := hD k this
              simp [this] at h1
            · rw [lmark_out l k hks] at hkd; cases hkd
        refine step D i w hiJ hnl.1 hD hI _ fun w' hI' => ?_
        refine ih fuel (i :: D) w' ?_ (by omega) (fun x hx => ?_) hI'
        · have hmem : i ∈ J.filter (fun j => !D.contains j) := List.mem_filter.2 ⟨hiJ, by simp [hnl.1]⟩
          have hsub : (J.filter (fun j => !(i :: D).contains j)) = (J.filter (fun j => !D.contains j)).filter (· != i) := by
            rw [List.filter_filter]
            congr 1
            funext x
            by_cases hx : x = i <;> simp [hx]
          have hnd : (J.filter (fun j => !D.contains j)).Nodup := hJ.filter _
          rw [hsub, ← hnd.erase_eq_filter, List.length_erase_of_mem hmem]
          omega
        · rcases List.mem_cons.1 hx with rfl | hx
          · exact hiJ
          · exact hD x hx
end Go.Proofs.YtalgfekpcklijaaGreat.Eh
