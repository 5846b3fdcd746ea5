/- Regions that draw their order: the worlds behind calls that leave all elder memory alone are one class; a region of loads, arithmetic and such calls is walked once; so is one with a tail behind it that writes. -/
import Derived.Test.YtimnhdmpfndeaaaKit
import Derived.Deep.QuietTactic
import Derived.BigQuiet
import Derived.StillTail
namespace Go.Proofs.Ytimnhdmpfndeaaa.Kt
open Go.RowKit
set_option linter.unusedVariables false
set_option linter.unusedSimpArgs false

/-- a world behind w in which all that w had is as it was. -/
def Wld (w : World) : Type := { w' : World // Below w.heap.size w w' }
def Wld.val {w : World} (s : Wld w) : World := Subtype.val s
instance wldHas (w : World) : Nonempty (Wld w) := ⟨⟨w, Below.refl _ _⟩⟩
theorem Wld.bel {w : World} (s : Wld w) : Below w.heap.size w s.val := Subtype.property s
theorem Wld.elim {w : World} {Q : World → Prop} (h : ∀ w', Below w.heap.size w w' → Q w') : ∀ s : Wld w, Q s.val := fun s => h _ s.bel
theorem Wld.call {P : Program} {f : FuncId} {args : Array Value} {v : Value} {w : World} {s : Wld w} (h : Calls P f args s.val fun e w' => e = .returned v ∧ Below s.val.heap.size s.val w') :
    Calls P f args s.val fun e w'' => e = .returned v ∧ ∃ s' : Wld w, w'' = s'.val :=
  h.mono fun _ w' ⟨he, hb⟩ => ⟨he, ⟨w', bl_step s.bel hb⟩, rfl⟩
theorem Wld.same {P : Program} {f : FuncId} {args : Array Value} {v : Value} {w : World} {s : Wld w} (h : Calls P f args s.val fun e w' => e = .returned v ∧ s.val = w') :
    Calls P f args s.val fun e w'' => e = .returned v ∧ ∃ s' : Wld w, w'' = s'.val :=
  h.mono fun _ w' ⟨he, hb⟩ => ⟨he, s, hb.symm⟩
theorem Wld.cell {w : World} {g i : Nat} {v : Value} (h : w.cell? ⟨g, i, none⟩ = some v) (s : Wld w) : s.val.cell? ⟨g, i, none⟩ = some v := (cb s.bel h)

section
variable {P : Program} {ops : Array Oper} {md : Region.Mode} {C : World → Prop}
/-- the head, in any order; L is what holds when it is done. -/
def hdW (P : Program) (md : Region.Mode) (ops : Array Oper) (C : World → Prop) (n : Nat) (L : Array Bool → Act → Prop) : Nat → Array Bool → Act → Prop
  | 0, l, a => L l a
  | f + 1, l, a => Region.ready md ops l ≠ [] ∧ ∀ i ∈ Region.ready md ops l, i < n ∧ qOp P ops C i (hdW P md ops C n L f (l.setIfInBounds i true)) a
theorem any_of_hd {n g : Nat} {L : Array Bool → Act → Prop} {Q : Exit → Act → World → Prop} (hL : ∀ l a w, C w → L l a → wpAny P md ops Q g l a w) :
    ∀ (f : Nat) (l : Array Bool) (a : Act) (w : World), C w → hdW P md ops C n L f l a → wpAny P md ops Q (f + g) l a w := by
  intro f
  induction f with
  | zero =>
    intro l a w hw h
    rw [Nat.zero_add]
    exact hL l a w hw h
  | succ f ih =>
    intro l a w hw h
    rw [Nat.add_right_comm]
    refine ⟨fun h0 => absurd h0 h.1, fun i hi => ?_⟩
    exact wpOp_of_qOp hw (fun a' w' hw' h' => ih _ a' w' hw' h') (h.2 i hi).2
theorem hd_first {n i : Nat} {oi : Oper} {v : Value} {L : Array Bool → Act → Prop} (hi : ops[i]? = some oi) (hno : Region.noSelect ops = true)
    (hs : Region.sinkB md ops n = true) (hc : Region.chainB md ops n = true) (hn : n < ops.size) (hin : i < n) (hdone : ∀ l a, L l a → ∀ j ∈ Region.ready md ops l, n ≤ j) :
    ∀ (f : Nat) (l : Array Bool) (a : Act), HeadInv md ops n l →
      (∀ j oj, ops[j]? = some oj → j ≠ i → l.getD j true = false → (∀ e ∈ oj.after, Region.binds md e = true → e.on ≠ i) → oi.apart ops oj = true) →
      i ∈ Region.ready md ops l → YieldsIn P ops C oi v a → hdW P md ops C n L f (l.setIfInBounds i true) (a.put oi.dst v) → hdW P md ops C n L (f + 1) l a := by
  intro f
  induction f with
  | zero =>
    intro l a inv _ hr hy H
    have hun := (mem_ready.1 hr).1
    refine ⟨List.ne_nil_of_mem hr, fun j hj => ?_⟩
    have hjn : j < n := Nat.lt_of_not_le fun h => tail_waits hs hc hn inv _ i rfl hin hun j h hj
    refine ⟨hjn, ?_⟩
    rcases Nat.decEq j i with hji | hji
    · exact absurd (hdone _ _ H j (ready_mono hj hji)) (by omega)
    · subst hji
      exact hy.qOp hi H
  | succ f ih =>
    intro l a inv hfree hr hy H
    have hun := (mem_ready.1 hr).1
    refine ⟨List.ne_nil_of_mem hr, fun j hj => ?_⟩
    have hjn : j < n := Nat.lt_of_not_le fun h => tail_waits hs hc hn inv _ i rfl hin hun j h hj
    refine ⟨hjn, ?_⟩
    rcases Nat.decEq j i with hji | hji
    · obtain ⟨hju, oj, hoj, hall⟩ := mem_ready.1 hj
      have hnot : ∀ e ∈ oj.after, Region.binds md e = true → e.on ≠ i := by
        rintro e he hb rfl
        have := hall e he hb
        rw [getD_both hun] at this
        cases this
      have hap := hfree j oj hoj hji hju hnot
      have hq := qOp_put hoj hap (fun cs b => Region.noSelect_spec hno i oi cs b hi) (fun cs b => Region.noSelect_spec hno j oj cs b hoj) hy (H.2 j (ready_mono hj hji)).2
      refine qOp_mono (fun a' ha' => ?_) hq
      refine ih _ a' (inv.set hj hjn) (fun k ok hk hki hku hkn => hfree k ok hk hki ?_ hkn) (ready_mono hr (Ne.symm hji)) ha'.1 ?_
      · rcases Nat.decEq j k with hjk | hjk
        · rwa [getD_set_ne true hjk] at hku
        · subst hjk
          exact hju
      · rw [Array.setIfInBounds_comm _ _ hji]
        exact ha'.2
    · subst hji
      exact hy.qOp hi H
theorem hd_lex {n g : Nat} {Lq : Act → Prop} (hno : Region.noSelect ops = true) (hs : Region.sinkB md ops n = true) (hc : Region.chainB md ops n = true) (hn : n < ops.size) :
    ∀ (t : List Oper) (k : Nat) (l : Array Bool) (a : Act), (∀ j, j < t.length → t[j]? = ops[k + j]?) → k + t.length = n → HeadInv md ops n l →
    Region.lexHead md ops g t.length k l = true → wpQuiet P ops C Lq t a → hdW P md ops C n (fun l' a' => Region.seqB md ops g n l' = true ∧ Lq a') t.length l a := by
  intro t
  induction t with
  | nil =>
    intro k l a _ hk _ hB h
    obtain rfl : k = n := hk
    exact ⟨hB, h⟩
  | cons o t ih =>
    intro k l a ht hk inv hB h
    have h0 : ops[k]? = some o := (ht 0 (Nat.zero_lt_succ _)).symm
    simp only [List.length_cons, Region.lexHead, Bool.and_eq_true] at hB
    obtain ⟨⟨hr, hf⟩, hB'⟩ := hB
    rw [List.length_cons] at hk
    have hkn : k < n := by omega
    have hr' : k ∈ Region.ready md ops l := by simpa using hr
    have hq : qOp P ops C k (wpQuiet P ops C Lq t) a := by
      unfold qOp
      rw [h0]
      exact h
    obtain ⟨v, hy, hK⟩ := yieldsIn_of_qOp h0 hq
    refine hd_first h0 hno hs hc hn hkn (fun l' a' hl => seqB_ready hl.1) t.length l a inv (Region.free_spec h0 hf) hr' hy ?_
    refine ih (k + 1) _ _ (fun j hj => ?_) (by omega) (inv.set hr' hkn) hB' hK
    have := ht (j + 1) (Nat.succ_lt_succ hj)
    rw [show k + 1 + j = k + (j + 1) by omega, ← this]
    rfl
end
/-- loads, arithmetic, calls: in any order. -/
theorem wld_lit {P : Program} {id : Nat} {Q : Exit → Act → World → Prop} {a : Act} {w : World} {l : List Oper} (hm : P.follows .mixedOrders = true) (hB : Region.lexB .any l.toArray = true)
    (h : wpQuiet P l.toArray (fun w' => ∃ s : Wld w, w' = s.val) (fun a' => ∀ s : Wld w, Q .normal a' s.val) l a) : (Code.region id l.toArray true).wp P Q a w := by
  refine wp_region_quiet (C := fun w' => ∃ s : Wld w, w' = s.val) hm hB ⟨⟨w.drew, bl_drew (Below.refl _ _)⟩, rfl⟩ ?_
  have e : (fun a' => ∀ w', (∃ s : Wld w, w' = s.val) → Q .normal a' w') = fun a' => ∀ s : Wld w, Q .normal a' s.val := by
    funext a'
    apply propext
    exact ⟨fun h s => h _ ⟨s, rfl⟩, fun h w' ⟨s, hs⟩ => hs ▸ h s⟩
  rw [e]
  simpa using h
/-- the same, and a tail that writes, one after the other. -/
theorem wld_tail {P : Program} {id : Nat} {Q : Exit → Act → World → Prop} {a : Act} {w : World} {l : List Oper} (n : Nat) (hm : P.follows .mixedOrders = true) (hB : Region.lexTailB .any l.toArray n = true)
    (h : wpQuiet P l.toArray (fun w' => ∃ s : Wld w, w' = s.val) (fun a' => ∀ s : Wld w, wpList P l.toArray Q (l.drop n) a' s.val) (l.take n) a) : (Code.region id l.toArray true).wp P Q a w := by
  simp only [Region.lexTailB, Bool.and_eq_true, decide_eq_true_eq] at hB
  obtain ⟨⟨⟨⟨hno, hn⟩, hs⟩, hc⟩, hlex⟩ := hB
  have hz : l.toArray.size = l.length := by simp
  have htl : (l.take n).length = n := by rw [List.length_take]; omega
  have hdl : (l.drop n).length = l.toArray.size - n := by rw [List.length_drop, hz]
  have inv0 : HeadInv .any l.toArray n (Array.replicate l.toArray.size false) :=
    ⟨by simp, fun j oj _ hl => (by rw [getD_replicate_false] at hl; cases hl), fun t _ ht => getD_in (by simpa using ht) (getD_replicate_false _ _)⟩
  have H := hd_lex (md := .any) (g := l.toArray.size - n) hno hs hc hn (l.take n) 0 _ a
    (fun j hj => by rw [htl] at hj; rw [Nat.zero_add, List.getElem?_take_of_lt hj, List.getElem?_toArray]) (by rw [htl, Nat.zero_add]) inv0 (by rw [htl]; exact hlex) h
  refine wp_region_any hm ?_
  have hT : ∀ l' a' w', (∃ s : Wld w, w' = s.val) → (Region.seqB .any l.toArray (l.toArray.size - n) n l' = true ∧ ∀ s : Wld w, wpList P l.toArray Q (l.drop n) a' s.val) → wpAny P .any l.toArray Q (l.toArray.size - n) l' a' w' := by
    rintro l' a' w' ⟨s, rfl⟩ ⟨h1, h2⟩
    have := wpAny_of_seq (md := .any) (l.drop n) n l' a' s.val (fun j => by rw [List.getElem?_drop, List.getElem?_toArray]) (by rw [hdl]; exact h1) (h2 s)
    rwa [hdl] at this
  have := any_of_hd hT _ _ _ { w with drawn := w.drawn + 1 } ⟨⟨w.drew, bl_drew (Below.refl _ _)⟩, rfl⟩ H
  rw [htl, show n + (l.toArray.size - n) = l.toArray.size by omega] at this
  exact this
end Go.Proofs.Ytimnhdmpfndeaaa.Kt
