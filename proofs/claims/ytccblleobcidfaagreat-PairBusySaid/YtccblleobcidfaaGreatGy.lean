/- Texts laid as one: Hdb Hdc. -/
import Derived.Test.YtccblleobcidfaaGreatGt
import Derived.Test.YtccblleobcidfaaGreatGn
import Derived.Test.YtccblleobcidfaaGreatGs
/- Layer 21: a request, in plain Lean. -/
section
namespace Go.Proofs.YtccblleobcidfaaGreat.Dv
open Go.RowKit Go.Proofs.YtccblleobcidfaaGreat.Kt Go.Proofs.YtccblleobcidfaaGreat.Lw Go.Proofs.YtccblleobcidfaaGreat.St Go.Proofs.YtccblleobcidfaaGreat.Nm Go.Proofs.YtccblleobcidfaaGreat.Es Go.Proofs.YtccblleobcidfaaGreat.By Go.Proofs.YtccblleobcidfaaGreat.En Go.Proofs.YtccblleobcidfaaGreat.Jr Go.Proofs.YtccblleobcidfaaGreat.Im Go.Proofs.YtccblleobcidfaaGreat.Sl Go.Proofs.YtccblleobcidfaaGreat.Gr Go.Proofs.YtccblleobcidfaaGreat.Ops Go.Proofs.YtccblleobcidfaaGreat.Ch Go.Proofs.YtccblleobcidfaaGreat.Fl Go.Proofs.YtccblleobcidfaaGreat.Pl
set_option linter.unusedVariables false
set_option linter.unusedSimpArgs false
/-- what a request's bytes tell: its code, its value, its length. -/
def setC (s : ByteArray) : Int := byt s 1
def setV (s : ByteArray) : Int := numB (s.extract 2 4)
def setL (s : ByteArray) : Int := numB (s.extract 6 8)
theorem gotW_yes {s : ByteArray} (h : Su.gotS s = true) : Su.gotW s = #[.int .i64 (setC s), .int .i64 (setV s), .int .i64 (setL s)] := by simp [Su.gotW, h, setC, setV, setL]
theorem gotW_no {s : ByteArray} (h : Su.gotS s = false) : Su.gotW s = #[.int .i64 0, .int .i64 0, .int .i64 0] := by simp [Su.gotW, h]
theorem got_set {s : ByteArray} (h : Su.gotS s = true) : (0 ≤ setC s ∧ setC s ≤ 6) ∧ (0 ≤ setV s ∧ setV s ≤ 65535) ∧ (0 ≤ setL s ∧ setL s ≤ 32) := by
  simp [Su.gotS, Su.setMay, rngB] at h
  exact ⟨h.2.1.1, h.2.1.2.1, h.2.1.2.2⟩
/-- how many bytes of data a request of that code has. -/
def reqN (c l : Int) : Int := if c = 1 then l else 0
def handOk (d : DS) (s t : ByteArray) : Bool := Su.gotS s && (decide ((t.size : Int) = reqN (setC s) (setL s)) && Tb.allowB d.st (setC s))
/-- a device behind a request that is allowed, and what it tells. -/
def doesD (f : ByteArray) (d : DS) (c v l : Int) (t : ByteArray) : DS :=
  if c = 1 then downD f d v t else if c = 2 then upD f d v l else if c = 3 then statD f d else if c = 5 then d else DS.zero
def tellB (d : DS) : ByteArray := An.putB d.su (min (d.ops.length : Int) 255) d.st
def doesT (f : ByteArray) (d : DS) (c v l : Int) : ByteArray :=
  if c = 2 then upT f d v l else if c = 3 then tellB (statD f d) else if c = 5 then lowB d.st 1 else ⟨#[]⟩
def doneD (f : ByteArray) (d : DS) (s t : ByteArray) : DS := doesD f d (setC s) (setV s) (setL s) t
def failB (d o : DS) : Bool := o.st == 7 && !(d.st == 7)
def handD (f : ByteArray) (d : DS) (s t : ByteArray) : DS := bif handOk d s t then doneD f d s t else DS.fail 6
def handS (f : ByteArray) (d : DS) (s t : ByteArray) : Bool := bif handOk d s t then failB d (doneD f d s t) else true
def handT (f : ByteArray) (d : DS) (s t : ByteArray) : ByteArray := bif handOk d s t then (bif failB d (doneD f d s t) then ⟨#[]⟩ else doesT f d (setC s) (setV s) (setL s)) else ⟨#[]⟩
theorem allow_1 {s : Int} (h0 : 0 ≤ s) (h1 : s ≤ 7) : Tb.allowB s 1 = (s == 0 || s == 3) := by
  have : s = 0 ∨ s = 1 ∨ s = 2 ∨ s = 3 ∨ s = 4 ∨ s = 5 ∨ s = 6 ∨ s = 7 := by omega
  rcases this with rfl | rfl | rfl | rfl | rfl | rfl | rfl | rfl <;> decide +kernel
theorem allow_2 {s : Int} (h0 : 0 ≤ s) (h1 : s ≤ 7) : Tb.allowB s 2 = (s == 0 || s == 6) := by
  have : s = 0 ∨ s = 1 ∨ s = 2 ∨ s = 3 ∨ s = 4 ∨ s = 5 ∨ s = 6 ∨ s = 7 := by omega
  rcases this with rfl | rfl | rfl | rfl | rfl | rfl | rfl | rfl <;> decide +kernel
theorem allow_3 {s : Int} (h0 : 0 ≤ s) (h1 : s ≤ 7) : Tb.allowB s 3 = true := by
  have : s = 0 ∨ s = 1 ∨ s = 2 ∨ s = 3 ∨ s = 4 ∨ s = 5 ∨ s = 6 ∨ s = 7 := by omega
  rcases this with rfl | rfl | rfl | rfl | rfl | rfl | rfl | rfl <;> decide +kernel
theorem allow_4 {s : Int} (h0 : 0 ≤ s) (h1 : s ≤ 7) : Tb.allowB s 4 = (s == 7) := by
  have : s = 0 ∨ s = 1 ∨ s = 2 ∨ s = 3 ∨ s = 4 ∨ s = 5 ∨ s = 6 ∨ s = 7 := by omega
  rcases this with rfl | rfl | rfl | rfl | rfl | rfl | rfl | rfl <;> decide +kernel
theorem allow_6 {s : Int} (h0 : 0 ≤ s) (h1 : s ≤ 7) : Tb.allowB s 6 = (s == 0 || (s == 3 || s == 6)) := by
  have : s = 0 ∨ s = 1 ∨ s = 2 ∨ s = 3 ∨ s = 4 ∨ s = 5 ∨ s = 6 ∨ s = 7 := by omega
  rcases this with rfl | rfl | rfl | rfl | rfl | rfl | rfl | rfl <;> decide +kernel
theorem allow_0 {s : Int} (h0 : 0 ≤ s) (h1 : s ≤ 7) : Tb.allowB s 0 = false := by
  have : s = 0 ∨ s = 1 ∨ s = 2 ∨ s = 3 ∨ s = 4 ∨ s = 5 ∨ s = 6 ∨ s = 7 := by omega
  rcases this with rfl | rfl | rfl | rfl | rfl | rfl | rfl | rfl <;> decide +kernel
theorem hand_parts {d : DS} {s t : ByteArray} (h : handOk d s t = true) : Su.gotS s = true ∧ (t.size : Int) = reqN (setC s) (setL s) ∧ Tb.allowB d.st (setC s) = true := by
  simpa [handOk, Bool.and_eq_true] using h
theorem hand_down {f : ByteArray} {d : DS} {s t : ByteArray} (hb : bothB f d = true) (h : handOk d s t = true) (hc : setC s = 1) : downOk f d (setV s) t = true := by
  obtain ⟨hf, hm⟩ := both_parts hb
  obtain ⟨h1, h2, h3⟩ := hand_parts h
  obtain ⟨_, h4, h5⟩ := got_set h1
  obtain ⟨h6, _⟩ := may_nums hm
  rw [hc, allow_1 h6.1 h6.2] at h3
  rw [hc] at h2
  have h7 : t.size ≤ 32 := by simp [reqN] at h2; omega
  have h8 : rngB (setV s) 0 65535 = true := by simp [rngB]; omega
  simp [downOk, hf, hm, h3, h8, h7]
theorem hand_up {f : ByteArray} {d : DS} {s t : ByteArray} (hb : bothB f d = true) (h : handOk d s t = true) (hc : setC s = 2) : upOk f d (setV s) (setL s) = true := by
  obtain ⟨hf, hm⟩ := both_parts hb
  obtain ⟨h1, h2, h3⟩ := hand_parts h
  obtain ⟨_, h4, h5⟩ := got_set h1
  obtain ⟨h6, _⟩ := may_nums hm
  rw [hc, allow_2 h6.1 h6.2] at h3
  have h8 : rngB (setV s) 0 65535 = true := by simp [rngB]; omega
  have h9 : rngB (setL s) 0 32 = true := by simp [rngB]; omega
  simp [upOk, hb, h3, h8, h9]
/-- the reply that a request comes back with. -/
abbrev repV (l st : Bool) (t : ByteArray) : Value := .agg #[.bool l, .bool st, .string t]
/-- a device, a reply, an error that a call gives. -/
def Hands (w : World) (d : DS) (st : Bool) (t : ByteArray) (E : Int) (e : Ending) (w' : World) : Prop :=
  (∃ A n c, e = .returned (.tuple #[(.agg #[.int .i64 d.st, .int .i64 d.su, .int .i64 d.nx, .int .i64 d.go, .int .i64 d.sl, .slice A n c]), repV false st t, .int .i64 E]) ∧ d.ops.length = n ∧ Own w' w.heap.size A d.ops) ∧ Below w.heap.size w w'
/-- a device, bytes, an error. -/
def GivesT (w : World) (d : DS) (t : ByteArray) (E : Int) (e : Ending) (w' : World) : Prop :=
  (∃ A n c, e = .returned (.tuple #[(.agg #[.int .i64 d.st, .int .i64 d.su, .int .i64 d.nx, .int .i64 d.go, .int .i64 d.sl, .slice A n c]), .string t, .int .i64 E]) ∧ d.ops.length = n ∧ Own w' w.heap.size A d.ops) ∧ Below w.heap.size w w'
/-- a flash, a device, an error. -/
def FlashE (w : World) (f : ByteArray) (d : DS) (E : Int) (e : Ending) (w' : World) : Prop :=
  (∃ A n c, e = .returned (.tuple #[.string f, (.agg #[.int .i64 d.st, .int .i64 d.su, .int .i64 d.nx, .int .i64 d.go, .int .i64 d.sl, .slice A n c]), .int .i64 E]) ∧ d.ops.length = n ∧ Own w' w.heap.size A d.ops) ∧ Below w.heap.size w w'
end Go.Proofs.YtccblleobcidfaaGreat.Dv
end
/- Layers 17 to 21: devices that may be stay such, in plain Lean. -/
section
namespace Go.Proofs.YtccblleobcidfaaGreat.Dv
open Go.RowKit Go.Proofs.YtccblleobcidfaaGreat.Kt Go.Proofs.YtccblleobcidfaaGreat.Lw Go.Proofs.YtccblleobcidfaaGreat.St Go.Proofs.YtccblleobcidfaaGreat.Nm Go.Proofs.YtccblleobcidfaaGreat.Es Go.Proofs.YtccblleobcidfaaGreat.By Go.Proofs.YtccblleobcidfaaGreat.En Go.Proofs.YtccblleobcidfaaGreat.Jr Go.Proofs.YtccblleobcidfaaGreat.Im Go.Proofs.YtccblleobcidfaaGreat.Sl Go.Proofs.YtccblleobcidfaaGreat.Gr Go.Proofs.YtccblleobcidfaaGreat.Ops Go.Proofs.YtccblleobcidfaaGreat.Ch Go.Proofs.YtccblleobcidfaaGreat.Fl Go.Proofs.YtccblleobcidfaaGreat.Pl
set_option linter.unusedVariables false
set_option linter.unusedSimpArgs false
attribute [local irreducible] gotB goodB Cr.crcB nQ nS nZ nM placeB wholeB
theorem mk_may {d : DS} (h1 : 0 ≤ d.st ∧ d.st ≤ 7) (h2 : 0 ≤ d.su ∧ d.su ≤ 6) (h3 : 0 ≤ d.nx ∧ d.nx ≤ 16) (h4 : 0 ≤ d.go ∧ d.go ≤ 288) (h5 : 0 ≤ d.sl ∧ d.sl ≤ 1) (h6 : d.ops.length ≤ 768) (h7 : ∀ o ∈ d.ops, opMay o = true) : d.may = true := by
  have ha : d.ops.any (fun o => !opMay o) = false := by
    rw [List.any_eq_false]
    intro o ho
    simp [h7 o ho]
  simp only [DS.may, devMay, rngB, ha]
  simp
  omega
theorem may_zero : DS.zero.may = true := mk_may (by decide) (by decide) (by decide) (by decide) (by decide) (by decide) (fun o h => by simp [DS.zero] at h)
theorem may_fail {k : Int} (h : 0 ≤ k ∧ k ≤ 6) : (DS.fail k).may = true := mk_may (by simp [DS.fail]) h (by simp [DS.fail]) (by simp [DS.fail]) (by simp [DS.fail]) (by simp [DS.fail]) (fun o h => by simp [DS.fail] at h)
theorem may_stat {f : ByteArray} {d : DS} (h : d.may = true) : (statD f d).may = true := by
  obtain ⟨n1, n2, n3, n4, n5⟩ := may_nums h
  have hl := may_len h
  have ho := may_ops h
  unfold statD
  by_cases h1 : d.st = 1
  · rw [if_pos h1]
    refine mk_may ?_ n2 n3 n4 n5 hl ho
    simp only
    split <;> omega
  · rw [if_neg h1]
    by_cases h4 : d.st = 4
    · rw [if_pos h4]
      unfold commitD
      by_cases hr : recE f d.sl d.go = 0
      · rw [if_pos hr]
        exact mk_may (by simp) n2 n3 n4 n5 (Nat.le_trans (app_len f _ _ _ _).2 (by decide)) (fun o h => (app_may f _ _ _ _ o h).1)
      · rw [if_neg hr]
        exact may_fail (by decide)
    · rw [if_neg h4]
      exact h
theorem may_down {f : ByteArray} {d : DS} {b : Int} {t : ByteArray} (h : downOk f d b t = true) : (downD f d b t).may = true := by
  obtain ⟨⟨hf, hm⟩, hst, hr, hz⟩ := down_yes h
  obtain ⟨n1, n2, n3, n4, n5⟩ := may_nums hm
  have hl := may_len hm
  have ho := may_ops hm
  obtain ⟨o0, o1⟩ := other_rng f
  obtain ⟨b1, b2⟩ := base_le n5.1 n5.2
  have b4 : baseN d.sl % 96 = 0 := by unfold baseN; omega
  unfold downD
  split
  · split
    · exact may_fail (by decide)
    · split
      · exact may_fail (by decide)
      · refine mk_may (by simp [downM]) n2 (by simp [downM]) (by simp [downM]; omega) ⟨o0, o1⟩ ?_ fun o ho => (begin_may o0 o1 hz o ho).1
        simp only [downM, List.length_append, erL, erN_len, wordsL, wordsN_len]
        omega
  · split
    · exact mk_may (by simp) n2 n3 n4 n5 hl ho
    · split
      · exact may_fail (by decide)
      · split
        · exact mk_may (by simp) n2 n3 n4 n5 hl ho
        · split
          · exact may_fail (by decide)
          · rename_i q
            refine mk_may (by simp) n2 (by simp only; omega) (by simp only; omega) n5 ?_ fun o ho => (words_may (a := slotAt d.sl + d.go) (t := t) (by unfold slotAt; omega) (by unfold slotAt; omega) (by unfold slotAt; omega) o ho).1
            simp only [wordsL, wordsN_len]
            omega
theorem may_up {f : ByteArray} {d : DS} {b l : Int} (hm : d.may = true) : (upD f d b l).may = true := by
  obtain ⟨n1, n2, n3, n4, n5⟩ := may_nums hm
  have hu : 0 ≤ upNext d ∧ upNext d ≤ 16 := by unfold upNext; split <;> omega
  have hl := may_len hm
  have ho := may_ops hm
  unfold upD
  split
  · split
    · split
      · exact may_zero
      · exact mk_may (by simp) n2 (by simp only; omega) n4 n5 hl ho
    · exact may_fail (by decide)
  · exact may_fail (by decide)
theorem may_hand {f : ByteArray} {d : DS} {s t : ByteArray} (hb : bothB f d = true) : (handD f d s t).may = true := by
  have hm := (both_parts hb).2
  unfold handD
  cases ho : handOk d s t
  · exact may_fail (by decide)
  · simp only [cond_true, doneD, doesD]
    split
    · exact may_down (hand_down hb ho (by assumption))
    · split
      · exact may_up hm
      · split
        · exact may_stat hm
        · split
          · exact hm
          · exact may_zero
theorem may_tick {d : DS} (hm : d.may = true) : (tickD d).may = true := by
  obtain ⟨n1, n2, n3, n4, n5⟩ := may_nums hm
  have hl := may_len hm
  have ho := may_ops hm
  unfold tickD
  cases d.works
  · exact hm
  · simp only [cond_true]
    split
    · split
      · exact may_zero
      · exact mk_may (by simp) n2 n3 n4 n5 (by simp) (fun o h => by simp at h)
    · exact mk_may n1 n2 n3 n4 n5 (by simp only [List.length_tail]; omega) (fun o h => ho o (List.mem_of_mem_tail h))
theorem tick_size {f : ByteArray} {d : DS} (hf : f.size = 768) (hm : d.may = true) : (tickF f d).size = 768 := by
  unfold tickF
  split
  · rename_i o os _ h2
    exact do_size hf (may_ops hm o (by rw [h2]; simp))
  · exact hf
theorem cutf_size {f : ByteArray} {d : DS} {n : Nat} (hf : f.size = 768) (hm : d.may = true) (hn : n ≤ 96) : (cutF f d n).size = 768 := by
  unfold cutF
  split
  · rename_i o os _ h2
    exact cut_size hf (may_ops hm o (by rw [h2]; simp)) hn
  · exact hf
end Go.Proofs.YtccblleobcidfaaGreat.Dv
end
