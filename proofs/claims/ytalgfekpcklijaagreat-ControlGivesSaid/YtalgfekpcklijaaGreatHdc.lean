/- Layers 17 to 21: devices that may be stay such, in plain Lean. -/
import Derived.Test.YtalgfekpcklijaaGreatHdb
namespace Go.Proofs.YtalgfekpcklijaaGreat.Dv
open Go.RowKit Go.Proofs.YtalgfekpcklijaaGreat.Kt Go.Proofs.YtalgfekpcklijaaGreat.Lw Go.Proofs.YtalgfekpcklijaaGreat.St Go.Proofs.YtalgfekpcklijaaGreat.Nm Go.Proofs.YtalgfekpcklijaaGreat.Es Go.Proofs.YtalgfekpcklijaaGreat.By Go.Proofs.YtalgfekpcklijaaGreat.En Go.Proofs.YtalgfekpcklijaaGreat.Jr Go.Proofs.YtalgfekpcklijaaGreat.Im Go.Proofs.YtalgfekpcklijaaGreat.Sl Go.Proofs.YtalgfekpcklijaaGreat.Gr Go.Proofs.YtalgfekpcklijaaGreat.Ops Go.Proofs.YtalgfekpcklijaaGreat.Ch Go.Proofs.YtalgfekpcklijaaGreat.Fl Go.Proofs.YtalgfekpcklijaaGreat.Pl
set_option linter.unusedVariables false
set_option linter.unusedSimpArgs false
attribute [local irreducible] gotB goodB Cr.crcB nQ nS nZ nM placeB wholeB
theorem mk_may {d : DS} (h1 : 0 ≤ d.st ∧ d.st ≤ 7) (h2 : 0 ≤ d.su ∧ d.su ≤ 6) (h3 : 0 ≤ d.nx ∧ d.nx ≤ 16) (h4 : 0 ≤ d.go ∧ d.go ≤ 288) (h5 : 0 ≤ d.sl ∧ d.sl ≤ 1) (h6 : d.ops.length ≤ 768) (h7 : ∀ o ∈ d.ops, opMay o = true) : d.may = true := by
  have ha : d.ops.any (fun o => !opMay o) = false := by
    rw [List.any_eq_false]
    intro o ho
    simp [h7 o ho]
  simp only [DS.may, devMay, rngB, ha]
  simp
  omega
theorem may_zero : DS.zero.may = true := mk_may (by decide) (by decide) (by decide) (by decide) (by decide) (by decide) (fun o h => by simp [DS.zero] at h)
theorem may_fail {k : Int} (h : 0 ≤ k ∧ k ≤ 6) : (DS.fail k).may = true := mk_may (by simp [DS.fail]) h (by simp [DS.fail]) (by simp [DS.fail]) (by simp [DS.fail]) (by simp [DS.fail]) (fun o h => by simp [DS.fail] at h)
theorem may_stat {f : ByteArray} {d : DS} (h : d.may = true) : (statD f d).may = true := by
  obtain ⟨n1, n2, n3, n4, n5⟩ := may_nums h
  have hl := may_len h
  have ho := may_ops h
  unfold statD
  by_cases h1 : d.st = 1
  · rw [if_pos h1]
    refine mk_may ?_ n2 n3 n4 n5 hl ho
    simp only
    split <;> omega
  · rw [if_neg h1]
    by_cases h4 : d.st = 4
    · rw [if_pos h4]
      unfold commitD
      by_cases hr : recE f d.sl d.go = 0
      · rw [if_pos hr]
        exact mk_may (by simp) n2 n3 n4 n5 (Nat.le_trans (app_len f _ _ _ _).2 (by decide)) (fun o h => (app_may f _ _ _ _ o h).1)
      · rw [if_neg hr]
        exact may_fail (by decide)
    · rw [if_neg h4]
      exact h
theorem may_down {f : ByteArray} {d : DS} {b : Int} {t : ByteArray} (h : downOk f d b t = true) : (downD f d b t).may = true := by
  obtain ⟨⟨hf, hm⟩, hst, hr, hz⟩ := down_yes h
  obtain ⟨n1, n2, n3, n4, n5⟩ := may_nums hm
  have hl := may_len hm
  have ho := may_ops hm
  obtain ⟨o0, o1⟩ := other_rng f
  obtain ⟨b1, b2⟩ := base_le n5.1 n5.2
  have b4 : baseN d.sl % 96 = 0 := by unfold baseN; omega
  unfold downD
  split
  · split
    · exact may_fail (by decide)
    · split
      · exact may_fail (by decide)
      · refine mk_may (by simp [downM]) n2 (by simp [downM]) (by simp [downM]; omega) ⟨o0, o1⟩ ?_ fun o ho => (begin_may o0 o1 hz o ho).1
        simp only [downM, List.length_append, erL, erN_len, wordsL, wordsN_len]
        omega
  · split
    · exact mk_may (by simp) n2 n3 n4 n5 hl ho
    · split
      · exact may_fail (by decide)
      · split
        · exact mk_may (by simp) n2 n3 n4 n5 hl ho
        · split
          · exact may_fail (by decide)
          · rename_i q
            refine mk_may (by simp) n2 (by simp only; omega) (by simp only; omega) n5 ?_ fun o ho => (words_may (a := slotAt d.sl + d.go) (t := t) (by unfold slotAt; omega) (by unfold slotAt; omega) (by unfold slotAt; omega) o ho).1
            simp only [wordsL, wordsN_len]
            omega
end Go.Proofs.YtalgfekpcklijaaGreat.Dv
