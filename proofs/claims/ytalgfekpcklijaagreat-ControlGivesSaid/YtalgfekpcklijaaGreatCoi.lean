/- Layer 21: a request of given numbers. -/
import Derived.Test.YtalgfekpcklijaaGreatCof
namespace Go.Proofs.YtalgfekpcklijaaGreat.Dv
open Go.RowKit Go.Proofs.YtalgfekpcklijaaGreat.Kt Go.Proofs.YtalgfekpcklijaaGreat.Lw Go.Proofs.YtalgfekpcklijaaGreat.St Go.Proofs.YtalgfekpcklijaaGreat.Nm Go.Proofs.YtalgfekpcklijaaGreat.Es Go.Proofs.YtalgfekpcklijaaGreat.By Go.Proofs.YtalgfekpcklijaaGreat.En Go.Proofs.YtalgfekpcklijaaGreat.Jr Go.Proofs.YtalgfekpcklijaaGreat.Im Go.Proofs.YtalgfekpcklijaaGreat.Sl Go.Proofs.YtalgfekpcklijaaGreat.Gr Go.Proofs.YtalgfekpcklijaaGreat.Ops Go.Proofs.YtalgfekpcklijaaGreat.Ch Go.Proofs.YtalgfekpcklijaaGreat.Fl Go.Proofs.YtalgfekpcklijaaGreat.Pl
set_option linter.unusedVariables false
set_option linter.unusedSimpArgs false
attribute [local irreducible] gotB goodB Cr.crcB nQ nS nZ nM placeB wholeB devMay
attribute [local go_sem high] eqRep
/-- what Handle gives, of given parts. -/
theorem ctl_call {f : ByteArray} {d : DS} {a t : ByteArray} {n : Nat} {D : DS} {S : Bool} {T : ByteArray} {E : Int} (h : f.size ≤ 9223372036854775807) (hn : d.ops.length = n)
    (h1 : ctlD f d a t = D) (h2 : ctlS f d a t = S) (h3 : ctlT f d a t = T) (h4 : ctlE f d = E) (W : World) (A : Option Addr) (c : Nat) (hl : Row W A d.ops) :
    Calls Tryz.prog 15 #[.string f, (.agg #[.int .i64 d.st, .int .i64 d.su, .int .i64 d.nx, .int .i64 d.go, .int .i64 d.sl, .slice A n c]), .string a, .string t] W fun e w' => (∃ A' c', e = .returned (.tuple #[.agg #[.int .i64 D.st, .int .i64 D.su, .int .i64 D.nx, .int .i64 D.go, .int .i64 D.sl, .slice A' D.ops.length c'], repV false S T, .int .i64 E]) ∧ Row w' A' D.ops) ∧ Below W.heap.size W w' := by
  have k := control_c f d a t A c n W h hl hn
  rw [h1, h2, h3, h4] at k
  refine k.mono ?_
  rintro e w' ⟨⟨A', m, c', k1, k2, k3⟩, k4⟩
  subst k2
  exact ⟨⟨A', c', k1, k3.1⟩, k4⟩
/-- what a request of given numbers does. -/
theorem ctl_req {f : ByteArray} {d : DS} {c v l : Int} {t : ByteArray} (hb : bothB f d = true) (hm : Su.setMay c v l = true) (ht : (t.size : Int) = reqN c l) :
    (Tb.allowB d.st c = false → ctlD f d (Su.supB c v l) t = DS.fail 6 ∧ ctlS f d (Su.supB c v l) t = true ∧ ctlT f d (Su.supB c v l) t = ⟨#[]⟩ ∧ ctlE f d = 0) ∧
    (Tb.allowB d.st c = true → ctlD f d (Su.supB c v l) t = doesD f d c v l t ∧ ctlS f d (Su.supB c v l) t = failB d (doesD f d c v l t) ∧ ctlT f d (Su.supB c v l) t = (bif failB d (doesD f d c v l t) then ⟨#[]⟩ else doesT f d c v l) ∧ ctlE f d = 0) := by
  obtain ⟨h1, h2⟩ := Su.got_sup hm
  rw [gotW_yes h1] at h2
  have e := congrArg Array.toList h2
  simp only [List.cons.injEq, Value.int.injEq, true_and, and_true] at e
  obtain ⟨e1, e2, e3⟩ := e
  have ho : handOk d (Su.supB c v l) t = Tb.allowB d.st c := by
    unfold handOk
    rw [h1, e1, e3, decide_eq_true ht, Bool.true_and, Bool.true_and]
  constructor
  · intro ha
    rw [ha] at ho
    simp only [ctlD, ctlS, ctlT, ctlE, hb, cond_true, handD, handS, handT, ho, cond_false, and_self]
  · intro ha
    rw [ha] at ho
    simp only [ctlD, ctlS, ctlT, ctlE, hb, cond_true, handD, handS, handT, ho, doneD, e1, e2, e3, and_self]
theorem ctl_no {f : ByteArray} {d : DS} (a t : ByteArray) (hb : bothB f d = false) : ctlD f d a t = DS.zero ∧ ctlS f d a t = false ∧ ctlT f d a t = ⟨#[]⟩ ∧ ctlE f d = 2100 := by
  simp only [ctlD, ctlS, ctlT, ctlE, hb, cond_false, and_self]
theorem low_st {x : Int} (h0 : 0 ≤ x) (h1 : x ≤ 255) : strOfNums [x] = lowB x 1 := low_one h0 h1
end Go.Proofs.YtalgfekpcklijaaGreat.Dv
