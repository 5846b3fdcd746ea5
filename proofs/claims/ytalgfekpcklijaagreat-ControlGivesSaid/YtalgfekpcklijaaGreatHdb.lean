/- Layer 21: a request, in plain Lean. -/
import Derived.Test.YtalgfekpcklijaaGreatHda
import Derived.Test.YtalgfekpcklijaaGreatTab
import Derived.Test.YtalgfekpcklijaaGreatSuh
import Derived.Test.YtalgfekpcklijaaGreatAns
namespace Go.Proofs.YtalgfekpcklijaaGreat.Dv
open Go.RowKit Go.Proofs.YtalgfekpcklijaaGreat.Kt Go.Proofs.YtalgfekpcklijaaGreat.Lw Go.Proofs.YtalgfekpcklijaaGreat.St Go.Proofs.YtalgfekpcklijaaGreat.Nm Go.Proofs.YtalgfekpcklijaaGreat.Es Go.Proofs.YtalgfekpcklijaaGreat.By Go.Proofs.YtalgfekpcklijaaGreat.En Go.Proofs.YtalgfekpcklijaaGreat.Jr Go.Proofs.YtalgfekpcklijaaGreat.Im Go.Proofs.YtalgfekpcklijaaGreat.Sl Go.Proofs.YtalgfekpcklijaaGreat.Gr Go.Proofs.YtalgfekpcklijaaGreat.Ops Go.Proofs.YtalgfekpcklijaaGreat.Ch Go.Proofs.YtalgfekpcklijaaGreat.Fl Go.Proofs.YtalgfekpcklijaaGreat.Pl
set_option linter.unusedVariables false
set_option linter.unusedSimpArgs false
/-- what a request's bytes tell: its code, its value, its length. -/
def setC (s : ByteArray) : Int := byt s 1
def setV (s : ByteArray) : Int := numB (s.extract 2 4)
def setL (s : ByteArray) : Int := numB (s.extract 6 8)
theorem gotW_yes {s : ByteArray} (h : Su.gotS s = true) : Su.gotW s = #[.int .i64 (setC s), .int .i64 (setV s), .int .i64 (setL s)] := by simp [Su.gotW, h, setC, setV, setL]
theorem gotW_no {s : ByteArray} (h : Su.gotS s = false) : Su.gotW s = #[.int .i64 0, .int .i64 0, .int .i64 0] := by simp [Su.gotW, h]
theorem got_set {s : ByteArray} (h : Su.gotS s = true) : (0 ≤ setC s ∧ setC s ≤ 6) ∧ (0 ≤ setV s ∧ setV s ≤ 65535) ∧ (0 ≤ setL s ∧ setL s ≤ 32) := by
  simp [Su.gotS, Su.setMay, rngB] at h
  exact ⟨h.2.1.1, h.2.1.2.1, h.2.1.2.2⟩
/-- how many bytes of data a request of that code has. -/
def reqN (c l : Int) : Int := if c = 1 then l else 0
def handOk (d : DS) (s t : ByteArray) : Bool := Su.gotS s && (decide ((t.size : Int) = reqN (setC s) (setL s)) && Tb.allowB d.st (setC s))
/-- a device behind a request that is allowed, and what it tells. -/
def doesD (f : ByteArray) (d : DS) (c v l : Int) (t : ByteArray) : DS :=
  if c = 1 then downD f d v t else if c = 2 then upD f d v l else if c = 3 then statD f d else if c = 5 then d else DS.zero
def tellB (d : DS) : ByteArray := An.putB d.su (min (d.ops.length : Int) 255) d.st
def doesT (f : ByteArray) (d : DS) (c v l : Int) : ByteArray :=
  if c = 2 then upT f d v l else if c = 3 then tellB (statD f d) else if c = 5 then lowB d.st 1 else ⟨#[]⟩
def doneD (f : ByteArray) (d : DS) (s t : ByteArray) : DS := doesD f d (setC s) (setV s) (setL s) t
def failB (d o : DS) : Bool := o.st == 7 && !(d.st == 7)
def handD (f : ByteArray) (d : DS) (s t : ByteArray) : DS := bif handOk d s t then doneD f d s t else DS.fail 6
def handS (f : ByteArray) (d : DS) (s t : ByteArray) : Bool := bif handOk d s t then failB d (doneD f d s t) else true
def handT (f : ByteArray) (d : DS) (s t : ByteArray) : ByteArray := bif handOk d s t then (bif failB d (doneD f d s t) then ⟨#[]⟩ else doesT f d (setC s) (setV s) (setL s)) else ⟨#[]⟩
theorem allow_1 {s : Int} (h0 : 0 ≤ s) (h1 : s ≤ 7) : Tb.allowB s 1 = (s == 0 || s == 3) := by
  have : s = 0 ∨ s = 1 ∨ s = 2 ∨ s = 3 ∨ s = 4 ∨ s = 5 ∨ s = 6 ∨ s = 7 := by omega
  rcases this with rfl | rfl | rfl | rfl | rfl | rfl | rfl | rfl <;> decide +kernel
theorem allow_2 {s : Int} (h0 : 0 ≤ s) (h1 : s ≤ 7) : Tb.allowB s 2 = (s == 0 || s == 6) := by
  have : s = 0 ∨ s = 1 ∨ s = 2 ∨ s = 3 ∨ s = 4 ∨ s = 5 ∨ s = 6 ∨ s = 7 := by omega
  rcases this with rfl | rfl | rfl | rfl | rfl | rfl | rfl | rfl <;> decide +kernel
theorem allow_3 {s : Int} (h0 : 0 ≤ s) (h1 : s ≤ 7) : Tb.allowB s 3 = true := by
  have : s = 0 ∨ s = 1 ∨ s = 2 ∨ s = 3 ∨ s = 4 ∨ s = 5 ∨ s = 6 ∨ s = 7 := by omega
  rcases this with rfl | rfl | rfl | rfl | rfl | rfl | rfl | rfl <;> decide +kernel
theorem allow_5 {s : Int} (h0 : 0 ≤ s) (h1 : s ≤ 7) : Tb.allowB s 5 = true := by
  have : s = 0 ∨ s = 1 ∨ s = 2 ∨ s = 3 ∨ s = 4 ∨ s = 5 ∨ s = 6 ∨ s = 7 := by omega
  rcases this with rfl | rfl | rfl | rfl | rfl | rfl | rfl | rfl <;> decide +kernel
theorem allow_0 {s : Int} (h0 : 0 ≤ s) (h1 : s ≤ 7) : Tb.allowB s 0 = false := by
  have : s = 0 ∨ s = 1 ∨ s = 2 ∨ s = 3 ∨ s = 4 ∨ s = 5 ∨ s = 6 ∨ s = 7 := by omega
  rcases this with rfl | rfl | rfl | rfl | rfl | rfl | rfl | rfl <;> decide +kernel
theorem hand_parts {d : DS} {s t : ByteArray} (h : handOk d s t = true) : Su.gotS s = true ∧ (t.size : Int) = reqN (setC s) (setL s) ∧ Tb.allowB d.st (setC s) = true := by
  simpa [handOk, Bool.and_eq_true] using h
theorem hand_down {f : ByteArray} {d : DS} {s t : ByteArray} (hb : bothB f d = true) (h : handOk d s t = true) (hc : setC s = 1) : downOk f d (setV s) t = true := by
  obtain ⟨hf, hm⟩ := both_parts hb
  obtain ⟨h1, h2, h3⟩ := hand_parts h
  obtain ⟨_, h4, h5⟩ := got_set h1
  obtain ⟨h6, _⟩ := may_nums hm
  rw [hc, allow_1 h6.1 h6.2] at h3
  rw [hc] at h2
  have h7 : t.size ≤ 32 := by simp [reqN] at h2; omega
  have h8 : rngB (setV s) 0 65535 = true := by simp [rngB]; omega
  simp [downOk, hf, hm, h3, h8, h7]
theorem hand_up {f : ByteArray} {d : DS} {s t : ByteArray} (hb : bothB f d = true) (h : handOk d s t = true) (hc : setC s = 2) : upOk f d (setV s) (setL s) = true := by
  obtain ⟨hf, hm⟩ := both_parts hb
  obtain ⟨h1, h2, h3⟩ := hand_parts h
  obtain ⟨_, h4, h5⟩ := got_set h1
  obtain ⟨h6, _⟩ := may_nums hm
  rw [hc, allow_2 h6.1 h6.2] at h3
  have h8 : rngB (setV s) 0 65535 = true := by simp [rngB]; omega
  have h9 : rngB (setL s) 0 32 = true := by simp [rngB]; omega
  simp [upOk, hb, h3, h8, h9]
/-- the reply that a request comes back with. -/
abbrev repV (l st : Bool) (t : ByteArray) : Value := .agg #[.bool l, .bool st, .string t]
/-- a device, a reply, an error that a call gives. -/
def Hands (w : World) (d : DS) (st : Bool) (t : ByteArray) (E : Int) (e : Ending) (w' : World) : Prop :=
  (∃ A n c, e = .returned (.tuple #[(.agg #[.int .i64 d.st, .int .i64 d.su, .int .i64 d.nx, .int .i64 d.go, .int .i64 d.sl, .slice A n c]), repV false st t, .int .i64 E]) ∧ d.ops.length = n ∧ Own w' w.heap.size A d.ops) ∧ Below w.heap.size w w'
/-- a device, bytes, an error. -/
def GivesT (w : World) (d : DS) (t : ByteArray) (E : Int) (e : Ending) (w' : World) : Prop :=
  (∃ A n c, e = .returned (.tuple #[(.agg #[.int .i64 d.st, .int .i64 d.su, .int .i64 d.nx, .int .i64 d.go, .int .i64 d.sl, .slice A n c]), .string t, .int .i64 E]) ∧ d.ops.length = n ∧ Own w' w.heap.size A d.ops) ∧ Below w.heap.size w w'
end Go.Proofs.YtalgfekpcklijaaGreat.Dv
