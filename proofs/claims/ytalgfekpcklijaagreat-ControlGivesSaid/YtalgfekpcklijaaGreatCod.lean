/- Layer 21: a request, of any flash and any device: what both Handles answer. -/
import Derived.Test.YtalgfekpcklijaaGreatCob
import Derived.Test.YtalgfekpcklijaaGreatCoc
namespace Go.Proofs.YtalgfekpcklijaaGreat.Dv
open Go.RowKit Go.Proofs.YtalgfekpcklijaaGreat.Kt Go.Proofs.YtalgfekpcklijaaGreat.Lw Go.Proofs.YtalgfekpcklijaaGreat.St Go.Proofs.YtalgfekpcklijaaGreat.Nm Go.Proofs.YtalgfekpcklijaaGreat.Es Go.Proofs.YtalgfekpcklijaaGreat.By Go.Proofs.YtalgfekpcklijaaGreat.En Go.Proofs.YtalgfekpcklijaaGreat.Jr Go.Proofs.YtalgfekpcklijaaGreat.Im Go.Proofs.YtalgfekpcklijaaGreat.Sl Go.Proofs.YtalgfekpcklijaaGreat.Gr Go.Proofs.YtalgfekpcklijaaGreat.Ops Go.Proofs.YtalgfekpcklijaaGreat.Ch Go.Proofs.YtalgfekpcklijaaGreat.Fl Go.Proofs.YtalgfekpcklijaaGreat.Pl
set_option linter.unusedVariables false
set_option linter.unusedSimpArgs false
attribute [local irreducible] gotB goodB Cr.crcB nQ nS nZ nM placeB wholeB devMay
def ctlD (f : ByteArray) (d : DS) (a t : ByteArray) : DS := bif bothB f d then handD f d a t else DS.zero
def ctlS (f : ByteArray) (d : DS) (a t : ByteArray) : Bool := bif bothB f d then handS f d a t else false
def ctlT (f : ByteArray) (d : DS) (a t : ByteArray) : ByteArray := bif bothB f d then handT f d a t else ⟨#[]⟩
def ctlE (f : ByteArray) (d : DS) : Int := bif bothB f d then 0 else 2100
theorem control_c (f : ByteArray) (d : DS) (a t : ByteArray) (A : Option Addr) (c n : Nat) (w : World) (h : f.size ≤ 9223372036854775807) (hl : Row w A d.ops) (hn : d.ops.length = n) :
    Calls Tryz.prog 15 #[.string f, (.agg #[.int .i64 d.st, .int .i64 d.su, .int .i64 d.nx, .int .i64 d.go, .int .i64 d.sl, .slice A n c]), .string a, .string t] w (Hands w (ctlD f d a t) (ctlS f d a t) (ctlT f d a t) (ctlE f d)) := by
  cases hb : bothB f d
  · simp only [ctlD, ctlS, ctlT, ctlE, hb, cond_false]
    exact handle_f f d a t A c n w hl hn h hb
  · simp only [ctlD, ctlS, ctlT, ctlE, hb, cond_true]
    exact handle_c f d a t A c n w hl hn hb
theorem rcontrol_c (f : ByteArray) (d : DS) (a t : ByteArray) (A : Option Addr) (c n : Nat) (w : World) (h : f.size ≤ 9223372036854775807) (hl : Row w A d.ops) (hn : d.ops.length = n) :
    Calls Tryz.prog 16 #[.string f, (.agg #[.int .i64 d.st, .int .i64 d.su, .int .i64 d.nx, .int .i64 d.go, .int .i64 d.sl, .slice A n c]), .string a, .string t] w (Hands w (ctlD f d a t) (ctlS f d a t) (ctlT f d a t) (ctlE f d)) := by
  cases hb : bothB f d
  · simp only [ctlD, ctlS, ctlT, ctlE, hb, cond_false]
    exact rhandle_f f d a t A c n w hl hn h hb
  · simp only [ctlD, ctlS, ctlT, ctlE, hb, cond_true]
    exact rhandle_c f d a t A c n w hl hn hb
theorem eqRep (d : Nat) (w : World) (x0 y0 x1 y1 : Bool) (x2 y2 : ByteArray) : (Op.equalIn (d + 2) 27 (.agg #[.bool x0, .bool x1, .string x2]) (.agg #[.bool y0, .bool y1, .string y2])).run Tryz.prog w = .ok ((x0 == y0) && ((x1 == y1) && (x2.toList == y2.toList))) w :=
  eqA_of Tryz.underlying27 (by kernel_rfl) (eqf_cons (by rfl) (by go_simp; rfl) (by go_simp; rfl) (by go_simp) (eqf_cons (by rfl) (by go_simp; rfl) (by go_simp; rfl) (by go_simp) (eqf_last (by rfl) (by go_simp; rfl) (by go_simp; rfl) (by go_simp))))
end Go.Proofs.YtalgfekpcklijaaGreat.Dv
