/- '==' of hosts, as one Bool. -/
import Derived.Test.YthoonffbadhplaaEqs
namespace Go.Proofs.Ythoonffbadhplaa.Es
open Go.RowKit
set_option linter.unusedVariables false
set_option linter.unusedSimpArgs false
theorem eqHost (d : Nat) (w : World) (x0 y0 : Int) (x1 y1 : ByteArray) (x2 y2 : Int) (x3 y3 : Bool) (x4 y4 : Int) (x5 y5 : ByteArray) (x6 y6 : Int) : (Op.equalIn (d + 2) 23 (.agg #[.int .i64 x0, .string x1, .int .i64 x2, .bool x3, .int .i64 x4, .string x5, .int .i64 x6]) (.agg #[.int .i64 y0, .string y1, .int .i64 y2, .bool y3, .int .i64 y4, .string y5, .int .i64 y6])).run Try.prog w = .ok ((x0 == y0) && ((x1.toList == y1.toList) && ((x2 == y2) && ((x3 == y3) && ((x4 == y4) && ((x5.toList == y5.toList) && (x6 == y6))))))) w :=
  eqA_of Try.underlying23 (by kernel_rfl) (eqf_cons (by rfl) (by go_simp; rfl) (by go_simp; rfl) (by go_simp) (eqf_cons (by rfl) (by go_simp; rfl) (by go_simp; rfl) (by go_simp) (eqf_cons (by rfl) (by go_simp; rfl) (by go_simp; rfl) (by go_simp) (eqf_cons (by rfl) (by go_simp; rfl) (by go_simp; rfl) (by go_simp) (eqf_cons (by rfl) (by go_simp; rfl) (by go_simp; rfl) (by go_simp) (eqf_cons (by rfl) (by go_simp; rfl) (by go_simp; rfl) (by go_simp) (eqf_last (by rfl) (by go_simp; rfl) (by go_simp; rfl) (by go_simp))))))))
end Go.Proofs.Ythoonffbadhplaa.Es
