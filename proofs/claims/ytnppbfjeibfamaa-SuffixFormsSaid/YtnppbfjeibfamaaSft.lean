/- Layer 11: the law SuffixForms. -/
import Derived.Test.YtnppbfjeibfamaaSfs
import Derived.Test.YtnppbfjeibfamaaSfo
namespace Go.Proofs.Ytnppbfjeibfamaa.Sf
open Go.RowKit Go.Proofs.Ytnppbfjeibfamaa.Kt Go.Proofs.Ytnppbfjeibfamaa.Lw Go.Proofs.Ytnppbfjeibfamaa.St Go.Proofs.Ytnppbfjeibfamaa.Nm Go.Proofs.Ytnppbfjeibfamaa.Ic Go.Proofs.Ytnppbfjeibfamaa.Cr Go.Proofs.Ytnppbfjeibfamaa.Es Go.Proofs.Ytnppbfjeibfamaa.Bt Go.Proofs.Ytnppbfjeibfamaa.By
set_option linter.unusedVariables false
set_option linter.unusedSimpArgs false
theorem forms_w (x0 x1 : Int) (w : World) : Calls Try.prog 5 #[.int .i64 x0, .int .i64 x1] w fun e w' => e = .returned (.bool true) ∧ Below w.heap.size w w' := by
  obtain ⟨hS, h1, hm, hf, hs, hfin⟩ := form_facts
  have d3 := umod_n x0 3 (by decide) (by decide)
  have d6 := umod_n x0 6 (by decide) (by decide)
  have d11 := umod_n x1 11 (by decide) (by decide)
  have c1 := and1023 x1
  have c2 := and127 x1
  have c3 := and127 x0
  obtain ⟨k, hk⟩ := Int.eq_ofNat_of_zero_le d3.1
  obtain ⟨a, ha⟩ := Int.eq_ofNat_of_zero_le d6.1
  obtain ⟨b, hb⟩ := Int.eq_ofNat_of_zero_le d11.1
  obtain ⟨n, hn⟩ : ∃ n : Nat, 288 + (1 + Go.bits .and .i64 x1 1023) = (n : Int) := ⟨(288 + (1 + Go.bits .and .i64 x1 1023)).toNat, by omega⟩
  have ba := byt_bd frm (11 + a)
  have bb := byt_bd frm b
  obtain ⟨X0, X1, X2⟩ := turn8 (byt frm (11 + a)) (1 + Go.bits .and .i64 x1 127) ba.1 ba.2 (by omega) (by omega)
  obtain ⟨Y0, Y1, Y2⟩ := turn8 (byt frm b) (1 + Go.bits .and .i64 x0 127) bb.1 bb.2 (by omega) (by omega)
  have p1 := form_turn (s := frm) (t := setS frm (11 + a) (Go.bits .xor .u8 (byt frm (11 + a)) (1 + Go.bits .and .i64 x1 127))) (by rw [setS_size]) (by omega) hm (11 + a) (by omega) (by omega) (by rw [byt_set_eq _ _ _ (by omega) X0 X1]; exact X2)
  have p4 := sum_turn (s := frm) (t := setS frm b (Go.bits .xor .u8 (byt frm b) (1 + Go.bits .and .i64 x0 127))) (by rw [setS_size]) (by omega) hf hs b (by omega) (by rw [byt_set_eq _ _ _ (by omega) Y0 Y1]; exact Y2) (fun j hj => (byt_set_ne _ _ _ _ hj).symm)
  exact forms_0 x0 x1 _ _ _ k a b n frm _ _ w hk (by omega) rfl (by omega) (by omega) ha (by omega) hb (by omega) rfl (by omega) (by omega) rfl (by omega) (by omega) hn hS h1 hfin rfl rfl X0 X1 Y0 Y1 p1 p4
end Go.Proofs.Ytnppbfjeibfamaa.Sf
