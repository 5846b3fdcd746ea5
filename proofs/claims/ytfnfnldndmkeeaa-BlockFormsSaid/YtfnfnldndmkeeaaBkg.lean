/- Layer 10: the law's walk: BlockForms, whole. -/
import Derived.Test.YtfnfnldndmkeeaaBkf
namespace Go.Proofs.Ytfnfnldndmkeeaa.Bk
open Go.RowKit Go.Proofs.Ytfnfnldndmkeeaa.Kt Go.Proofs.Ytfnfnldndmkeeaa.Lw Go.Proofs.Ytfnfnldndmkeeaa.St Go.Proofs.Ytfnfnldndmkeeaa.Nm Go.Proofs.Ytfnfnldndmkeeaa.Sl Go.Proofs.Ytfnfnldndmkeeaa.Bt Go.Proofs.Ytfnfnldndmkeeaa.By
set_option linter.unusedVariables false
set_option linter.unusedSimpArgs false
theorem umod7 (x m : Int) (h0 : 0 < m) (h1 : m ≤ 1000000) : 0 ≤ wrap64 (Int.tmod (IntKind.u64.wrap x) m) ∧ wrap64 (Int.tmod (IntKind.u64.wrap x) m) < m := by
  have hu : 0 ≤ IntKind.u64.wrap x := by simp only [IntKind.wrap_u64]; omega
  rw [Int.tmod_eq_emod_of_nonneg hu]
  have a := Int.emod_nonneg (IntKind.u64.wrap x) (show m ≠ 0 by omega)
  have b := Int.emod_lt_of_pos (IntKind.u64.wrap x) h0
  unfold wrap64
  omega
theorem z32 : (zeros 32).size ≤ 9223372036854775807 := by rw [zeros_size]; omega
set_option maxRecDepth 100000 in
theorem forms_w (x0 x1 : Int) (w : World) : Calls Try.prog 12 #[.int .i64 x0, .int .i64 x1] w fun e w' => e = .returned (.bool true) ∧ Below w.heap.size w w' := by
  have h0 := umod7 x0 7 (by decide) (by decide)
  obtain ⟨m, hm⟩ : ∃ m, Go.bits .and .i64 x1 1023 = m := ⟨_, rfl⟩
  have h1 := mask64 10 (by decide) x1
  have hmm : 0 ≤ m ∧ m < 1024 := by
    have e : m = x1 % 1024 := by rw [← hm]; exact h1
    omega
  obtain ⟨n, hn⟩ := Int.eq_ofNat_of_zero_le (show 0 ≤ 288 + (1 + m) by omega)
  have hz := zeros_size 32
  have a := zrun 32 (by decide)
  have b := zrun n (by omega)
  obtain ⟨k, hk⟩ := Int.eq_ofNat_of_zero_le h0.1
  have h : k = 0 ∨ k = 1 ∨ k = 2 ∨ k = 3 ∨ k = 4 ∨ k = 5 ∨ k = 6 := by omega
  rcases h with rfl | rfl | rfl | rfl | rfl | rfl | rfl
  · exact forms_0 x0 x1 m n (zeros 32) w hk hm hmm.1 hmm.2 hn hz a b
  · exact forms_1 x0 x1 m n (zeros 32) w hk hm hmm.1 hmm.2 hn hz a b (join_no (xs := [⟨#[]⟩]) (by decide +kernel) rfl (by decide) (by decide +kernel))
  · exact forms_2 x0 x1 m n (zeros 32) w hk hm hmm.1 hmm.2 hn hz a b (join_no (xs := [zeros 32, ⟨#[]⟩]) (by decide +kernel) rfl (by decide) (by decide +kernel))
  · exact forms_3 x0 x1 m n (zeros 32) w hk hm hmm.1 hmm.2 hn hz a b (join_no (xs := [⟨#[97]⟩, zeros 32]) (by decide +kernel) rfl (by decide) (by decide +kernel))
  · exact forms_4 x0 x1 m n (zeros 32) w hk hm hmm.1 hmm.2 hn hz a b (join_no (xs := [zeros 32 ++ (⟨#[120]⟩ : ByteArray)]) (by decide +kernel) rfl (by decide) (by decide +kernel))
  · exact forms_5 x0 x1 m n (zeros 32) w hk hm hmm.1 hmm.2 hn hz a b (join_no (xs := [(zeros 32).extract 1 32, ⟨#[97]⟩]) (by decide +kernel) rfl (by decide) (by decide +kernel))
  · exact forms_6 x0 x1 m n (zeros 32) w hk hm hmm.1 hmm.2 hn hz a b (join_no (xs := [zeros 32, zeros 32, zeros 32, zeros 32, zeros 32, zeros 32, zeros 32, zeros 32, zeros 32, ⟨#[97]⟩]) (by decide +kernel) rfl (by decide) (by decide +kernel))
end Go.Proofs.Ytfnfnldndmkeeaa.Bk
