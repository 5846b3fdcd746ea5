/- Layer 13: plain facts: what is put comes back; what may not be. -/
import Derived.Test.YtalgfekpcklijaaGreatSur
import Derived.Test.YtalgfekpcklijaaGreatGb
namespace Go.Proofs.YtalgfekpcklijaaGreat.Su
open Go.RowKit Go.Proofs.YtalgfekpcklijaaGreat.Kt Go.Proofs.YtalgfekpcklijaaGreat.Lw Go.Proofs.YtalgfekpcklijaaGreat.St Go.Proofs.YtalgfekpcklijaaGreat.Nm
set_option linter.unusedVariables false
set_option linter.unusedSimpArgs false

theorem may_sup {c v l : Int} (h : setMay c v l = true) : (0 ≤ c ∧ c ≤ 6) ∧ (0 ≤ v ∧ v ≤ 65535) ∧ (0 ≤ l ∧ l ≤ 32) := by
  simpa [setMay, rngB_eq] using h
theorem sup_mk {c v l : Int} (h1 : 0 ≤ c) (h2 : c < 7) (h3 : 0 ≤ v) (h4 : v < 65536) (h5 : 0 ≤ l) (h6 : l < 33) : setMay c v l = true := by
  simp [setMay, rngB_eq]; omega
theorem sup_size {c v l : Int} (h : setMay c v l = true) : (supB c v l).size = 8 := by
  have z1 := lowB_size (wayI c) 1
  have z2 := lowB_size c 1
  have z3 := lowB_size v 2
  have z4 := lowB_size 0 2
  have z5 := lowB_size l 2
  simp only [supB, h, cond_true, ByteArray.size_append]
  omega
theorem sup_list {c v l : Int} (h : setMay c v l = true) : (supB c v l).data.toList = [UInt8.ofNat (wayI c).toNat, UInt8.ofNat c.toNat, UInt8.ofNat (v % 256).toNat, UInt8.ofNat (v / 256).toNat, 0, 0, UInt8.ofNat l.toNat, 0] := by
  have hb := may_sup h
  have h0 : wayI c % 256 = wayI c := by unfold wayI; split <;> rfl
  have h1 : c % 256 = c := by omega
  have h3 : v / 256 % 256 = v / 256 := by omega
  have h5 : l % 256 = l := by omega
  have h6 : l / 256 % 256 = 0 := by omega
  simp only [supB, h, cond_true]
  simp [lowB, lowL, strOfNums, List.range_succ, h0, h1, h3, h5, h6]
theorem got_sup {c v l : Int} (h : setMay c v l = true) : gotS (supB c v l) = true ∧ gotW (supB c v l) = #[.int .i64 c, .int .i64 v, .int .i64 l] := by
  have hb := may_sup h
  have e := sup_list h
  have hs := sup_size h
  have e0 : byt (supB c v l) 1 = c := by unfold byt; rw [e]; exact byte_back c (by omega) (by omega)
  have b0 := byte_back (v % 256) (by omega) (by omega)
  have b1 := byte_back (v / 256) (by omega) (by omega)
  have b2 := byte_back l (by omega) (by omega)
  have e1 : numB ((supB c v l).extract 2 4) = v := by
    unfold numB
    simp only [ByteArray.data_extract, Array.toList_extract, List.extract, e]
    show ofL [UInt8.ofNat (v % 256).toNat, UInt8.ofNat (v / 256).toNat] = v
    simp only [ofL, b0, b1]; omega
  have e2 : numB ((supB c v l).extract 6 8) = l := by
    unfold numB
    simp only [ByteArray.data_extract, Array.toList_extract, List.extract, e]
    show ofL [UInt8.ofNat l.toNat, 0] = l
    simp only [ofL, b2]; simp
  have hg : gotS (supB c v l) = true := by simp [gotS, hs, e0, e1, e2, h]
  exact ⟨hg, by simp [gotW, hg, e0, e1, e2]⟩
theorem umod64 (x m : Int) (h0 : 0 < m) (h1 : m ≤ 1000000) : 0 ≤ wrap64 (Int.tmod (IntKind.u64.wrap x) m) ∧ wrap64 (Int.tmod (IntKind.u64.wrap x) m) < m := by
  have h := Bt.umod x m h0 h1
  simp only [IntKind.wrap_i64] at h
  unfold wrap64; exact h
end Go.Proofs.YtalgfekpcklijaaGreat.Su
