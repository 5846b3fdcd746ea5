/- Layer 14: plain facts: what is put comes back; what may not be. -/
import Derived.Test.YtnbbbpeelplfoaaAnl
import Derived.Test.YtnbbbpeelplfoaaBits
namespace Go.Proofs.Ytnbbbpeelplfoaa.An
open Go.RowKit Go.Proofs.Ytnbbbpeelplfoaa.Kt Go.Proofs.Ytnbbbpeelplfoaa.Lw Go.Proofs.Ytnbbbpeelplfoaa.St Go.Proofs.Ytnbbbpeelplfoaa.Id Go.Proofs.Ytnbbbpeelplfoaa.Es
set_option linter.unusedVariables false
set_option linter.unusedSimpArgs false

theorem put_size {a t z : Int} (h : ansMay a t z = true) : (putB a t z).size = 6 := by
  have z1 := lowB_size a 1
  have z2 := lowB_size t 3
  have z3 := lowB_size z 2
  simp only [putB, h, cond_true, ByteArray.size_append]
  omega
theorem put_ex {a t z : Int} (h : ansMay a t z = true) : (putB a t z).extract 0 1 = lowB a 1 ∧ (putB a t z).extract 1 4 = lowB t 3 ∧ (putB a t z).extract 4 6 = lowB z 2 := by
  have z1 := lowB_size a 1
  have z2 := lowB_size t 3
  have z3 := lowB_size z 2
  simp only [putB, h, cond_true]
  refine ⟨?_, ?_, ?_⟩
  · rw [ByteArray.append_assoc]; exact ByteArray.extract_append_eq_left (by omega)
  · rw [ByteArray.append_assoc, show (4 : Nat) = 1 + 3 from rfl]
    have e1 : (lowB a 1 ++ (lowB t 3 ++ lowB z 2)).extract 1 (1 + 3) = (lowB t 3 ++ lowB z 2).extract 0 3 := by
      have := ByteArray.extract_append_size_add (a := lowB a 1) (b := lowB t 3 ++ lowB z 2) (i := 0) (j := 3)
      rw [z1] at this
      exact this
    rw [e1]; exact ByteArray.extract_append_eq_left (by omega)
  · exact ByteArray.extract_append_eq_right (by rw [ByteArray.size_append]; omega) (by rw [ByteArray.size_append]; omega)
theorem got_put {a t z : Int} (h : ansMay a t z = true) : gotB (putB a t z) = true ∧ gotV (putB a t z) = #[.int .i64 a, .int .i64 t, .int .i64 z] := by
  have hs := put_size h
  obtain ⟨x0, x1, x2⟩ := put_ex h
  have hb := may_sta h
  have e0 : byt (putB a t z) 0 = a := by
    rw [byt_num _ 0 (by omega), x0, numB_lowB]; omega
  have e1 : numB ((putB a t z).extract 1 4) = t := by rw [x1, numB_lowB]; omega
  have e2 : numB ((putB a t z).extract 4 6) = z := by rw [x2, numB_lowB]; omega
  have hg : gotB (putB a t z) = true := by simp [gotB, hs, e0, e1, e2, h]
  exact ⟨hg, by simp [gotV, hg, e0, e1, e2]⟩
theorem put_got (s : ByteArray) (h : gotB s = true) : ∃ a t z : Int, gotV s = #[.int .i64 a, .int .i64 t, .int .i64 z] ∧ ansMay a t z = true ∧ putB a t z = s := by
  have hs : s.size = 6 := by simp [gotB] at h; exact h.1
  have hm : ansMay (byt s 0) (numB (s.extract 1 4)) (numB (s.extract 4 6)) = true := by simp [gotB] at h; exact h.2
  refine ⟨_, _, _, by simp only [gotV, h, cond_true], hm, ?_⟩
  simp only [putB, hm, cond_true]
  have := may_sta hm
  exact (six_put s hs _ this.2.1.1 (by omega)).2 rfl
theorem may_mk {a t z : Int} (h1 : 0 ≤ a) (h2 : a < 7) (h3 : 0 ≤ t) (h4 : t < 256) (h5 : 0 ≤ z) (h6 : z < 8) : ansMay a t z = true := by
  simp [ansMay, rngB_eq]; omega
theorem may_no {a t z : Int} (h : a < 0 ∨ 6 < a ∨ t < 0 ∨ 255 < t ∨ z < 0 ∨ 7 < z) : ansMay a t z = false := by
  rw [← Bool.not_eq_true]; intro h'
  have := may_sta h'
  omega
theorem umod64 (x m : Int) (h0 : 0 < m) (h1 : m ≤ 1000000) : 0 ≤ wrap64 (Int.tmod (IntKind.u64.wrap x) m) ∧ wrap64 (Int.tmod (IntKind.u64.wrap x) m) < m := by
  have h := Bt.umod x m h0 h1
  simp only [IntKind.wrap_i64] at h
  unfold wrap64; exact h
theorem put_list {a t z : Int} (h : ansMay a t z = true) : (putB a t z).data.toList = [UInt8.ofNat a.toNat, UInt8.ofNat t.toNat, 0, 0, UInt8.ofNat z.toNat, 0] := by
  have hb := may_sta h
  have h1 : a % 256 = a := by omega
  have h2 : t % 256 = t := by omega
  have h3 : t / 256 % 256 = 0 := by omega
  have h4 : t / 65536 % 256 = 0 := by omega
  have h5 : z % 256 = z := by omega
  have h6 : z / 256 % 256 = 0 := by omega
  simp only [putB, h, cond_true]
  simp [lowB, lowL, strOfNums, List.range_succ, h1, h2, h3, h4, h5, h6]
theorem put_bytes {a t z : Int} (h : ansMay a t z = true) : byt (putB a t z) 0 = a ∧ byt (putB a t z) 1 = t ∧ byt (putB a t z) 4 = z ∧ byt (putB a t z) 5 = 0 ∧ (putB a t z).extract 2 4 = ⟨#[0, 0]⟩ := by
  have hb := may_sta h
  have e := put_list h
  refine ⟨?_, ?_, ?_, ?_, ?_⟩
  · unfold byt; rw [e]; exact byte_back a (by omega) (by omega)
  · unfold byt; rw [e]; exact byte_back t (by omega) (by omega)
  · unfold byt; rw [e]; exact byte_back z (by omega) (by omega)
  · unfold byt; rw [e]; rfl
  · apply ext_data
    simp only [ByteArray.data_extract, Array.toList_extract, List.extract, e]
    rfl
end Go.Proofs.Ytnbbbpeelplfoaa.An
