/- Layer 11: a file comes back; a text that is one is built as it stood: in plain Lean. -/
import Derived.Test.YthoonffbadhplaaSue
namespace Go.Proofs.Ythoonffbadhplaa.Sf
open Go.RowKit Go.Proofs.Ythoonffbadhplaa.Kt Go.Proofs.Ythoonffbadhplaa.Lw Go.Proofs.Ythoonffbadhplaa.St Go.Proofs.Ythoonffbadhplaa.Nm Go.Proofs.Ythoonffbadhplaa.Ic Go.Proofs.Ythoonffbadhplaa.Cr
set_option linter.unusedVariables false
set_option linter.unusedSimpArgs false
theorem len_data (A : ByteArray) : A.data.toList.length = A.size := by simp
theorem ext_pre (A B : ByteArray) (n : Nat) (h : A.size = n) : (A ++ B).extract 0 n = A := by
  subst h
  apply ext_data
  have hA := Nat.le_of_eq (len_data A)
  simp [ByteArray.data_extract, Array.toList_extract, List.extract, List.take_of_length_le hA]
theorem ext_suf (A B : ByteArray) (m n : Nat) (h : A.size = m) (h2 : m + B.size = n) : (A ++ B).extract m n = B := by
  subst h
  subst h2
  apply ext_data
  have hA := Nat.le_of_eq (len_data A)
  have hB := Nat.le_of_eq (len_data B)
  simp [ByteArray.data_extract, Array.toList_extract, List.extract, List.drop_of_length_le hA, List.take_of_length_le hB]
theorem ext_mid (A B C : ByteArray) (m n : Nat) (h : A.size = m) (h2 : m + B.size = n) : (A ++ B ++ C).extract m n = B := by
  subst h
  subst h2
  apply ext_data
  have hA := Nat.le_of_eq (len_data A)
  have hB := Nat.le_of_eq (len_data B)
  simp [ByteArray.data_extract, Array.toList_extract, List.extract, List.drop_of_length_le hA, List.take_of_length_le hB]
theorem ext_cat (s : ByteArray) (a b c : Nat) (h1 : a ≤ b) (h2 : b ≤ c) : s.extract a b ++ s.extract b c = s.extract a c := by
  apply ext_data
  simp only [ByteArray.data_append, Array.toList_append, ByteArray.data_extract, Array.toList_extract, List.extract]
  obtain ⟨i, rfl⟩ := Nat.exists_eq_add_of_le h1
  obtain ⟨j, rfl⟩ := Nat.exists_eq_add_of_le h2
  rw [show a + i - a = i by omega, show a + i + j - (a + i) = j by omega, show a + i + j - a = i + j by omega, List.take_add, List.drop_drop]
theorem bld_size {x : ByteArray} {v p r : Int} (h : bldOk x v p r = true) : (bldB x v p r).size = x.size + 16 := by
  simp only [bldB, h, cond_true, ByteArray.size_append, bodyB_size, lowB_size]
theorem bld_par {x : ByteArray} {v p r : Int} (h : bldOk x v p r = true) : parV3 (bldB x v p r) = .tuple #[.string x, .agg #[.int .i64 v, .int .i64 p, .int .i64 r], .int .i64 0] := by
  have hz := bld_size h
  have hb : rngB (x.size : Int) 1 288 = true ∧ mayB v p r = true := by simpa [bldOk] using h
  have hi : (0 ≤ v ∧ v ≤ 65535) ∧ (0 ≤ p ∧ p ≤ 65535) ∧ (0 ≤ r ∧ r ≤ 65535) := by simpa [mayB, rngB] using hb.2
  have eF : bldB x v p r = bodyB x v p r ++ lowB (crcB (bodyB x v p r)) 4 := by simp [bldB, h]
  have zr := lowB_size r 2
  have zp := lowB_size p 2
  have zv := lowB_size v 2
  have zc := lowB_size (crcB (bodyB x v p r)) 4
  have zb := bodyB_size x v p r
  have s1 : (x ++ lowB r 2).size = x.size + 2 := by rw [ByteArray.size_append, zr]
  have s2 : (x ++ lowB r 2 ++ lowB p 2).size = x.size + 4 := by rw [ByteArray.size_append, s1, zp]
  have s3 : (x ++ lowB r 2 ++ lowB p 2 ++ lowB v 2).size = x.size + 6 := by rw [ByteArray.size_append, s2, zv]
  have e0 : (bldB x v p r).extract 0 x.size = x := by
    rw [eF, bodyB]
    simp only [ByteArray.append_assoc]
    exact ext_pre _ _ _ rfl
  have e1 : (bldB x v p r).extract x.size (x.size + 2) = lowB r 2 := by
    rw [eF, bodyB]
    have : x ++ lowB r 2 ++ lowB p 2 ++ lowB v 2 ++ ⟨#[0, 1, 85, 70, 68, 16]⟩ ++ lowB (crcB (x ++ lowB r 2 ++ lowB p 2 ++ lowB v 2 ++ ⟨#[0, 1, 85, 70, 68, 16]⟩)) 4 = x ++ lowB r 2 ++ (lowB p 2 ++ (lowB v 2 ++ (⟨#[0, 1, 85, 70, 68, 16]⟩ ++ lowB (crcB (x ++ lowB r 2 ++ lowB p 2 ++ lowB v 2 ++ ⟨#[0, 1, 85, 70, 68, 16]⟩)) 4))) := by simp only [ByteArray.append_assoc]
    rw [this]
    exact ext_mid _ _ _ _ _ rfl (by rw [zr])
  have e2 : (bldB x v p r).extract (x.size + 2) (x.size + 4) = lowB p 2 := by
    rw [eF, bodyB]
    have : x ++ lowB r 2 ++ lowB p 2 ++ lowB v 2 ++ ⟨#[0, 1, 85, 70, 68, 16]⟩ ++ lowB (crcB (x ++ lowB r 2 ++ lowB p 2 ++ lowB v 2 ++ ⟨#[0, 1, 85, 70, 68, 16]⟩)) 4 = x ++ lowB r 2 ++ lowB p 2 ++ (lowB v 2 ++ (⟨#[0, 1, 85, 70, 68, 16]⟩ ++ lowB (crcB (x ++ lowB r 2 ++ lowB p 2 ++ lowB v 2 ++ ⟨#[0, 1, 85, 70, 68, 16]⟩)) 4)) := by simp only [ByteArray.append_assoc]
    rw [this]
    exact ext_mid _ _ _ _ _ s1 (by rw [zp])
  have e3 : (bldB x v p r).extract (x.size + 4) (x.size + 6) = lowB v 2 := by
    rw [eF, bodyB]
    have : x ++ lowB r 2 ++ lowB p 2 ++ lowB v 2 ++ ⟨#[0, 1, 85, 70, 68, 16]⟩ ++ lowB (crcB (x ++ lowB r 2 ++ lowB p 2 ++ lowB v 2 ++ ⟨#[0, 1, 85, 70, 68, 16]⟩)) 4 = x ++ lowB r 2 ++ lowB p 2 ++ lowB v 2 ++ (⟨#[0, 1, 85, 70, 68, 16]⟩ ++ lowB (crcB (x ++ lowB r 2 ++ lowB p 2 ++ lowB v 2 ++ ⟨#[0, 1, 85, 70, 68, 16]⟩)) 4) := by simp only [ByteArray.append_assoc]
    rw [this]
    exact ext_mid _ _ _ _ _ s2 (by rw [zv])
  have e4 : (bldB x v p r).extract (x.size + 6) (x.size + 12) = ⟨#[0, 1, 85, 70, 68, 16]⟩ := by
    rw [eF]
    exact ext_mid _ _ _ _ _ s3 rfl
  have e5 : (bldB x v p r).extract 0 (x.size + 12) = bodyB x v p r := by
    rw [eF]
    exact ext_pre _ _ _ zb
  have e6 : (bldB x v p r).extract (x.size + 12) (x.size + 16) = lowB (crcB (bodyB x v p r)) 4 := by
    rw [eF]
    exact ext_suf _ _ _ _ zb (by rw [zc])
  have hc := crcB_bd (bodyB x v p r)
  have hf : parF (bldB x v p r) = true := by
    have hm : parM (bldB x v p r) = true := by
      simp only [parM, hz, Nat.add_sub_cancel, e4]
      decide +kernel
    have hr : rngB (((x.size + 16 : Nat) : Int) - 16) 1 288 = true := by rw [← hb.1]; congr 1; omega
    simp [parF, hz, hm, hb.1]
  have hS : parS (bldB x v p r) = true := by
    simp only [parS, hz, Nat.add_sub_cancel, e5, e6, numB_lowB]
    rw [beq_iff_eq]
    omega
  rw [parV3_ok hz hf hS, e0, e1, e2, e3, numB_lowB, numB_lowB, numB_lowB]
  rw [show v % 256 ^ 2 = v by omega, show p % 256 ^ 2 = p by omega, show r % 256 ^ 2 = r by omega]
theorem par_e {s : ByteArray} : parE s = 0 ↔ parOk s = true := by
  unfold parE parOk
  cases parF s <;> cases parS s <;> simp
theorem par_size {s : ByteArray} (h : parOk s = true) : 17 ≤ s.size ∧ s.size ≤ 304 ∧ (parB s).size + 16 = s.size := by
  have hf : rngB ((s.size : Int) - 16) 1 288 = true := by simp [parOk, parF] at h; exact h.1.1
  simp [rngB] at hf
  refine ⟨by omega, by omega, ?_⟩
  simp [parB, h]
  omega
theorem par_bld {s : ByteArray} (h : parOk s = true) : bldOk (parB s) (parV s) (parP s) (parR s) = true ∧ bldB (parB s) (parV s) (parP s) (parR s) = s := by
  obtain ⟨z0, z1, z2⟩ := par_size h
  have hm : parM s = true := by simp [parOk, parF] at h; exact h.1.2
  have hS : parS s = true := by simp [parOk] at h; exact h.2
  obtain ⟨k, hk⟩ : ∃ k, s.size = k + 16 := ⟨s.size - 16, by omega⟩
  simp only [parM, hk, Nat.add_sub_cancel] at hm
  simp only [parS, hk, Nat.add_sub_cancel] at hS
  have t0 : (s.extract k (k + 2)).size = 2 := by simp; omega
  have t1 : (s.extract (k + 2) (k + 4)).size = 2 := by simp; omega
  have t2 : (s.extract (k + 4) (k + 6)).size = 2 := by simp; omega
  have t3 : (s.extract (k + 12) (k + 16)).size = 4 := by simp; omega
  have b0 := numB_bd (s.extract k (k + 2))
  have b1 := numB_bd (s.extract (k + 2) (k + 4))
  have b2 := numB_bd (s.extract (k + 4) (k + 6))
  rw [t0] at b0
  rw [t1] at b1
  rw [t2] at b2
  have l0 := lowB_numB (s.extract k (k + 2))
  have l1 := lowB_numB (s.extract (k + 2) (k + 4))
  have l2 := lowB_numB (s.extract (k + 4) (k + 6))
  have l3 := lowB_numB (s.extract (k + 12) (k + 16))
  rw [t0] at l0
  rw [t1] at l1
  rw [t2] at l2
  rw [t3] at l3
  have eb : parB s = s.extract 0 k := by simp [parB, h, hk]
  have er : parR s = numB (s.extract k (k + 2)) := by simp [parR, h, hk]
  have ep : parP s = numB (s.extract (k + 2) (k + 4)) := by simp [parP, h, hk]
  have ev : parV s = numB (s.extract (k + 4) (k + 6)) := by simp [parV, h, hk]
  have hmg : s.extract (k + 6) (k + 12) = ⟨#[0, 1, 85, 70, 68, 16]⟩ := by
    apply ext_data
    have := eq_of_beq hm
    rw [Lib.toList_data] at this
    exact this
  have hok : bldOk (parB s) (parV s) (parP s) (parR s) = true := by
    have hsz : (parB s).size = k := by omega
    simp only [bldOk, mayB, rngB, hsz, er, ep, ev]
    simp
    omega
  have hbody : bodyB (parB s) (parV s) (parP s) (parR s) = s.extract 0 (k + 12) := by
    rw [bodyB, eb, er, ep, ev, l0, l1, l2, ← hmg, ext_cat _ _ _ _ (by omega) (by omega), ext_cat _ _ _ _ (by omega) (by omega), ext_cat _ _ _ _ (by omega) (by omega), ext_cat _ _ _ _ (by omega) (by omega)]
  refine ⟨hok, ?_⟩
  have hc := eq_of_beq hS
  have e : bldB (parB s) (parV s) (parP s) (parR s) = bodyB (parB s) (parV s) (parP s) (parR s) ++ lowB (crcB (bodyB (parB s) (parV s) (parP s) (parR s))) 4 := by simp [bldB, hok]
  rw [e, hbody, ← hc, l3, ext_cat _ _ _ _ (by omega) (by omega), ← hk]
  exact ByteArray.extract_zero_size
end Go.Proofs.Ythoonffbadhplaa.Sf
