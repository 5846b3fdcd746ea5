/- Layer 23: replies: what a host makes of them, in plain Lean. -/
import Derived.Test.YthoonffbadhplaaAnr
import Derived.Test.YthoonffbadhplaaHsr
import Derived.Test.YthoonffbadhplaaBlc
namespace Go.Proofs.Ythoonffbadhplaa.Rp
open Go.RowKit Go.Proofs.Ythoonffbadhplaa.Kt Go.Proofs.Ythoonffbadhplaa.Lw Go.Proofs.Ythoonffbadhplaa.St Go.Proofs.Ythoonffbadhplaa.Nm Go.Proofs.Ythoonffbadhplaa.An Go.Proofs.Ythoonffbadhplaa.Ho
set_option linter.unusedVariables false
set_option linter.unusedSimpArgs false
/-- a host. -/
structure HS where
  ph : Int
  im : ByteArray
  bl : Int
  ag : Bool
  tr : Int
  rd : ByteArray
  rp : Int
abbrev HS.v (h : HS) : Value := hostV h.ph h.im h.bl h.ag h.tr h.rd h.rp
abbrev HS.cs (h : HS) : Array Value := #[.int .i64 h.ph, .string h.im, .int .i64 h.bl, .bool h.ag, .int .i64 h.tr, .string h.rd, .int .i64 h.rp]
def HS.may (h : HS) : Bool := hostMay h.ph h.im h.bl h.tr h.rd h.rp
def anewH (h : HS) : HS := if h.tr < 8 then ⟨1, h.im, 0, false, h.tr + 1, ⟨#[]⟩, h.rp⟩ else ⟨7, h.im, 0, false, 8, ⟨#[]⟩, 2⟩
def lostH (h : HS) : HS :=
  if h.tr < 8 then
    (if h.ph = 1 then ⟨1, h.im, 0, false, h.tr + 1, ⟨#[]⟩, h.rp⟩ else if h.ph = 2 then ⟨3, h.im, h.bl, true, h.tr + 1, h.rd, h.rp⟩ else if h.ph = 4 then ⟨5, h.im, h.bl, true, h.tr + 1, h.rd, h.rp⟩
     else if h.ph = 6 then ⟨1, h.im, 1, true, h.tr + 1, ⟨#[33]⟩, h.rp⟩ else ⟨h.ph, h.im, h.bl, h.ag, h.tr + 1, h.rd, h.rp⟩)
  else ⟨7, h.im, 0, false, 8, ⟨#[]⟩, 2⟩
/-- a status's state. -/
def ansS (s : ByteArray) : Int := bif gotB s then numB (s.extract 4 6) else 0
theorem gotV_form (s : ByteArray) : ∃ a b : Int, gotV s = #[.int .i64 a, .int .i64 b, .int .i64 (ansS s)] := by
  unfold gotV ansS
  cases gotB s
  · exact ⟨0, 0, rfl⟩
  · exact ⟨_, _, rfl⟩
def clearedH (h : HS) (s : ByteArray) : HS :=
  bif h.ag then (if h.rd = ⟨#[33]⟩ then ⟨5, h.im, 0, false, h.tr, ⟨#[]⟩, h.rp⟩ else ⟨1, h.im, 0, false, h.tr, ⟨#[]⟩, h.rp⟩)
  else bif gotB s then
    (if ansS s = 0 then ⟨2, h.im, 0, false, h.tr, h.rd, h.rp⟩ else if ansS s = 7 then ⟨1, h.im, 0, true, h.tr, h.rd, h.rp⟩ else if ansS s = 3 ∨ ansS s = 6 then ⟨1, h.im, 1, true, h.tr, h.rd, h.rp⟩ else h)
  else anewH h
def polledH (h : HS) (s : ByteArray) : HS :=
  bif gotB s then
    (if ansS s = 1 ∨ ansS s = 2 then h
     else if ansS s = 3 then (bif h.ag then ⟨2, h.im, h.bl, false, h.tr, h.rd, h.rp⟩ else if h.bl + 1 < manyI h.im then ⟨2, h.im, h.bl + 1, false, h.tr, h.rd, h.rp⟩ else ⟨4, h.im, manyI h.im, false, h.tr, h.rd, h.rp⟩)
     else if ansS s = 0 ∧ h.ag = true ∧ h.bl = 0 then ⟨2, h.im, h.bl, false, h.tr, h.rd, h.rp⟩ else anewH h)
  else anewH h
def waitedH (h : HS) (s : ByteArray) : HS :=
  bif gotB s then
    (if ansS s = 0 then ⟨6, h.im, 0, false, h.tr, ⟨#[]⟩, h.rp⟩ else if ansS s = 3 ∧ h.ag = true then ⟨4, h.im, h.bl, false, h.tr, h.rd, h.rp⟩ else if ansS s = 4 ∨ ansS s = 5 then h else anewH h)
  else anewH h
def readH (h : HS) (s : ByteArray) : HS :=
  if 32 < s.size then anewH h
  else if s.size < 32 then (if h.rd ++ s = h.im then ⟨7, h.im, 0, h.ag, h.tr, ⟨#[]⟩, 1⟩ else anewH h)
  else if h.im.size < (h.rd ++ s).size ∨ h.bl = manyI h.im then anewH h
  else ⟨h.ph, h.im, h.bl + 1, h.ag, h.tr, h.rd ++ s, h.rp⟩
def takeH (h : HS) (lost stall : Bool) (s : ByteArray) : HS :=
  bif lost then lostH h else bif stall then anewH h
  else if h.ph = 1 then clearedH h s else if h.ph = 2 then ⟨3, h.im, h.bl, false, h.tr, h.rd, h.rp⟩ else if h.ph = 3 then polledH h s else if h.ph = 4 then ⟨5, h.im, h.bl, false, h.tr, h.rd, h.rp⟩
  else if h.ph = 5 then waitedH h s else readH h s
/-- it takes a reply. -/
def HS.on (h : HS) : Bool := h.may && !offB h.ph
def takeV (h : HS) (lost stall : Bool) (s : ByteArray) : Value :=
  bif h.on then .tuple #[(takeH h lost stall s).v, .int .i64 0] else .tuple #[hostV 0 ⟨#[]⟩ 0 false 0 ⟨#[]⟩ 0, .int .i64 2300]
structure HS.Ok (h : HS) : Prop where
  ph0 : 1 ≤ h.ph
  ph1 : h.ph ≤ 6
  im0 : 1 ≤ h.im.size
  im1 : h.im.size ≤ 288
  bl0 : 0 ≤ h.bl
  bl1 : h.bl ≤ manyI h.im
  tr0 : 0 ≤ h.tr
  tr1 : h.tr ≤ 8
  rd1 : h.rd.size ≤ 320
  rp0 : 0 ≤ h.rp
  rp1 : h.rp ≤ 3
theorem not_empty {b : ByteArray} (h : 1 ≤ b.size) : b.toList.isEmpty = false := by
  cases hl : b.toList.isEmpty
  · rfl
  · exfalso
    have h2 : b.toList = [] := by simpa using hl
    have h3 := eqs b ByteArray.empty
    rw [h2, show ByteArray.empty.toList = [] by decide +kernel] at h3
    have h4 : b = ByteArray.empty := by simpa using h3.symm
    subst h4
    exact absurd h (by decide)
theorem is_empty {b : ByteArray} (h : b.toList.isEmpty = false) : 1 ≤ b.size := by
  rcases Nat.eq_zero_or_pos b.size with h1 | h1
  · exfalso
    have h2 : b = ByteArray.empty := by
      apply ext_data
      have : b.data.toList.length = 0 := by simpa using h1
      rw [List.eq_nil_of_length_eq_zero this]
      rfl
    subst h2
    revert h
    decide +kernel
  · exact h1
theorem HS.on_iff (h : HS) : h.on = true ↔ h.Ok := by
  constructor
  · intro h1
    simp only [HS.on, HS.may, hostMay, Bool.and_eq_true, decide_eq_true_eq] at h1
    obtain ⟨⟨a1, a2, a3, a4, a5, a6, a7⟩, a8⟩ := h1
    simp [offB] at a8
    simp [rngB] at a1 a2 a5 a6
    have e : h.im.toList.isEmpty = false := by
      rcases Bool.eq_false_or_eq_true h.im.toList.isEmpty with q | q
      · rw [q] at a4
        simp [offB] at a4
        omega
      · exact q
    exact ⟨by omega, by omega, is_empty e, by omega, by omega, by omega, by omega, by omega, by omega, by omega, by omega⟩
  · rintro ⟨h1, h2, h3, h4, h5, h6, h7, h8, h9, h10, h11⟩
    have e1 := not_empty h3
    have r : ∀ {x l u : Int}, l ≤ x → x ≤ u → rngB x l u = true := fun h1 h2 => by simp [rngB, h1, h2]
    have e2 : rngB h.ph 0 7 = true := r (by omega) (by omega)
    have e3 : rngB h.rp 0 3 = true := r (by omega) (by omega)
    have e4 : rngB h.bl 0 (manyI h.im) = true := r h5 h6
    have e5 : rngB h.tr 0 8 = true := r h7 h8
    have e6 : offB h.ph = false := by
      simp only [offB, Bool.or_eq_false_iff, beq_eq_false_iff_ne]
      omega
    simp only [HS.on, HS.may, hostMay, e1, e2, e3, e4, e5, e6]
    simp
    exact ⟨by omega, by omega⟩
theorem rd_yes {b : ByteArray} (h : b = ⟨#[33]⟩) : (b.toList == [33]) = true := by
  have := eqs b ⟨#[33]⟩
  rw [show (⟨#[33]⟩ : ByteArray).toList = [33] by decide +kernel] at this
  rw [this]
  simp [h]
theorem rd_no {b : ByteArray} (h : ¬ b = ⟨#[33]⟩) : (b.toList == [33]) = false := by
  have := eqs b ⟨#[33]⟩
  rw [show (⟨#[33]⟩ : ByteArray).toList = [33] by decide +kernel] at this
  rw [this]
  simp [h]
theorem readH_1 {h : HS} {s : ByteArray} (h1 : 32 < s.size) : readH h s = anewH h := by
  unfold readH
  rw [if_pos h1]
theorem readH_2 {h : HS} {s : ByteArray} (h2 : s.size < 32) (h3 : h.rd ++ s = h.im) : readH h s = ⟨7, h.im, 0, h.ag, h.tr, ⟨#[]⟩, 1⟩ := by
  unfold readH
  rw [if_neg (by omega), if_pos h2, if_pos h3]
theorem readH_3 {h : HS} {s : ByteArray} (h2 : s.size < 32) (h3 : ¬ h.rd ++ s = h.im) : readH h s = anewH h := by
  unfold readH
  rw [if_neg (by omega), if_pos h2, if_neg h3]
theorem readH_4 {h : HS} {s : ByteArray} (h1 : ¬ 32 < s.size) (h2 : ¬ s.size < 32) (h3 : h.im.size < (h.rd ++ s).size ∨ h.bl = manyI h.im) : readH h s = anewH h := by
  unfold readH
  rw [if_neg h1, if_neg h2, if_pos h3]
theorem readH_5 {h : HS} {s : ByteArray} (h1 : ¬ 32 < s.size) (h2 : ¬ s.size < 32) (h3 : ¬ (h.im.size < (h.rd ++ s).size ∨ h.bl = manyI h.im)) : readH h s = ⟨h.ph, h.im, h.bl + 1, h.ag, h.tr, h.rd ++ s, h.rp⟩ := by
  unfold readH
  rw [if_neg h1, if_neg h2, if_neg h3]
end Go.Proofs.Ythoonffbadhplaa.Rp
