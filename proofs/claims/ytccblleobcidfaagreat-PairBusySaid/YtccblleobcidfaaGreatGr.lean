/- Texts laid as one: Rpa Rpk. -/
import Derived.Test.YtccblleobcidfaaGreatGn
import Derived.Test.YtccblleobcidfaaGreatHsr
import Derived.Test.YtccblleobcidfaaGreatGb
/- Layer 23: replies: what a host makes of them, in plain Lean. -/
section
namespace Go.Proofs.YtccblleobcidfaaGreat.Rp
open Go.RowKit Go.Proofs.YtccblleobcidfaaGreat.Kt Go.Proofs.YtccblleobcidfaaGreat.Lw Go.Proofs.YtccblleobcidfaaGreat.St Go.Proofs.YtccblleobcidfaaGreat.Nm Go.Proofs.YtccblleobcidfaaGreat.An Go.Proofs.YtccblleobcidfaaGreat.Ho
set_option linter.unusedVariables false
set_option linter.unusedSimpArgs false
/-- a host. -/
structure HS where
  ph : Int
  im : ByteArray
  bl : Int
  ag : Bool
  tr : Int
  rd : ByteArray
  rp : Int
abbrev HS.v (h : HS) : Value := hostV h.ph h.im h.bl h.ag h.tr h.rd h.rp
abbrev HS.cs (h : HS) : Array Value := #[.int .i64 h.ph, .string h.im, .int .i64 h.bl, .bool h.ag, .int .i64 h.tr, .string h.rd, .int .i64 h.rp]
def HS.may (h : HS) : Bool := hostMay h.ph h.im h.bl h.tr h.rd h.rp
def anewH (h : HS) : HS := if h.tr < 8 then ⟨1, h.im, 0, false, h.tr + 1, ⟨#[]⟩, h.rp⟩ else ⟨7, h.im, 0, false, 8, ⟨#[]⟩, 2⟩
def lostH (h : HS) : HS :=
  if h.tr < 8 then
    (if h.ph = 1 then ⟨1, h.im, 0, false, h.tr + 1, ⟨#[]⟩, h.rp⟩ else if h.ph = 2 then ⟨3, h.im, h.bl, true, h.tr + 1, h.rd, h.rp⟩ else if h.ph = 4 then ⟨5, h.im, h.bl, true, h.tr + 1, h.rd, h.rp⟩
     else if h.ph = 6 then ⟨1, h.im, 1, true, h.tr + 1, ⟨#[33]⟩, h.rp⟩ else ⟨h.ph, h.im, h.bl, h.ag, h.tr + 1, h.rd, h.rp⟩)
  else ⟨7, h.im, 0, false, 8, ⟨#[]⟩, 2⟩
/-- a status's state. -/
def ansS (s : ByteArray) : Int := bif gotB s then numB (s.extract 4 6) else 0
theorem gotV_form (s : ByteArray) : ∃ a b : Int, gotV s = #[.int .i64 a, .int .i64 b, .int .i64 (ansS s)] := by
  unfold gotV ansS
  cases gotB s
  · exact ⟨0, 0, rfl⟩
  · exact ⟨_, _, rfl⟩
def clearedH (h : HS) (s : ByteArray) : HS :=
  bif h.ag then (if h.rd = ⟨#[33]⟩ then ⟨5, h.im, 0, false, h.tr, ⟨#[]⟩, h.rp⟩ else ⟨1, h.im, 0, false, h.tr, ⟨#[]⟩, h.rp⟩)
  else bif gotB s then
    (if ansS s = 0 then ⟨2, h.im, 0, false, h.tr, h.rd, h.rp⟩ else if ansS s = 7 then ⟨1, h.im, 0, true, h.tr, h.rd, h.rp⟩ else if ansS s = 3 ∨ ansS s = 6 then ⟨1, h.im, 1, true, h.tr, h.rd, h.rp⟩ else h)
  else anewH h
def polledH (h : HS) (s : ByteArray) : HS :=
  bif gotB s then
    (if ansS s = 1 ∨ ansS s = 2 then h
     else if ansS s = 3 then (bif h.ag then ⟨2, h.im, h.bl, false, h.tr, h.rd, h.rp⟩ else if h.bl + 1 < manyI h.im then ⟨2, h.im, h.bl + 1, false, h.tr, h.rd, h.rp⟩ else ⟨4, h.im, manyI h.im, false, h.tr, h.rd, h.rp⟩)
     else if ansS s = 0 ∧ h.ag = true ∧ h.bl = 0 then ⟨2, h.im, h.bl, false, h.tr, h.rd, h.rp⟩ else anewH h)
  else anewH h
def waitedH (h : HS) (s : ByteArray) : HS :=
  bif gotB s then
    (if ansS s = 0 then ⟨6, h.im, 0, false, h.tr, ⟨#[]⟩, h.rp⟩ else if ansS s = 3 ∧ h.ag = true then ⟨4, h.im, h.bl, false, h.tr, h.rd, h.rp⟩ else if ansS s = 4 ∨ ansS s = 5 then h else anewH h)
  else anewH h
def readH (h : HS) (s : ByteArray) : HS :=
  if 32 < s.size then anewH h
  else if s.size < 32 then (if h.rd ++ s = h.im then ⟨7, h.im, 0, h.ag, h.tr, ⟨#[]⟩, 1⟩ else anewH h)
  else if h.im.size < (h.rd ++ s).size ∨ h.bl = manyI h.im then anewH h
  else ⟨h.ph, h.im, h.bl + 1, h.ag, h.tr, h.rd ++ s, h.rp⟩
def takeH (h : HS) (lost stall : Bool) (s : ByteArray) : HS :=
  bif lost then lostH h else bif stall then anewH h
  else if h.ph = 1 then clearedH h s else if h.ph = 2 then ⟨3, h.im, h.bl, false, h.tr, h.rd, h.rp⟩ else if h.ph = 3 then polledH h s else if h.ph = 4 then ⟨5, h.im, h.bl, false, h.tr, h.rd, h.rp⟩
  else if h.ph = 5 then waitedH h s else readH h s
/-- it takes a reply. -/
def HS.on (h : HS) : Bool := h.may && !offB h.ph
def takeV (h : HS) (lost stall : Bool) (s : ByteArray) : Value :=
  bif h.on then .tuple #[(takeH h lost stall s).v, .int .i64 0] else .tuple #[hostV 0 ⟨#[]⟩ 0 false 0 ⟨#[]⟩ 0, .int .i64 2300]
structure HS.Ok (h : HS) : Prop where
  ph0 : 1 ≤ h.ph
  ph1 : h.ph ≤ 6
  im0 : 1 ≤ h.im.size
  im1 : h.im.size ≤ 288
  bl0 : 0 ≤ h.bl
  bl1 : h.bl ≤ manyI h.im
  tr0 : 0 ≤ h.tr
  tr1 : h.tr ≤ 8
  rd1 : h.rd.size ≤ 320
  rp0 : 0 ≤ h.rp
  rp1 : h.rp ≤ 3
theorem not_empty {b : ByteArray} (h : 1 ≤ b.size) : b.toList.isEmpty = false := by
  cases hl : b.toList.isEmpty
  · rfl
  · exfalso
    have h2 : b.toList = [] := by simpa using hl
    have h3 := eqs b ByteArray.empty
    rw [h2, show ByteArray.empty.toList = [] by decide +kernel] at h3
    have h4 : b = ByteArray.empty := by simpa using h3.symm
    subst h4
    exact absurd h (by decide)
theorem is_empty {b : ByteArray} (h : b.toList.isEmpty = false) : 1 ≤ b.size := by
  rcases Nat.eq_zero_or_pos b.size with h1 | h1
  · exfalso
    have h2 : b = ByteArray.empty := by
      apply ext_data
      have : b.data.toList.length = 0 := by simpa using h1
      rw [List.eq_nil_of_length_eq_zero this]
      rfl
    subst h2
    revert h
    decide +kernel
  · exact h1
theorem HS.on_iff (h : HS) : h.on = true ↔ h.Ok := by
  constructor
  · intro h1
    simp only [HS.on, HS.may, hostMay, Bool.and_eq_true, decide_eq_true_eq] at h1
    obtain ⟨⟨a1, a2, a3, a4, a5, a6, a7⟩, a8⟩ := h1
    simp [offB] at a8
    simp [rngB] at a1 a2 a5 a6
    have e : h.im.toList.isEmpty = false := by
      rcases Bool.eq_false_or_eq_true h.im.toList.isEmpty with q | q
      · rw [q] at a4
        simp [offB] at a4
        omega
      · exact q
    exact ⟨by omega, by omega, is_empty e, by omega, by omega, by omega, by omega, by omega, by omega, by omega, by omega⟩
  · rintro ⟨h1, h2, h3, h4, h5, h6, h7, h8, h9, h10, h11⟩
    have e1 := not_empty h3
    have r : ∀ {x l u : Int}, l ≤ x → x ≤ u → rngB x l u = true := fun h1 h2 => by simp [rngB, h1, h2]
    have e2 : rngB h.ph 0 7 = true := r (by omega) (by omega)
    have e3 : rngB h.rp 0 3 = true := r (by omega) (by omega)
    have e4 : rngB h.bl 0 (manyI h.im) = true := r h5 h6
    have e5 : rngB h.tr 0 8 = true := r h7 h8
    have e6 : offB h.ph = false := by
      simp only [offB, Bool.or_eq_false_iff, beq_eq_false_iff_ne]
      omega
    simp only [HS.on, HS.may, hostMay, e1, e2, e3, e4, e5, e6]
    simp
    exact ⟨by omega, by omega⟩
theorem rd_yes {b : ByteArray} (h : b = ⟨#[33]⟩) : (b.toList == [33]) = true := by
  have := eqs b ⟨#[33]⟩
  rw [show (⟨#[33]⟩ : ByteArray).toList = [33] by decide +kernel] at this
  rw [this]
  simp [h]
theorem rd_no {b : ByteArray} (h : ¬ b = ⟨#[33]⟩) : (b.toList == [33]) = false := by
  have := eqs b ⟨#[33]⟩
  rw [show (⟨#[33]⟩ : ByteArray).toList = [33] by decide +kernel] at this
  rw [this]
  simp [h]
theorem readH_2 {h : HS} {s : ByteArray} (h2 : s.size < 32) (h3 : h.rd ++ s = h.im) : readH h s = ⟨7, h.im, 0, h.ag, h.tr, ⟨#[]⟩, 1⟩ := by
  unfold readH
  rw [if_neg (by omega), if_pos h2, if_pos h3]
theorem readH_3 {h : HS} {s : ByteArray} (h2 : s.size < 32) (h3 : ¬ h.rd ++ s = h.im) : readH h s = anewH h := by
  unfold readH
  rw [if_neg (by omega), if_pos h2, if_neg h3]
theorem readH_4 {h : HS} {s : ByteArray} (h1 : ¬ 32 < s.size) (h2 : ¬ s.size < 32) (h3 : h.im.size < (h.rd ++ s).size ∨ h.bl = manyI h.im) : readH h s = anewH h := by
  unfold readH
  rw [if_neg h1, if_neg h2, if_pos h3]
theorem readH_5 {h : HS} {s : ByteArray} (h1 : ¬ 32 < s.size) (h2 : ¬ s.size < 32) (h3 : ¬ (h.im.size < (h.rd ++ s).size ∨ h.bl = manyI h.im)) : readH h s = ⟨h.ph, h.im, h.bl + 1, h.ag, h.tr, h.rd ++ s, h.rp⟩ := by
  unfold readH
  rw [if_neg h1, if_neg h2, if_neg h3]
end Go.Proofs.YtccblleobcidfaaGreat.Rp
end
/- Layer 23: replies: what they leave as it was: plain Lean. -/
section
namespace Go.Proofs.YtccblleobcidfaaGreat.Rp
open Go.RowKit Go.Proofs.YtccblleobcidfaaGreat.Kt Go.Proofs.YtccblleobcidfaaGreat.Lw Go.Proofs.YtccblleobcidfaaGreat.St Go.Proofs.YtccblleobcidfaaGreat.Nm Go.Proofs.YtccblleobcidfaaGreat.An Go.Proofs.YtccblleobcidfaaGreat.Ho
set_option linter.unusedVariables false
set_option linter.unusedSimpArgs false
structure HS.Fine (h : HS) : Prop where
  ph0 : 0 ≤ h.ph
  ph1 : h.ph ≤ 7
  im0 : 1 ≤ h.im.size
  im1 : h.im.size ≤ 288
  bl0 : 0 ≤ h.bl
  bl1 : h.bl ≤ manyI h.im
  tr0 : 0 ≤ h.tr
  tr1 : h.tr ≤ 8
  rd1 : h.rd.size ≤ 320
  rp0 : 0 ≤ h.rp
  rp1 : h.rp ≤ 3
theorem HS.Fine.may {h : HS} (q : h.Fine) : h.may = true := by
  have e1 := not_empty q.im0
  have r : ∀ {x l u : Int}, l ≤ x → x ≤ u → rngB x l u = true := fun h1 h2 => by simp [rngB, h1, h2]
  have e2 : rngB h.ph 0 7 = true := r q.ph0 q.ph1
  have e3 : rngB h.rp 0 3 = true := r q.rp0 q.rp1
  have e4 : rngB h.bl 0 (manyI h.im) = true := r q.bl0 q.bl1
  have e5 : rngB h.tr 0 8 = true := r q.tr0 q.tr1
  have := q.im1
  have := q.rd1
  simp only [HS.may, hostMay, e1, e2, e3, e4, e5]
  simp
  exact ⟨by omega, by omega⟩
theorem HS.Ok.fine {h : HS} (q : h.Ok) : h.Fine := ⟨by have := q.ph0; omega, by have := q.ph1; omega, q.im0, q.im1, q.bl0, q.bl1, q.tr0, q.tr1, q.rd1, q.rp0, q.rp1⟩
theorem many0 (b : ByteArray) : 0 ≤ manyI b := by unfold manyI; omega
theorem many1 {b : ByteArray} (h : 1 ≤ b.size) : 1 ≤ manyI b := by unfold manyI; omega
/-- what a reply leaves as it was. -/
def Keeps (h a : HS) : Prop := a.Fine ∧ a.im = h.im ∧ h.tr ≤ a.tr
theorem mk_keeps {h : HS} (q : h.Ok) {ph bl tr rp : Int} {ag : Bool} {rd : ByteArray} (p0 : 0 ≤ ph) (p1 : ph ≤ 7) (b0 : 0 ≤ bl) (b1 : bl ≤ manyI h.im) (t0 : h.tr ≤ tr) (t1 : tr ≤ 8) (r1 : rd.size ≤ 320) (q0 : 0 ≤ rp) (q1 : rp ≤ 3) : Keeps h ⟨ph, h.im, bl, ag, tr, rd, rp⟩ :=
  ⟨⟨p0, p1, q.im0, q.im1, b0, b1, by have := q.tr0; show 0 ≤ tr; omega, t1, r1, q0, q1⟩, rfl, t0⟩
theorem keep_anew {h : HS} (q : h.Ok) : Keeps h (anewH h) ∧ ¬ ((anewH h).ph = 7 ∧ (anewH h).rp = 1) := by
  have m0 := many0 h.im
  have := q.tr1
  unfold anewH
  split
  · exact ⟨mk_keeps q (by decide) (by decide) (by decide) m0 (by omega) (by omega) (by decide) q.rp0 q.rp1, fun z => (by have := z.1; simp at this)⟩
  · exact ⟨mk_keeps q (by decide) (by decide) (by decide) m0 (by omega) (by omega) (by decide) (by decide) (by decide), fun z => (by have := z.2; simp at this)⟩
theorem keep_same {h : HS} (q : h.Ok) : Keeps h h ∧ ¬ (h.ph = 7 ∧ h.rp = 1) := ⟨⟨q.fine, rfl, Int.le_refl _⟩, fun z => by have := q.ph1; omega⟩
theorem keep_lost {h : HS} (q : h.Ok) : Keeps h (lostH h) ∧ ¬ ((lostH h).ph = 7 ∧ (lostH h).rp = 1) := by
  have m0 := many0 h.im
  have m1 := many1 q.im0
  have := q.tr1
  have a := q.ph0
  have b := q.ph1
  unfold lostH
  split
  · split
    · exact ⟨mk_keeps q (by decide) (by decide) (by decide) m0 (by omega) (by omega) (by decide) q.rp0 q.rp1, fun z => (by have := z.1; simp at this)⟩
    · split
      · exact ⟨mk_keeps q (by decide) (by decide) q.bl0 q.bl1 (by omega) (by omega) q.rd1 q.rp0 q.rp1, fun z => (by have := z.1; simp at this)⟩
      · split
        · exact ⟨mk_keeps q (by decide) (by decide) q.bl0 q.bl1 (by omega) (by omega) q.rd1 q.rp0 q.rp1, fun z => (by have := z.1; simp at this)⟩
        · split
          · exact ⟨mk_keeps q (by decide) (by decide) (by decide) m1 (by omega) (by omega) (by decide) q.rp0 q.rp1, fun z => (by have := z.1; simp at this)⟩
          · exact ⟨mk_keeps q (by omega) (by omega) q.bl0 q.bl1 (by omega) (by omega) q.rd1 q.rp0 q.rp1, fun z => by have := z.1; simp at this; omega⟩
  · exact ⟨mk_keeps q (by decide) (by decide) (by decide) m0 (by omega) (by omega) (by decide) (by decide) (by decide), fun z => (by have := z.2; simp at this)⟩
theorem keep_cleared {h : HS} (q : h.Ok) (s : ByteArray) : Keeps h (clearedH h s) ∧ ¬ ((clearedH h s).ph = 7 ∧ (clearedH h s).rp = 1) := by
  have m0 := many0 h.im
  have m1 := many1 q.im0
  unfold clearedH
  cases h.ag
  · cases gotB s
    · exact keep_anew q
    · show Keeps h (if ansS s = 0 then _ else _) ∧ _
      simp only [cond_false, cond_true]
      split
      · exact ⟨mk_keeps q (by decide) (by decide) (by decide) m0 (Int.le_refl _) q.tr1 q.rd1 q.rp0 q.rp1, fun z => (by have := z.1; simp at this)⟩
      · split
        · exact ⟨mk_keeps q (by decide) (by decide) (by decide) m0 (Int.le_refl _) q.tr1 q.rd1 q.rp0 q.rp1, fun z => (by have := z.1; simp at this)⟩
        · split
          · exact ⟨mk_keeps q (by decide) (by decide) (by decide) m1 (Int.le_refl _) q.tr1 q.rd1 q.rp0 q.rp1, fun z => (by have := z.1; simp at this)⟩
          · exact keep_same q
  · simp only [cond_true]
    split
    · exact ⟨mk_keeps q (by decide) (by decide) (by decide) m0 (Int.le_refl _) q.tr1 (by decide) q.rp0 q.rp1, fun z => (by have := z.1; simp at this)⟩
    · exact ⟨mk_keeps q (by decide) (by decide) (by decide) m0 (Int.le_refl _) q.tr1 (by decide) q.rp0 q.rp1, fun z => (by have := z.1; simp at this)⟩
theorem keep_polled {h : HS} (q : h.Ok) (s : ByteArray) : Keeps h (polledH h s) ∧ ¬ ((polledH h s).ph = 7 ∧ (polledH h s).rp = 1) := by
  have m0 := many0 h.im
  have b0 := q.bl0
  have b1 := q.bl1
  unfold polledH
  cases gotB s
  · exact keep_anew q
  · simp only [cond_true]
    split
    · exact keep_same q
    · split
      · cases h.ag
        · simp only [cond_false]
          split
          · exact ⟨mk_keeps q (by decide) (by decide) (by omega) (by omega) (Int.le_refl _) q.tr1 q.rd1 q.rp0 q.rp1, fun z => (by have := z.1; simp at this)⟩
          · exact ⟨mk_keeps q (by decide) (by decide) m0 (Int.le_refl _) (Int.le_refl _) q.tr1 q.rd1 q.rp0 q.rp1, fun z => (by have := z.1; simp at this)⟩
        · exact ⟨mk_keeps q (by decide) (by decide) b0 b1 (Int.le_refl _) q.tr1 q.rd1 q.rp0 q.rp1, fun z => (by have := z.1; simp at this)⟩
      · split
        · exact ⟨mk_keeps q (by decide) (by decide) b0 b1 (Int.le_refl _) q.tr1 q.rd1 q.rp0 q.rp1, fun z => (by have := z.1; simp at this)⟩
        · exact keep_anew q
theorem keep_waited {h : HS} (q : h.Ok) (s : ByteArray) : Keeps h (waitedH h s) ∧ ¬ ((waitedH h s).ph = 7 ∧ (waitedH h s).rp = 1) := by
  have m0 := many0 h.im
  unfold waitedH
  cases gotB s
  · exact keep_anew q
  · simp only [cond_true]
    split
    · exact ⟨mk_keeps q (by decide) (by decide) (by decide) m0 (Int.le_refl _) q.tr1 (by decide) q.rp0 q.rp1, fun z => (by have := z.1; simp at this)⟩
    · split
      · exact ⟨mk_keeps q (by decide) (by decide) q.bl0 q.bl1 (Int.le_refl _) q.tr1 q.rd1 q.rp0 q.rp1, fun z => (by have := z.1; simp at this)⟩
      · split
        · exact keep_same q
        · exact keep_anew q
theorem keep_read {h : HS} (q : h.Ok) {s : ByteArray} (hn : ¬ (s.size < 32 ∧ h.rd ++ s = h.im)) : Keeps h (readH h s) ∧ ¬ ((readH h s).ph = 7 ∧ (readH h s).rp = 1) := by
  have a := q.ph0
  have b := q.ph1
  have i1 := q.im1
  have b0 := q.bl0
  have b1 := q.bl1
  unfold readH
  split
  · exact keep_anew q
  · split
    · rename_i h2
      rw [if_neg fun h3 => hn ⟨h2, h3⟩]
      exact keep_anew q
    · split
      · exact keep_anew q
      · rename_i h3
        have h4 : (h.rd ++ s).size ≤ h.im.size := by omega
        exact ⟨mk_keeps q (by omega) (by omega) (by omega) (by omega) (Int.le_refl _) q.tr1 (by omega) q.rp0 q.rp1, fun z => by have := z.1; simp at this; omega⟩
theorem keep_read_good {h : HS} (q : h.Ok) {s : ByteArray} (h1 : s.size < 32) (h2 : h.rd ++ s = h.im) : Keeps h (readH h s) ∧ (readH h s).ph = 7 ∧ (readH h s).rp = 1 := by
  rw [readH_2 h1 h2]
  exact ⟨mk_keeps q (by decide) (by decide) (by decide) (many0 _) (Int.le_refl _) q.tr1 (by decide) (by decide) (by decide), rfl, rfl⟩
/-- it ends well. -/
def goodB (h : HS) (lost stall : Bool) (s : ByteArray) : Prop := h.ph = 6 ∧ lost = false ∧ stall = false ∧ s.size < 32 ∧ h.rd ++ s = h.im
theorem keep_take {h : HS} (q : h.Ok) {lost stall : Bool} {s : ByteArray} (hn : ¬ goodB h lost stall s) : Keeps h (takeH h lost stall s) ∧ ¬ ((takeH h lost stall s).ph = 7 ∧ (takeH h lost stall s).rp = 1) := by
  have a := q.ph0
  have b := q.ph1
  unfold takeH
  cases lost
  · cases stall
    · simp only [cond_false]
      split
      · exact keep_cleared q s
      · split
        · exact ⟨mk_keeps q (by decide) (by decide) q.bl0 q.bl1 (Int.le_refl _) q.tr1 q.rd1 q.rp0 q.rp1, fun z => (by have := z.1; simp at this)⟩
        · split
          · exact keep_polled q s
          · split
            · exact ⟨mk_keeps q (by decide) (by decide) q.bl0 q.bl1 (Int.le_refl _) q.tr1 q.rd1 q.rp0 q.rp1, fun z => (by have := z.1; simp at this)⟩
            · split
              · exact keep_waited q s
              · exact keep_read q fun z => hn ⟨by omega, rfl, rfl, z.1, z.2⟩
    · exact keep_anew q
  · exact keep_lost q
theorem keep_good {h : HS} (q : h.Ok) {s : ByteArray} (g : goodB h false false s) : Keeps h (takeH h false false s) ∧ takeH h false false s = ⟨7, h.im, 0, h.ag, h.tr, ⟨#[]⟩, 1⟩ := by
  obtain ⟨g1, _, _, g4, g5⟩ := g
  have e : takeH h false false s = readH h s := by simp [takeH, g1]
  rw [e]
  exact ⟨(keep_read_good q g4 g5).1, readH_2 g4 g5⟩
end Go.Proofs.YtccblleobcidfaaGreat.Rp
end
