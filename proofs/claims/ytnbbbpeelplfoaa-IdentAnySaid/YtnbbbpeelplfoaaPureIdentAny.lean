/- Ids match themselves, any matches all, another product does not match: for every four numbers, without conditions. -/
import Derived.Test.YtnbbbpeelplfoaaPIdentAnyx2
import Derived.Test.YtnbbbpeelplfoaaBits
namespace Go.Proofs.Ytnbbbpeelplfoaa.Pure
open Go.RowKit Go.Proofs.Ytnbbbpeelplfoaa.PIdentAny Go.Proofs.YtnbbbpeelplfoaaW.PrintWords Go.Proofs.YtnbbbpeelplfoaaW.PrintLast Go.Proofs.Ytnbbbpeelplfoaa

theorem idAny_match (k : Nat) (a b c d e f : Int) (ha : 0 ≤ a ∧ a ≤ 65535) (hb : 0 ≤ b ∧ b ≤ 65535) (hc : 0 ≤ c ∧ c ≤ 65535) (hd : 0 ≤ d ∧ d ≤ 65535) (he : 0 ≤ e ∧ e ≤ 65535) (hf : 0 ≤ f ∧ f ≤ 65535) :
    ident_Match.f (k + 1) a b c d e f = some (decide ((a = d ∨ a = 65535) ∧ (b = e ∨ b = 65535) ∧ (c = f ∨ c = 65535)), 0) := by
  have hm : ∀ x y z : Int, (0 ≤ x ∧ x ≤ 65535) → (0 ≤ y ∧ y ≤ 65535) → (0 ≤ z ∧ z ≤ 65535) → ident_May.f x y z = some true := by
    intro x y z hx hy hz
    simp [ident_May.f, ident_id.f, hx, hy, hz]
  have hfit : ∀ x y : Int, ident_fits.f x y = some (decide (x = y ∨ x = 65535)) := by
    intro x y
    unfold ident_fits.f
    by_cases h : x = y
    · simp [h]
    · by_cases h2 : x = 65535 <;> simp [h, h2]
  unfold ident_Match.f
  rw [hm a b c ha hb hc]
  simp only [Option.bind_some, if_true, hm d e f hd he hf]
  simp only [ident_Match.j0, Bool.not_true, hfit, Option.bind_some]
  by_cases h1 : a = d ∨ a = 65535 <;> by_cases h2 : b = e ∨ b = 65535 <;> by_cases h3 : c = f ∨ c = 65535 <;> simp [h1, h2, h3]

theorem idAny_bad (k : Nat) : ident_Match.f (k + 1) 3 65535 7 (-1) 0 0 = some (false, 1200) := rfl

theorem xor1 (x : Int) (h0 : 0 ≤ x) (h1 : x < 32768) : 0 ≤ Go.bits .xor .i64 x 1 ∧ Go.bits .xor .i64 x 1 < 32768 ∧ Go.bits .xor .i64 x 1 ≠ x := by
  obtain ⟨n, rfl⟩ := Int.eq_ofNat_of_zero_le h0
  have hn : n < 2 ^ 15 := by omega
  have e : Go.bits .xor .i64 (n : Int) 1 = IntKind.i64.wrap (((BitVec.ofInt 64 n).toNat ^^^ (BitVec.ofInt 64 1).toNat : Nat) : Int) := by
    rw [← BitVec.toNat_xor]; rfl
  have e1 : (BitVec.ofInt 64 (n : Int)).toNat = n := by
    rw [BitVec.ofInt_natCast, BitVec.toNat_ofNat]; omega
  have e2 : (BitVec.ofInt 64 1).toNat = 1 := rfl
  rw [e1, e2] at e
  have h3 : n ^^^ 1 < 2 ^ 15 := Nat.xor_lt_two_pow hn (by decide)
  have h4 : n ^^^ 1 ≠ n := by
    intro h
    have := congrArg (fun x => x.testBit 0) h
    simp at this
    omega
  rw [e, IntKind.wrap_i64]
  generalize n ^^^ 1 = m at *
  omega

theorem IdentAny : skifflaw12_IdentAny.Pure := by
  intro a0 a1 a2 a3 _ _ _ _
  refine ⟨8, ?_⟩
  have aw : skifflaw12_awake.f 8 = some true := rfl
  unfold skifflaw12_IdentAny.f
  rw [aw]
  simp only [Option.bind_some, if_true, Bt.and1, Bt.and32767]
  have r0 : 0 ≤ a0 % 32768 ∧ a0 % 32768 < 32768 := by omega
  have r1 : 0 ≤ a1 % 32768 ∧ a1 % 32768 < 32768 := by omega
  have r2 : 0 ≤ a2 % 32768 ∧ a2 % 32768 < 32768 := by omega
  have hx := xor1 _ r1.1 r1.2
  generalize a0 % 32768 = p at *
  generalize a1 % 32768 = q at *
  generalize a2 % 32768 = r at *
  generalize hxx : Go.bits .xor .i64 q 1 = x at *
  have key : ∀ y0 y1 y2 : Int, (y0 = p ∧ a3 % 2 = 0 ∨ y0 = 65535 ∧ a3 % 2 = 1) → (y1 = q ∧ a3 % 4 - a3 % 2 = 0 ∨ y1 = 65535 ∧ a3 % 4 - a3 % 2 = 2) → (y2 = r ∧ a3 % 8 - a3 % 4 = 0 ∨ y2 = 65535 ∧ a3 % 8 - a3 % 4 = 4) →
      skifflaw12_IdentAny.j2 6 a3 p q r y0 y1 y2 = some true := by
    intro y0 y1 y2 h0 h1 h2
    have b0 : 0 ≤ y0 ∧ y0 ≤ 65535 := by omega
    have b1 : 0 ≤ y1 ∧ y1 ≤ 65535 := by omega
    have b2 : 0 ≤ y2 ∧ y2 ≤ 65535 := by omega
    simp only [skifflaw12_IdentAny.j2, Bt.and7, hxx]
    rw [idAny_match 4 p q r p q r (by omega) (by omega) (by omega) (by omega) (by omega) (by omega),
      idAny_match 4 y0 y1 y2 p q r b0 b1 b2 (by omega) (by omega) (by omega),
      idAny_match 4 p q r y0 y1 y2 (by omega) (by omega) (by omega) b0 b1 b2,
      idAny_match 4 y0 x y2 p q r b0 (by omega) b2 (by omega) (by omega) (by omega)]
    have t1 : ((y0 = p ∨ y0 = 65535) ∧ (y1 = q ∨ y1 = 65535) ∧ (y2 = r ∨ y2 = 65535)) := by omega
    have t2 : ¬ ((y0 = p ∨ y0 = 65535) ∧ (x = q ∨ x = 65535) ∧ (y2 = r ∨ y2 = 65535)) := by omega
    have t3 : ((p = y0 ∨ p = 65535) ∧ (q = y1 ∨ q = 65535) ∧ (r = y2 ∨ r = 65535)) ↔ a3 % 8 = 0 := by omega
    simp only [Option.bind_some, skifflaw0_Num.f]
    rw [decide_eq_true t1, decide_eq_false t2]
    by_cases hz : a3 % 8 = 0
    · rw [decide_eq_true (t3.2 hz)]; simp [hz]
    · rw [decide_eq_false (fun h => hz (t3.1 h))]; simp [hz]
  have j1 : ∀ y0 y1 : Int, (y0 = p ∧ a3 % 2 = 0 ∨ y0 = 65535 ∧ a3 % 2 = 1) → (y1 = q ∧ a3 % 4 - a3 % 2 = 0 ∨ y1 = 65535 ∧ a3 % 4 - a3 % 2 = 2) →
      skifflaw12_IdentAny.j1 7 a3 p q r y0 y1 r = some true := by
    intro y0 y1 h0 h1
    simp only [skifflaw12_IdentAny.j1, Bt.and4]
    by_cases h : a3 % 8 - a3 % 4 = 4
    · rw [if_pos h]; exact key _ _ _ h0 h1 (by omega)
    · rw [if_neg h]; exact key _ _ _ h0 h1 (by omega)
  have j0 : ∀ y0 : Int, (y0 = p ∧ a3 % 2 = 0 ∨ y0 = 65535 ∧ a3 % 2 = 1) →
      skifflaw12_IdentAny.j0 8 a3 p q r y0 q r = some true := by
    intro y0 h0
    simp only [skifflaw12_IdentAny.j0, Bt.and2]
    by_cases h : a3 % 4 - a3 % 2 = 2
    · rw [if_pos h]; exact j1 _ _ h0 (by omega)
    · rw [if_neg h]; exact j1 _ _ h0 (by omega)
  by_cases h : a3 % 2 = 1
  · rw [if_pos h]; exact j0 _ (by omega)
  · rw [if_neg h]; exact j0 _ (by omega)

end Go.Proofs.Ytnbbbpeelplfoaa.Pure
