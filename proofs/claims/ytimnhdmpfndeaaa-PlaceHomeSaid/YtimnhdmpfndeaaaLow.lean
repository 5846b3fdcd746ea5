/- Numbers in bytes, the lowest first: entry.Low, entry.Num and the references' Low, Of. -/
import Derived.Test.YtimnhdmpfndeaaaKit
namespace Go.Proofs.Ytimnhdmpfndeaaa.Lw
open Go.RowKit Go.Proofs.Ytimnhdmpfndeaaa.Kt
set_option linter.unusedVariables false
set_option linter.unusedSimpArgs false

def lowL (x : Int) (j : Nat) : List Int := (List.range j).map fun i => x / 256 ^ i % 256
theorem lowL_succ (x : Int) (j : Nat) : lowL x (j + 1) = lowL x j ++ [x / 256 ^ j % 256] := by simp [lowL, List.range_succ]
theorem lowL_len (x : Int) (j : Nat) : (lowL x j).length = j := by simp [lowL]
theorem div_succ (x : Int) (j : Nat) : x / 256 ^ j / 256 = x / 256 ^ (j + 1) := by
  rw [Int.pow_succ, Int.ediv_ediv_of_nonneg (by exact Int.pow_nonneg (by decide))]
/-- x in k bytes, the lowest first. -/
def lowB (x : Int) (k : Nat) : ByteArray := strOfNums (lowL x k)
theorem info5 : (Try.prog.info? 5).map (fun i => (i.zero, i.size, i.bytes)) = some (some (.int .u8 0), 1, 1) := by kernel_rfl

theorem own_snoc {W w1 : World} {B : Nat} {v v' : Value} (x : Int) (j : Nat) (hown : w1.ownsRow B 5 1 v' ((lowL x j).length + 1) ((lowL x j).map (Value.int .u8) ++ [.int .u8 (x / 256 ^ j % 256)])) :
    w1.ownsRow B 5 1 v' (lowL x (j + 1)).length ((lowL x (j + 1)).map (Value.int .u8)) := by
  rw [lowL_succ]; simpa using hown

set_option maxHeartbeats 800000 in
theorem low_n (x : Int) (k : Nat) (hk : k ≤ 1000) (w : World) : Calls Try.prog 61 #[.int .i64 x, .int .i64 k] w fun e w' => e = .returned (.string (lowB x k)) ∧ Below w.heap.size w w' := by
  obtain ⟨i0, hi, hz0, hz1, hz2⟩ := info_parts info5
  go_enter Try.func61, Try.ntmps61
  go_wp2
  go_loopw [0, 5, 7] (fun x' v i wr => ∃ j : Nat, j ≤ k ∧ x' = .int .i64 (x / 256 ^ j) ∧ i = .int .i64 j ∧ wr.ownsRow w.heap.size 5 1 v (lowL x j).length ((lowL x j).map (Value.int .u8)) ∧ Below w.heap.size w wr) (fun _ _ i _ => k - (intOf i).toNat)
  case atStart => exact ⟨0, by omega, by simp, rfl, ⟨by simp [lowL], .inl ⟨rfl, by simp [lowL]⟩⟩, Below.refl _ _⟩
  case round =>
    obtain ⟨j, hj, rfl, rfl, hown, hb⟩ := hrel
    have hl := Lib.hid (lowL_len x j)
    have hd := Lib.hid (div_succ x j)
    have HO := Lib.hid hown
    clear hown
    by_cases hlt : j < k
    · go_wp2_with (at_builtin; refine wpList_append_own _ rfl _ _ 93 rfl w.heap.size 5 i0 (.int .u8 0) 1 1 Try.underlying93 hi hz0 hz1 hz2 rfl (by decide) _ _ _ rfl (HO.out.alloc _) ⟨wr.heap.size, 0, none⟩ 1 1 [.int .u8 (x / 256 ^ j % 256)] rfl rfl ?c1 ?c2 ?c3 ?c4 ?c5 ?_)
      case c1 => exact (cell_one_new _ _ _)
      case c2 => intro u hu; obtain rfl := List.mem_singleton.1 hu; rfl
      case c3 => rw [hl.out]; unfold maxLen; omega
      case c4 => rw [hl.out]; omega
      case c5 => simp; exact Nat.le_succ_of_le hb.size
      intro v' w1 hown' hgrow _
      have hb1 := (bl_alloc hb _).grown hgrow (bl_alloc hb _).size (fun q hq => own_base HO.out q hq)
      have hown2 := Lib.hid (own_snoc (W := wr) (v := v') x j hown')
      clear hown' hgrow
      go_wp2
      go_roundw
      case rel => exact ⟨j + 1, by omega, by rw [← hd.out], by go_num, hown2.out, hb1⟩
      case measure => simp [intOf]; omega
    · obtain rfl : j = k := by omega
      have hcv := own_str (P := Try.prog) Try.underlying93 Try.underlying5 Try.underlying9 HO.out
      go_wp2
      go_ret
      exact ⟨rfl, hb⟩

theorem shr_8 (x : Int) (j : Nat) : x / 2 ^ (8 * j) % 256 = x / 256 ^ j % 256 := by rw [Int.pow_mul]; rfl

theorem rlow_set (x : Int) (k j : Nat) (h : j < k) : (lowL x j ++ List.replicate (k - j) 0).set j (x / 256 ^ j % 256) = lowL x (j + 1) ++ List.replicate (k - (j + 1)) 0 := by
  obtain ⟨m, hm⟩ : ∃ m, k - j = m + 1 := ⟨k - j - 1, by omega⟩
  have : k - (j + 1) = m := by omega
  rw [hm, this, lowL_succ, List.set_append_right _ _ (by rw [lowL_len]; omega), lowL_len, Nat.sub_self, List.replicate_succ, List.set_cons_zero]
  simp

set_option maxHeartbeats 800000 in
theorem rlow_n (x : Int) (k : Nat) (hk : k ≤ 8) (w : World) : Calls Try.prog 51 #[.int .i64 x, .int .i64 k] w fun e w' => e = .returned (.string (lowB x k)) ∧ Below w.heap.size w w' := by
  have hmk := make_row (P := Try.prog) 93 5 .u8 1 Try.underlying93 info5 (by decide) k (by omega)
  have hom := Lib.hid (own_made w w.heap.size 5 .u8 k (Nat.le_refl _) (by omega))
  go_enter Try.func51, Try.ntmps51
  go_wp2
  go_loopw [6] (fun i wr => ∃ j : Nat, j ≤ k ∧ i = .int .i64 j ∧ wr.ownsRow w.heap.size 5 1 (.slice (some ⟨w.heap.size, 0, none⟩) k k) k ((lowL x j ++ List.replicate (k - j) 0).map (Value.int .u8)) ∧ Below w.heap.size w wr) (fun i _ => k - (intOf i).toNat)
  case atStart => exact ⟨0, by omega, rfl, by simpa [lowL] using hom.out, (Below.refl _ _).alloc (Nat.le_refl _) _⟩
  case round =>
    obtain ⟨j, hj, rfl, hown, hb⟩ := hrel
    have HO := Lib.hid hown
    clear hown hom hmk
    by_cases hlt : j < k
    · have hat := own_at HO.out j hlt
      obtain ⟨hat1, hat2⟩ := hat
      have hst := Lib.hid (own_store HO.out j (x / 256 ^ j % 256))
      have hse := Lib.hid (rlow_set x k j hlt)
      have hsh := Lib.hid (shr_8 x j)
      go_wp2
      go_roundw
      case rel => exact ⟨j + 1, by omega, by go_num, by rw [← hse.out, hsh.out]; exact hst.out.1, by rw [hsh.out]; exact hb.grown hst.out.2 hb.size (fun q hq => by cases hq; exact Nat.le_refl _)⟩
      case measure => simp [intOf]; omega
    · obtain rfl : j = k := by omega
      have hcv := own_str (P := Try.prog) Try.underlying93 Try.underlying5 Try.underlying9 HO.out
      go_wp2
      go_ret
      exact ⟨by simp [lowB], hb⟩

theorem lowB_size (x : Int) (k : Nat) : (lowB x k).size = k := by simp [lowB, strOfNums, ByteArray.size, lowL]
theorem low_c (x k : Int) (w : World) (h0 : 0 ≤ k) (h1 : k ≤ 1000) : Calls Try.prog 61 #[.int .i64 x, .int .i64 k] w fun e w' => e = .returned (.string (lowB x k.toNat)) ∧ Below w.heap.size w w' := by
  obtain ⟨n, rfl⟩ := Int.eq_ofNat_of_zero_le h0
  exact low_n x n (by omega) w
theorem rlow_c (x k : Int) (w : World) (h0 : 0 ≤ k) (h1 : k ≤ 8) : Calls Try.prog 51 #[.int .i64 x, .int .i64 k] w fun e w' => e = .returned (.string (lowB x k.toNat)) ∧ Below w.heap.size w w' := by
  obtain ⟨n, rfl⟩ := Int.eq_ofNat_of_zero_le h0
  exact rlow_n x n (by omega) w

/-! bytes' number -/
def ofL : List UInt8 → Int
  | [] => 0
  | b :: l => ofL l * 256 + b.toNat
theorem ofL_bd : ∀ (l : List UInt8) (n : Nat), l.length ≤ n → 0 ≤ ofL l ∧ ofL l < 256 ^ n
  | [], n, _ => ⟨Int.le_refl _, Int.pow_pos (by decide)⟩
  | b :: l, n, h => by
    obtain ⟨m, rfl⟩ : ∃ m, n = m + 1 := ⟨n - 1, by simp at h; omega⟩
    have ih := ofL_bd l m (by simpa using h)
    have hb : b.toNat < 256 := b.toNat_lt
    rw [Int.pow_succ]
    simp only [ofL]
    generalize (256 : Int) ^ m = z at *
    omega
theorem drop_byte (s : ByteArray) (q : Nat) (h : q < s.size) : s.data.toList.drop q = s[q] :: s.data.toList.drop (q + 1) :=
  List.drop_eq_getElem_cons (by simpa using h)
theorem or_byte (a b : Int) (h0 : 0 ≤ a) (h1 : a < 16777216) (h2 : 0 ≤ b) (h3 : b < 256) : Go.bits .or .i64 (a * 256) b = a * 256 + b :=
  bits_join .i64 62 (by decide) (fun n k0 k1 => by rw [IntKind.wrap_i64]; omega) 8 _ _ (by omega) (by omega) (by omega) h2 h3 (by omega)

set_option maxHeartbeats 800000 in
theorem num_n (s : ByteArray) (hs : s.size ≤ 4) (w : World) : Calls Try.prog 82 #[.string s] w fun e w' => e = .returned (.int .i64 (ofL s.data.toList)) ∧ w = w' := by
  go_enter Try.func82, Try.ntmps82
  go_wp2
  go_loop [3, 4] (fun o i => ∃ m : Nat, m ≤ s.size ∧ o = .int .i64 (ofL (s.data.toList.drop m)) ∧ ((m = 0 ∧ i = .int .i64 (-1)) ∨ (∃ q : Nat, m = q + 1 ∧ i = .int .i64 q))) (fun _ i => (intOf i + 1).toNat)
  case atStart =>
    refine ⟨s.size, Nat.le_refl _, ?_, ?_⟩
    · rw [List.drop_eq_nil_of_le (by simp)]; rfl
    · by_cases h : s.size = 0
      · left; exact ⟨h, by rw [h]; rfl⟩
      · right; exact ⟨s.size - 1, by omega, by congr 1; omega⟩
  case round =>
    obtain ⟨m, hm, rfl, (⟨rfl, rfl⟩ | ⟨q, rfl, rfl⟩)⟩ := hrel
    · go_wp2
      go_ret
      exact ⟨rfl, rfl⟩
    · have hl : (s.data.toList.drop (q + 1)).length ≤ 3 := by simp; omega
      have hbd := ofL_bd _ 3 hl
      have hd := Lib.hid (drop_byte s q hm)
      have hb : (s[q].toNat : Int) < 256 := by have := s[q].toNat_lt; omega
      have ho := Lib.hid (or_byte _ _ hbd.1 (by simpa using hbd.2) (Int.natCast_nonneg s[q].toNat) hb)
      have hb0 := hbd.1
      have hb1 : ofL (s.data.toList.drop (q + 1)) < 16777216 := by simpa using hbd.2
      have hq : q < s.size := hm
      have hw := Lib.hid (show wrap64 (s[q].toNat : Int) = s[q].toNat by unfold wrap64; omega)
      clear hbd hl hb
      go_wp2
      all_goals
        go_round
        case rel =>
          refine ⟨q, by omega, ?_, ?_⟩
          · rw [hd.out, hw.out, ho.out]; rfl
          · by_cases h : q = 0
            · left; subst h; exact ⟨rfl, rfl⟩
            · right; exact ⟨q - 1, by omega, by congr 1; omega⟩
        case measure => simp [intOf]

set_option maxHeartbeats 800000 in
theorem of_n (s : ByteArray) (hs : s.size ≤ 4) (w : World) : Calls Try.prog 83 #[.string s] w fun e w' => e = .returned (.int .i64 (ofL s.data.toList)) ∧ w = w' := by
  go_enter Try.func83, Try.ntmps83
  go_wp2
  go_loop [3, 4] (fun o i => ∃ m : Nat, m ≤ s.size ∧ o = .int .i64 (ofL (s.data.toList.drop m)) ∧ ((m = 0 ∧ i = .int .i64 (-1)) ∨ (∃ q : Nat, m = q + 1 ∧ i = .int .i64 q))) (fun _ i => (intOf i + 1).toNat)
  case atStart =>
    refine ⟨s.size, Nat.le_refl _, ?_, ?_⟩
    · rw [List.drop_eq_nil_of_le (by simp)]; rfl
    · by_cases h : s.size = 0
      · left; exact ⟨h, by rw [h]; rfl⟩
      · right; exact ⟨s.size - 1, by omega, by congr 1; omega⟩
  case round =>
    obtain ⟨m, hm, rfl, (⟨rfl, rfl⟩ | ⟨q, rfl, rfl⟩)⟩ := hrel
    · go_wp2
      go_ret
      exact ⟨rfl, rfl⟩
    · have hl : (s.data.toList.drop (q + 1)).length ≤ 3 := by simp; omega
      have hbd := ofL_bd _ 3 hl
      have hd := Lib.hid (drop_byte s q hm)
      have hb : (s[q].toNat : Int) < 256 := by have := s[q].toNat_lt; omega
      have ho := Lib.hid (or_byte _ _ hbd.1 (by simpa using hbd.2) (Int.natCast_nonneg s[q].toNat) hb)
      have hb0 := hbd.1
      have hb1 : ofL (s.data.toList.drop (q + 1)) < 16777216 := by simpa using hbd.2
      have hq : q < s.size := hm
      have hw := Lib.hid (show wrap64 (s[q].toNat : Int) = s[q].toNat by unfold wrap64; omega)
      clear hbd hl hb
      go_wp2
      all_goals
        go_round
        case rel =>
          refine ⟨q, by omega, ?_, ?_⟩
          · rw [hd.out, hw.out, ho.out]; rfl
          · by_cases h : q = 0
            · left; subst h; exact ⟨rfl, rfl⟩
            · right; exact ⟨q - 1, by omega, by congr 1; omega⟩
        case measure => simp [intOf]

/-- the number of some bytes, the lowest first. -/
def numB (s : ByteArray) : Int := ofL s.data.toList
theorem num_c (s : ByteArray) (w : World) (hs : s.size ≤ 4) : Calls Try.prog 82 #[.string s] w fun e w' => e = .returned (.int .i64 (numB s)) ∧ w = w' := num_n s hs w
theorem of_c (s : ByteArray) (w : World) (hs : s.size ≤ 4) : Calls Try.prog 83 #[.string s] w fun e w' => e = .returned (.int .i64 (numB s)) ∧ w = w' := of_n s hs w
end Go.Proofs.Ytimnhdmpfndeaaa.Lw
