/- Texts laid as one: Jra Jrb. -/
import Derived.Test.YtccblleobcidfaaGreatGe
import Derived.Test.YtccblleobcidfaaGreatGb
import Derived.Maps.AppendAt
/- Layer 5: records, and where they stand: what the program's and the references' Scan answer. -/
section
namespace Go.Proofs.YtccblleobcidfaaGreat.Jr
open Go.RowKit Go.Proofs.YtccblleobcidfaaGreat.Kt Go.Proofs.YtccblleobcidfaaGreat.Lw Go.Proofs.YtccblleobcidfaaGreat.St Go.Proofs.YtccblleobcidfaaGreat.Nm Go.Proofs.YtccblleobcidfaaGreat.By Go.Proofs.YtccblleobcidfaaGreat.En Go.Proofs.YtccblleobcidfaaGreat.Gr
set_option linter.unusedVariables false
set_option linter.unusedSimpArgs false
/-- a place, and its record. -/
structure PlV where
  at_ : Int
  q : Int
  s : Int
  z : Int
  m : Int
deriving DecidableEq
def encP (p : PlV) : List Value := [.int .i64 p.at_, .int .i64 p.q, .int .i64 p.s, .int .i64 p.z, .int .i64 p.m]
/-- the bytes of a place. -/
def placeB (f : ByteArray) (k : Nat) : ByteArray := f.extract (24 * k) (24 * k + 24)
theorem place_size {f : ByteArray} {k : Nat} (h : 24 * k + 24 ≤ f.size) : (placeB f k).size = 24 := by
  unfold placeB
  rw [ByteArray.size_extract]
  omega
def plOf (f : ByteArray) (k : Nat) : PlV := ⟨24 * (k : Int), nQ (placeB f k), nS (placeB f k), nZ (placeB f k), nM (placeB f k)⟩
/-- the records of the first n places. -/
def scanN (f : ByteArray) : Nat → List PlV
  | 0 => []
  | n + 1 => scanN f n ++ (bif gotB (placeB f n) then [plOf f n] else [])
def scanL (f : ByteArray) : List PlV := scanN f 8
theorem enc_pl (f : ByteArray) (k : Nat) : encP (plOf f k) = [.int .i64 (24 * (k : Int)), .int .i64 (nQ (placeB f k)), .int .i64 (nS (placeB f k)), .int .i64 (nZ (placeB f k)), .int .i64 (nM (placeB f k))] := by simp only [encP, plOf]
theorem scanN_le (f : ByteArray) : ∀ n, (scanN f n).length ≤ n
  | 0 => Nat.le_refl _
  | n + 1 => by
    have := scanN_le f n
    simp only [scanN, List.length_append]
    cases gotB (placeB f n) <;> simp <;> omega
theorem may_c (f : ByteArray) (w : World) (h : f.size ≤ 9223372036854775807) : Calls Tryz.prog 76 #[.string f] w fun e w' => e = .returned (.bool (decide (f.size = 768))) ∧ w = w' := by
  go_enter Tryz.func76, Tryz.ntmps76
  go_wp2
  go_ret
  refine ⟨retB ?_, rfl⟩
  rw [Bool.eq_iff_iff]
  simp
  try omega
theorem rmay_c (f : ByteArray) (w : World) (h : f.size ≤ 9223372036854775807) : Calls Tryz.prog 102 #[.string f] w fun e w' => e = .returned (.bool (decide (f.size = 768))) ∧ w = w' := by
  go_enter Tryz.func102, Tryz.ntmps102
  go_wp2
  go_ret
  refine ⟨retB ?_, rfl⟩
  rw [Bool.eq_iff_iff]
  simp
  try omega
theorem at_c (f : ByteArray) (k : Nat) (w : World) (h : 24 * k + 24 ≤ f.size) (hk : k ≤ 1000) : Calls Tryz.prog 124 #[.string f, .int .i64 (24 * (k : Int))] w fun e w' => e = .returned (.string (placeB f k)) ∧ w = w' := by
  have h1 : 24 * (k : Int) + 24 ≤ (f.size : Int) := by omega
  have h2 : 24 * k ≤ f.size := by omega
  go_enter Tryz.func124, Tryz.ntmps124
  go_wp2
  go_ret
  exact ⟨rfl, rfl⟩
theorem infoP : (Tryz.prog.info? 69).map (fun i => (i.zero, i.size, i.bytes)) = some (some (.agg #[.int .i64 0, .int .i64 0, .int .i64 0, .int .i64 0, .int .i64 0]), 5, 40) := by kernel_rfl
set_option maxHeartbeats 1600000 in
theorem scan_no (f : ByteArray) (w : World) (h : f.size ≤ 9223372036854775807) (hf : ¬ f.size = 768) : Calls Tryz.prog 63 #[.string f] w fun e w' => e = .returned (.tuple #[.slice none 0 0, .int .i64 500]) ∧ w = w' := by
  have mm := Lib.hid (fun W : World => may_c f W h)
  rw [decide_eq_false hf] at mm
  go_enter Tryz.func63, Tryz.ntmps63
  go_wp2_with (first | (go_at_call 76; with_reducible refine (mm.out _).mono ?_; rintro e w' ⟨rfl, rfl⟩) | fail)
  go_ret2
  exact ⟨rfl, rfl⟩
def scanY (f : ByteArray) (w : World) (e : Ending) (w' : World) : Prop := ∃ (A : Option Addr) (c : Nat), e = .returned (.tuple #[.slice A (scanL f).length c, .int .i64 0]) ∧ w'.ownsRow w.heap.size 69 5 (.slice A (scanL f).length c) (scanL f).length ((scanL f).flatMap encP) ∧ Below w.heap.size w w'
theorem got_t {s : ByteArray} (h : gotB s = true) : gotV s = #[.int .i64 (nQ s), .int .i64 (nS s), .int .i64 (nZ s), .int .i64 (nM s)] ∧ gotE s = 0 := by simp [gotV, gotE, h]
theorem got_f {s : ByteArray} (h : gotB s = false) : gotV s = #[.int .i64 0, .int .i64 0, .int .i64 0, .int .i64 0] ∧ gotE s = 400 := by simp [gotV, gotE, h]
theorem scan_t {f : ByteArray} {k : Nat} (h : gotB (placeB f k) = true) : scanN f (k + 1) = scanN f k ++ [plOf f k] := by simp [scanN, h]
theorem scan_f {f : ByteArray} {k : Nat} (h : gotB (placeB f k) = false) : scanN f (k + 1) = scanN f k := by simp [scanN, h]
set_option maxRecDepth 100000 in
set_option maxHeartbeats 6400000 in
theorem scan_yes (f : ByteArray) (w : World) (hf : f.size = 768) : Calls Tryz.prog 63 #[.string f] w (scanY f w) := by
  obtain ⟨i0, hi, hz0, hz1, hz2⟩ := info_parts infoP
  have mm := Lib.hid (fun W : World => may_c f W (by omega))
  rw [decide_eq_true hf] at mm
  have HF := Lib.hid hf
  clear hf
  go_enter Tryz.func63, Tryz.ntmps63
  go_wp2_with (first | (go_at_call 76; with_reducible refine (mm.out _).mono ?_; rintro e w' ⟨rfl, rfl⟩) | fail)
  go_loopg [4, 12] 8 (fun gg s4 s12 wr => ∃ (k n : Nat) (A : Option Addr) (c : Nat), k ≤ 8 ∧ 8 - k ≤ gg ∧ s12 = .int .i64 k ∧ s4 = .slice A n c ∧ n ≤ k ∧ Aside (n = (scanN f k).length) ∧ Aside (wr.ownsRow w.heap.size 69 5 (.slice A n c) n ((scanN f k).flatMap encP)) ∧ Aside (Below w.heap.size w wr))
  case atStart => exact ⟨0, 0, none, 0, by omega, by omega, rfl, rfl, by omega, rfl, World.ownsRow_nil _ _ _ _, Below.refl _ _⟩
  case round =>
    clear mm
    obtain ⟨k, n, A, c, hk, hg, rfl, rfl, hnk, BN, BO, BW⟩ := hrel
    have hown := BO.out
    have HB := BW.out
    have hsize := HB.size
    clear BO BW
    by_cases hlt : k < 8
    · have a1 := Lib.hid (fun W : World => at_c f k W (by have := HF.out; omega) (by omega))
      have g1 := Lib.hid (fun W : World => get_c (placeB f k) W)
      have hkm : (k : Int) * 24 = 24 * (k : Int) := by omega
      cases hgot : gotB (placeB f k)
      · rw [(got_f hgot).1, (got_f hgot).2] at g1
        have hs := Lib.hid (scan_f hgot)
        clear hgot
        go_wp2_with (first | (go_at_call 124; with_reducible refine (a1.out _).mono ?_; rintro e w' ⟨rfl, rfl⟩) | (go_at_call 123; with_reducible refine (g1.out _).mono ?_; rintro e w' ⟨rfl, hb⟩; have HB := bl_step (w := w) zq0 hb; have hzB := HB.size; have K1 := fun cs => Blk.new w' cs 67) | fail)
        go_roundg (8 - (k + 1))
        case measure => omega
        case rel => exact ⟨k + 1, n, A, c, by omega, by omega, by go_num, rfl, by omega, (by show n = _; rw [hs.out]; exact BN.out), (by show World.ownsRow _ _ _ _ _ _ _; rw [hs.out]; exact (own_below hown hb).alloc _), bl_alloc HB _⟩
      · rw [(got_t hgot).1, (got_t hgot).2] at g1
        have hs := Lib.hid (scan_t hgot)
        clear hgot
        go_wp2_with (first | (go_at_call 124; with_reducible refine (a1.out _).mono ?_; rintro e w' ⟨rfl, rfl⟩) | (go_at_call 123; with_reducible refine (g1.out _).mono ?_; rintro e w' ⟨rfl, hb⟩; have HB := bl_step (w := w) zq0 hb; have hzB := HB.size; have K1 := fun cs => Blk.new w' cs 67) | (at_builtin; refine wpList_append_own _ rfl _ _ 90 rfl w.heap.size 69 i0 (.agg #[.int .i64 0, .int .i64 0, .int .i64 0, .int .i64 0, .int .i64 0]) 5 40 Tryz.underlying90 hi hz0 hz1 hz2 rfl (by decide) _ _ _ rfl (((own_below hown hb).alloc _).alloc _) ⟨w'.heap.size + 1, 0, none⟩ 1 1 [.int .i64 (24 * (k : Int)), .int .i64 (nQ (placeB f k)), .int .i64 (nS (placeB f k)), .int .i64 (nZ (placeB f k)), .int .i64 (nM (placeB f k))] rfl rfl (cells_new1 _ _ _ _) (fun x hx => by simp at hx; rcases hx with rfl | rfl | rfl | rfl | rfl <;> rfl) (by unfold maxLen; omega) (by omega) (by have := HB.size; simp; omega) ?_; intro v' w3 hown' hgrow3 hnil3) | fail)
        obtain ⟨⟨g3, cv', rfl, hcv⟩, hb3⟩ := row_stepz (by decide) ((own_below hown hb).alloc _) hown' hgrow3 (bl_alloc HB _)
        have hl : n + 1 = (scanN f (k + 1)).length := by rw [hs.out, List.length_append, ← BN.out]; rfl
        have hfl : (scanN f (k + 1)).flatMap encP = (scanN f k).flatMap encP ++ [.int .i64 (24 * (k : Int)), .int .i64 (nQ (placeB f k)), .int .i64 (nS (placeB f k)), .int .i64 (nZ (placeB f k)), .int .i64 (nM (placeB f k))] := by rw [hs.out, List.flatMap_append, List.flatMap_singleton, enc_pl]
        rw [← hfl] at hown'
        have HL := Lib.hid hl
        clear hl hfl
        go_roundg (8 - (k + 1))
        case measure => omega
        case rel => exact ⟨k + 1, n + 1, _, cv', by omega, by omega, by go_num, rfl, by omega, HL.out, hown', hb3⟩
    · obtain rfl : k = 8 := by omega
      go_wp2_with fail
      go_ret2
      have hn : n = (scanL f).length := BN.out
      exact ⟨A, c, by rw [← hn]; rfl, by rw [← hn]; exact hown, HB⟩
end Go.Proofs.YtccblleobcidfaaGreat.Jr
end
/- Layer 5: the references' Scan. -/
section
namespace Go.Proofs.YtccblleobcidfaaGreat.Jr
open Go.RowKit Go.Proofs.YtccblleobcidfaaGreat.Kt Go.Proofs.YtccblleobcidfaaGreat.Lw Go.Proofs.YtccblleobcidfaaGreat.St Go.Proofs.YtccblleobcidfaaGreat.Nm Go.Proofs.YtccblleobcidfaaGreat.By Go.Proofs.YtccblleobcidfaaGreat.En Go.Proofs.YtccblleobcidfaaGreat.Gr
set_option linter.unusedVariables false
set_option linter.unusedSimpArgs false
theorem vInt {a b : Int} (h : a = b) : Value.int .i64 a = .int .i64 b := by rw [h]
set_option maxHeartbeats 1600000 in
theorem rscan_no (f : ByteArray) (w : World) (h : f.size ≤ 9223372036854775807) (hf : ¬ f.size = 768) : Calls Tryz.prog 112 #[.string f] w fun e w' => e = .returned (.tuple #[.slice none 0 0, .int .i64 500]) ∧ w = w' := by
  have mm := Lib.hid (fun W : World => rmay_c f W h)
  rw [decide_eq_false hf] at mm
  go_enter Tryz.func112, Tryz.ntmps112
  go_wp2_with (first | (go_at_call 102; with_reducible refine (mm.out _).mono ?_; rintro e w' ⟨rfl, rfl⟩) | fail)
  go_ret2
  exact ⟨rfl, rfl⟩
set_option maxRecDepth 100000 in
set_option maxHeartbeats 6400000 in
theorem rscan_yes (f : ByteArray) (w : World) (hf : f.size = 768) : Calls Tryz.prog 112 #[.string f] w (scanY f w) := by
  obtain ⟨i0, hi, hz0, hz1, hz2⟩ := info_parts infoP
  have mm := Lib.hid (fun W : World => rmay_c f W (by omega))
  rw [decide_eq_true hf] at mm
  have HF := Lib.hid hf
  clear hf
  go_enter Tryz.func112, Tryz.ntmps112
  go_wp2_with (first | (go_at_call 102; with_reducible refine (mm.out _).mono ?_; rintro e w' ⟨rfl, rfl⟩) | fail)
  go_loopg [4, 5, 6] 2 (fun gg s4 s5 _ wr => ∃ (s n : Nat) (A : Option Addr) (c : Nat), s ≤ 2 ∧ 2 - s ≤ gg ∧ s5 = .int .i64 s ∧ s4 = .slice A n c ∧ n ≤ 4 * s ∧ Aside (n = (scanN f (4 * s)).length) ∧ Aside (wr.ownsRow w.heap.size 69 5 (.slice A n c) n ((scanN f (4 * s)).flatMap encP)) ∧ Aside (Below w.heap.size w wr))
  case atStart => exact ⟨0, 0, none, 0, by omega, by omega, rfl, rfl, by omega, rfl, World.ownsRow_nil _ _ _ _, Below.refl _ _⟩
  case round =>
    clear mm
    obtain ⟨s, n, A, c, hs2, hgs, rfl, rfl, hns, BN, BO, BW⟩ := hrel
    by_cases hlt : s < 2
    · have hlz : decide ((s : Int) < 2) = true := by simp; omega
      go_wp2_with fail
      go_loopg [4, 6] 4 (fun gg s4 s6 wr => ∃ (k n : Nat) (A : Option Addr) (c : Nat), 4 * s ≤ k ∧ k ≤ 4 * s + 4 ∧ 4 * s + 4 - k ≤ gg ∧ s6 = .int .i64 (24 * (k : Int)) ∧ s4 = .slice A n c ∧ n ≤ k ∧ Aside (n = (scanN f k).length) ∧ Aside (wr.ownsRow w.heap.size 69 5 (.slice A n c) n ((scanN f k).flatMap encP)) ∧ Aside (Below w.heap.size w wr))
      case atStart => exact ⟨4 * s, n, A, c, by omega, by omega, by omega, vInt (by omega), rfl, by omega, BN, BO, BW⟩
      case round =>
        clear BN BO BW hns
        obtain ⟨k, n, A, c, hk0, hk, hg, rfl, rfl, hnk, BN, BO, BW⟩ := hrel
        have hown := BO.out
        have HB := BW.out
        have hsize := HB.size
        clear BO BW
        by_cases hlk : k < 4 * s + 4
        · have hl1 : 24 * (k : Int) + 24 ≤ ((s : Int) + 1) * 96 := by omega
          have h1 : 24 * (k : Int) + 24 ≤ (f.size : Int) := by have := HF.out; omega
          have h2 : 24 * k ≤ f.size := by have := HF.out; omega
          have g1 : Hid (∀ W : World, Calls Tryz.prog 179 #[.string (f.extract (24 * k) (24 * k + 24))] W fun e w' => e = .returned (.tuple #[.agg (gotV (placeB f k)), .int .i64 (gotE (placeB f k))]) ∧ Below W.heap.size W w') := Lib.hid (fun W : World => rget_c (placeB f k) W)
          cases hgot : gotB (placeB f k)
          · rw [(got_f hgot).1, (got_f hgot).2] at g1
            have hs := Lib.hid (scan_f hgot)
            clear hgot
            go_wp2_with (first | (go_at_call 179; with_reducible refine (g1.out _).mono ?_; rintro e w' ⟨rfl, hb⟩; have HB := bl_step (w := w) zq0 hb; have hzB := HB.size; have K1 := fun cs => Blk.new w' cs 67) | fail)
            go_roundg (4 * s + 4 - (k + 1))
            case measure => omega
            case rel => exact ⟨k + 1, n, A, c, by omega, by omega, by omega, (by show Value.int .i64 (24 * (k : Int) + 24) = _; exact vInt (by omega)), rfl, by omega, (by show n = _; rw [hs.out]; exact BN.out), (by show World.ownsRow _ _ _ _ _ _ _; rw [hs.out]; exact (own_below hown hb).alloc _), bl_alloc HB _⟩
          · rw [(got_t hgot).1, (got_t hgot).2] at g1
            have hs := Lib.hid (scan_t hgot)
            clear hgot
            go_wp2_with (first | (go_at_call 179; with_reducible refine (g1.out _).mono ?_; rintro e w' ⟨rfl, hb⟩; have HB := bl_step (w := w) zq0 hb; have hzB := HB.size; have K1 := fun cs => Blk.new w' cs 67) | (at_builtin; refine wpList_append_own _ rfl _ _ 90 rfl w.heap.size 69 i0 (.agg #[.int .i64 0, .int .i64 0, .int .i64 0, .int .i64 0, .int .i64 0]) 5 40 Tryz.underlying90 hi hz0 hz1 hz2 rfl (by decide) _ _ _ rfl (((own_below hown hb).alloc _).alloc _) ⟨w'.heap.size + 1, 0, none⟩ 1 1 [.int .i64 (24 * (k : Int)), .int .i64 (nQ (placeB f k)), .int .i64 (nS (placeB f k)), .int .i64 (nZ (placeB f k)), .int .i64 (nM (placeB f k))] rfl rfl (cells_new1 _ _ _ _) (fun x hx => by simp at hx; rcases hx with rfl | rfl | rfl | rfl | rfl <;> rfl) (by unfold maxLen; omega) (by omega) (by have := HB.size; simp; omega) ?_; intro v' w3 hown' hgrow3 hnil3) | fail)
            obtain ⟨⟨g3, cv', rfl, hcv⟩, hb3⟩ := row_stepz (by decide) ((own_below hown hb).alloc _) hown' hgrow3 (bl_alloc HB _)
            have hl : n + 1 = (scanN f (k + 1)).length := by rw [hs.out, List.length_append, ← BN.out]; rfl
            have hfl : (scanN f (k + 1)).flatMap encP = (scanN f k).flatMap encP ++ [.int .i64 (24 * (k : Int)), .int .i64 (nQ (placeB f k)), .int .i64 (nS (placeB f k)), .int .i64 (nZ (placeB f k)), .int .i64 (nM (placeB f k))] := by rw [hs.out, List.flatMap_append, List.flatMap_singleton, enc_pl]
            rw [← hfl] at hown'
            have HL := Lib.hid hl
            clear hl hfl
            go_roundg (4 * s + 4 - (k + 1))
            case measure => omega
            case rel => exact ⟨k + 1, n + 1, _, cv', by omega, by omega, by omega, (by show Value.int .i64 (24 * (k : Int) + 24) = _; exact vInt (by omega)), rfl, by omega, HL.out, hown', hb3⟩
        · obtain rfl : k = 4 * s + 4 := by omega
          have hl1 : ((s : Int) + 1) * 96 < 24 * ((4 * s + 4 : Nat) : Int) + 24 := by omega
          go_wp2_with fail
          go_roundg (2 - (s + 1))
          case measure => omega
          case rel => exact ⟨s + 1, n, A, c, by omega, by omega, by go_num, rfl, by omega, (by show n = _; exact BN.out), (by show World.ownsRow _ _ _ _ _ _ _; exact hown), HB⟩
    · obtain rfl : s = 2 := by omega
      have hn : n = (scanL f).length := BN.out
      have hown := BO.out
      have HB := BW.out
      clear BO BW
      go_wp2_with fail
      go_ret2
      exact ⟨A, c, by rw [← hn]; rfl, by rw [← hn]; exact hown, HB⟩
end Go.Proofs.YtccblleobcidfaaGreat.Jr
end
