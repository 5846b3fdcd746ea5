/- Texts laid as one: Nra Nrb Nrc. -/
import Derived.Test.YtccblleobcidfaaGreatGf
import Derived.Test.YtccblleobcidfaaGreatGp
/- Layers 2, 3: the program's flash: mask, with, Worn. -/
section
namespace Go.Proofs.YtccblleobcidfaaGreat.Fl
open Go.RowKit Go.Proofs.YtccblleobcidfaaGreat.Kt Go.Proofs.YtccblleobcidfaaGreat.Lw Go.Proofs.YtccblleobcidfaaGreat.St Go.Proofs.YtccblleobcidfaaGreat.Nm Go.Proofs.YtccblleobcidfaaGreat.By Go.Proofs.YtccblleobcidfaaGreat.En Go.Proofs.YtccblleobcidfaaGreat.Jr Go.Proofs.YtccblleobcidfaaGreat.Ops Go.Proofs.YtccblleobcidfaaGreat.Pl
set_option linter.unusedVariables false
set_option linter.unusedSimpArgs false
/-- a word's byte with its bits from a bit on set. -/
def maskB (w : Int) (k : Nat) : Int := Go.bits .or .u8 w (IntKind.u8.wrap (255 * 2 ^ k))
theorem mask_fin : ∀ k : Fin 8, ∀ w : Fin 256, maskB (w.val : Int) (k.val + 1) = if (w.val : Int) / 2 ^ k.val % 2 = 0 then Go.bits .andNot .u8 (maskB (w.val : Int) k.val) (2 ^ k.val % 256) else maskB (w.val : Int) k.val := by decide +kernel
theorem mask_zero : ∀ w : Fin 256, maskB (w.val : Int) 0 = 255 := by decide +kernel
theorem and_255 : ∀ x : Fin 256, Go.bits .and .u8 (x.val : Int) 255 = (x.val : Int) := by decide +kernel
theorem mask_bd (w : Int) (k : Nat) : 0 ≤ maskB w k ∧ maskB w k < 256 := by
  have e : maskB w k = IntKind.u8.wrap (((BitVec.ofInt 8 w ||| BitVec.ofInt 8 (IntKind.u8.wrap (255 * 2 ^ k))).toNat : Nat) : Int) := rfl
  rw [e]
  simp only [IntKind.wrap_u8]
  omega
theorem and_not {x m t : Int} (hm : 0 ≤ m ∧ m < 256) : Go.bits .and .u8 x (Go.bits .andNot .u8 m t) = Go.bits .andNot .u8 (Go.bits .and .u8 x m) t := by
  have w8 : ∀ b : BitVec 8, BitVec.ofInt 8 (IntKind.u8.wrap ((b.toNat : Nat) : Int)) = b := fun b => by
    have : IntKind.u8.wrap ((b.toNat : Nat) : Int) = (b.toNat : Int) := by
      simp only [IntKind.wrap_u8]
      have := b.isLt
      omega
    rw [this]
    exact BitVec.ofInt_natCast .. ▸ (by simp)
  have e1 : ∀ a b : Int, Go.bits .andNot .u8 a b = IntKind.u8.wrap (((BitVec.ofInt 8 a &&& ~~~ BitVec.ofInt 8 b).toNat : Nat) : Int) := fun a b => rfl
  have e2 : ∀ a b : Int, Go.bits .and .u8 a b = IntKind.u8.wrap (((BitVec.ofInt 8 a &&& BitVec.ofInt 8 b).toNat : Nat) : Int) := fun a b => rfl
  rw [e1 m t, e2 x, w8, e2 x m, e1, w8, BitVec.and_assoc]
theorem mask_clr {x w : Int} (hx : 0 ≤ x ∧ x < 256) (hw : 0 ≤ w ∧ w < 256) : ∀ k : Nat, k ≤ 8 → Go.bits .and .u8 x (maskB w k) = clrN k x w
  | 0, _ => by
    obtain ⟨a, rfl⟩ := Int.eq_ofNat_of_zero_le hx.1
    obtain ⟨b, rfl⟩ := Int.eq_ofNat_of_zero_le hw.1
    rw [mask_zero ⟨b, by omega⟩]
    exact and_255 ⟨a, by omega⟩
  | k + 1, hk => by
    have ih := mask_clr hx hw k (by omega)
    obtain ⟨b, rfl⟩ := Int.eq_ofNat_of_zero_le hw.1
    have hf := mask_fin ⟨k, by omega⟩ ⟨b, by omega⟩
    simp only at hf
    rw [hf]
    show _ = clrB (clrN k x (b : Int)) (b : Int) k
    unfold clrB
    split
    · rw [and_not (mask_bd _ _), ih]
    · exact ih
/-- what a word torn leaves of its bytes. -/
theorem tear_clr2 {b w : Nat → Int} : ∀ n, n ≤ 32 → ∀ j, j < 4 → tearF b w n j = clrN (min 8 (n - 8 * j)) (b j) (w j)
  | 0, _, j, hj => by
    rw [show min 8 (0 - 8 * j) = 0 by omega]
    rfl
  | n + 1, hn, j, hj => by
    have ih := tear_clr2 (b := b) (w := w) n (by omega) j hj
    unfold tearF
    by_cases e : j = n / 8
    · rw [if_pos e, ih, show min 8 (n + 1 - 8 * j) = n % 8 + 1 by omega, show min 8 (n - 8 * j) = n % 8 by omega]
      rfl
    · rw [if_neg e, ih]
      congr 1
      omega
set_option maxHeartbeats 1600000 in
theorem mask_c (b m : Int) (w : World) (hb : 0 ≤ b ∧ b < 256) (hm : -1000 ≤ m ∧ m ≤ 1000) : Calls Tryz.prog 271 #[.int .u8 b, .int .i64 m] w fun e w' => e = .returned (.int .u8 (maskB b (min 8 m.toNat))) ∧ w = w' := by
  have h1 : min (max m 0) 8 = ((min 8 m.toNat : Nat) : Int) := by omega
  have h2 : min 8 m.toNat ≤ 8 := by omega
  generalize min 8 m.toNat = k at *
  go_enter Tryz.func271, Tryz.ntmps271
  go_wp2
  go_ret
  exact ⟨rfl, rfl⟩
theorem with_c (f : ByteArray) (a : Nat) (t : ByteArray) (w : World) (hf : f.size = 768) (ha : a + t.size ≤ 768) : Calls Tryz.prog 270 #[.string f, .int .i64 a, .string t] w fun e w' => e = .returned (.string (f.extract 0 a ++ t ++ f.extract (a + t.size) f.size)) ∧ Below w.heap.size w w' := by
  have HB := Below.refl w.heap.size w
  have s1 : (f.extract 0 a).size = a := by rw [ByteArray.size_extract]; omega
  have s2 : (f.extract 0 a ++ t).size = a + t.size := by rw [ByteArray.size_append, s1]
  have s3 : (f.extract (a + t.size) f.size).size ≤ 768 := by rw [ByteArray.size_extract]; omega
  have h1 : (a : Int) ≤ (f.size : Int) := by omega
  have h2 : a ≤ f.size := by omega
  have h3 : (a : Int) + (t.size : Int) ≤ (f.size : Int) := by omega
  have h4 : a + t.size ≤ f.size := by omega
  clear hf
  have hq1 : (9223372036854775807 < a + t.size) = False := eq_false (by omega)
  have hq2 : (9223372036854775807 < a + t.size + (f.extract (a + t.size) f.size).size) = False := eq_false (by omega)
  go_enter Tryz.func270, Tryz.ntmps270
  go_wp2_with fail
  refine wld_lit (by kernel_rfl) (by kernel_rfl) ?_
  repeat (go_big_quiet_step (fail))
  refine wpQuiet_nil ?_; refine Wld.elim ?_; intro w' hb; have HB := bl_step (w := w) zq0 hb; have hzB := HB.size
  go_wp2_with fail
  go_ret
  exact ⟨rfl, HB⟩
end Go.Proofs.YtccblleobcidfaaGreat.Fl
end
/- Layers 2, 3: the program's flash: Worn, Torn, Cut, Do. -/
section
namespace Go.Proofs.YtccblleobcidfaaGreat.Fl
open Go.RowKit Go.Proofs.YtccblleobcidfaaGreat.Kt Go.Proofs.YtccblleobcidfaaGreat.Lw Go.Proofs.YtccblleobcidfaaGreat.St Go.Proofs.YtccblleobcidfaaGreat.Nm Go.Proofs.YtccblleobcidfaaGreat.By Go.Proofs.YtccblleobcidfaaGreat.En Go.Proofs.YtccblleobcidfaaGreat.Jr Go.Proofs.YtccblleobcidfaaGreat.Ops Go.Proofs.YtccblleobcidfaaGreat.Pl
set_option linter.unusedVariables false
set_option linter.unusedSimpArgs false
set_option maxRecDepth 100000 in
set_option maxHeartbeats 3200000 in
theorem worn_c (f : ByteArray) (s n : Nat) (w : World) (hf : f.size = 768) (hs : s ≤ 7) (hn : n ≤ 96) :
    Calls Tryz.prog 249 #[.string f, .int .i64 s, .int .i64 n] w fun e w' => e = .returned (.tuple #[.string (wornB f s n), .int .i64 0]) ∧ Below w.heap.size w w' := by
  have HB := Below.refl w.heap.size w
  have mm := Lib.hid (fun W : World => may_c f W (by omega))
  rw [decide_eq_true hf] at mm
  have u1 := Lib.hid (fun W : World => sector_c (s : Int) W)
  rw [show rngB (s : Int) 0 7 = true by simp [rngB]; omega] at u1
  have fl := Lib.hid (fun W : World => repeat_c n W (by omega))
  have hz := full_size n
  have wi := Lib.hid (fun W : World => with_c f (s * 96) (fullB n) W hf (by omega))
  rw [hz, show ((s * 96 : Nat) : Int) = (s : Int) * 96 by omega] at wi
  have hv := Lib.hid (show wornB f s n = f.extract 0 (s * 96) ++ fullB n ++ f.extract (s * 96 + n) f.size from rfl)
  clear hf hz
  generalize fullB n = Z at *
  have n0 : decide ((n : Int) < 0) = false := decide_eq_false (by omega)
  have n1 : decide ((96 : Int) < (n : Int)) = false := decide_eq_false (by omega)
  go_enter Tryz.func249, Tryz.ntmps249
  go_wp2_with (first | (go_at_call 76; with_reducible refine (mm.out _).mono ?_; rintro e w' ⟨rfl, rfl⟩) | (go_at_call 234; with_reducible refine (u1.out _).mono ?_; rintro e w' ⟨rfl, rfl⟩) | (go_at_call 79; with_reducible refine (fl.out _).mono ?_; rintro e w' ⟨rfl, hb⟩; have HB := bl_step (w := w) zq0 hb; have hzB := HB.size) | (go_at_call 270; with_reducible refine (wi.out _).mono ?_; rintro e w' ⟨rfl, hb⟩; have HB := bl_step (w := w) zq0 hb; have hzB := HB.size) | fail)
  go_ret2
  exact ⟨by rw [hv.out]; rfl, zq1⟩
set_option maxRecDepth 100000 in
set_option maxHeartbeats 6400000 in
theorem torn_c (f : ByteArray) (a : Nat) (t : ByteArray) (n : Nat) (w : World) (hf : f.size = 768) (ha : a + 4 ≤ 768) (a4 : a % 4 = 0) (ht : t.size = 4) (hn : n ≤ 32) :
    Calls Tryz.prog 250 #[.string f, .int .i64 a, .string t, .int .i64 n] w fun e w' => e = .returned (.tuple #[.string (tornB f a t n), .int .i64 0]) ∧ Below w.heap.size w w' := by
  have HB := Below.refl w.heap.size w
  have mm := Lib.hid (fun W : World => may_c f W (by omega))
  rw [decide_eq_true hf] at mm
  have wa := Lib.hid (fun W : World => begins_c (a : Int) W)
  rw [show bgnB (a : Int) = true by simp [bgnB, rngB]; omega] at wa
  have hex : (f.extract a (a + 4)).size = 4 := by rw [ByteArray.size_extract]; omega
  have r1 := fun W : World => run_bytes W (f.extract a (a + 4))
  rw [hex] at r1
  have h1 : (a : Int) + 4 ≤ (f.size : Int) := by omega
  have h2 : a ≤ f.size := by omega
  have h3 : a + 4 ≤ f.size := by omega
  have HEX := Lib.hid hex
  have HF := Lib.hid hf
  have HT := Lib.hid ht
  have BX := Lib.hid (fun j (hj : j < 4) => byt_ex f a (a + 4) j (by omega) (by omega))
  have wi := Lib.hid (fun W : World => with_c f a (tearB f a t n) W hf (by rw [tear_size]; omega))
  rw [tear_size] at wi
  clear hf ht a4 hex
  have ht4 : ((t.size : Int) != 4) = false := by simp [HT.out]
  have n0 : decide ((n : Int) < 0) = false := decide_eq_false (by omega)
  have n1 : decide ((32 : Int) < (n : Int)) = false := decide_eq_false (by omega)
  go_enter Tryz.func250, Tryz.ntmps250
  go_wp2_with (first | (go_at_call 76; with_reducible refine (mm.out _).mono ?_; rintro e w' ⟨rfl, rfl⟩) | (go_at_call 235; with_reducible refine (wa.out _).mono ?_; rintro e w' ⟨rfl, rfl⟩) | fail)
  generalize f.extract a (a + 4) = X at *
  have hc : Aside (∀ j, j < 4 → ((w.alloc (.cells (bytesRow X (grownCap w 4 0 5)) 5 ((bytesRow X (grownCap w 4 0 5)).size, (bytesRow X (grownCap w 4 0 5)).size + 1))).drew).cell? ⟨w.heap.size, j, none⟩ = some (.int .u8 (if j < 0 then tearF (fun j => byt f (a + j)) (byt t) n j else byt f (a + j)))) := fun j hj => by
    show _ = some (Value.int .u8 (byt f (a + j)))
    rw [← BX.out j hj]
    exact bytes_cell w X _ j _ (by rw [HEX.out]; exact hj)
  have hfr : Aside (∀ j, j < 4 → ((w.alloc (.cells (bytesRow X (grownCap w 4 0 5)) 5 ((bytesRow X (grownCap w 4 0 5)).size, (bytesRow X (grownCap w 4 0 5)).size + 1))).drew).frozen? ⟨w.heap.size, j, none⟩ = false) := fun j hj => bytes_frozen w X _ j (by rw [HEX.out]; exact hj)
  have HB1 : Below w.heap.size w ((w.alloc (.cells (bytesRow X (grownCap w 4 0 5)) 5 ((bytesRow X (grownCap w 4 0 5)).size, (bytesRow X (grownCap w 4 0 5)).size + 1))).drew) := bl_drew (bl_alloc HB _)
  have hlt1 : w.heap.size < ((w.alloc (.cells (bytesRow X (grownCap w 4 0 5)) 5 ((bytesRow X (grownCap w 4 0 5)).size, (bytesRow X (grownCap w 4 0 5)).size + 1))).drew).heap.size := by simp
  generalize (w.alloc (.cells (bytesRow X (grownCap w 4 0 5)) 5 ((bytesRow X (grownCap w 4 0 5)).size, (bytesRow X (grownCap w 4 0 5)).size + 1))).drew = w1 at *
  generalize grownCap w 4 0 5 = cap at *
  clear r1 HB mm wa ht4 n0 n1
  go_loopg [41] 4 (fun gg s41 wr => ∃ i : Nat, i ≤ 4 ∧ 4 - i ≤ gg ∧ s41 = .int .i64 i ∧ Aside (∀ j, j < 4 → wr.cell? ⟨w.heap.size, j, none⟩ = some (.int .u8 (if j < i then tearF (fun j => byt f (a + j)) (byt t) n j else byt f (a + j)))) ∧ Aside (∀ j, j < 4 → wr.frozen? ⟨w.heap.size, j, none⟩ = false) ∧ Aside (Below w.heap.size w wr) ∧ Aside (w.heap.size < wr.heap.size))
  case atStart => exact ⟨0, by omega, by omega, rfl, hc, hfr, HB1, hlt1⟩
  case round =>
    clear hc hfr HB1 hlt1 w1
    obtain ⟨i, hi, hg, rfl, C, FR, BW, BZ⟩ := hrel
    have HB := BW.out
    by_cases hlt : i < 4
    · have q0 : (i : Int) < 4 := by omega
      have hcell := C.out i hlt
      rw [if_neg (Nat.lt_irrefl i)] at hcell
      have hfz := FR.out i hlt
      have hsz := BZ.out
      have w1 : IntKind.i64.wrap (8 * (i : Int)) = 8 * (i : Int) := by simp only [IntKind.wrap_i64]; omega
      have w2 : IntKind.i64.wrap ((n : Int) - 8 * (i : Int)) = (n : Int) - 8 * (i : Int) := by simp only [IntKind.wrap_i64]; omega
      have htl : i < t.size := by have := HT.out; omega
      have e0 := byt_at t i htl
      have hy := byt_bd t i
      have hx := byt_bd f (a + i)
      have mk := Lib.hid (fun W : World => mask_c (byt t i) ((n : Int) - 8 * (i : Int)) W hy (by omega))
      have hk : ((n : Int) - 8 * (i : Int)).toNat = n - 8 * i := by omega
      rw [hk] at mk
      have HV := mask_clr hx hy (min 8 (n - 8 * i)) (by omega)
      rw [← tear_clr2 (b := fun j => byt f (a + j)) (w := byt t) n hn i hlt] at HV
      generalize maskB (byt t i) (min 8 (n - 8 * i)) = mB at *
      generalize byt t i = y at *
      go_wp2_with fail
      go_region_law (first | (go_simp; (go_at_call 271; with_reducible refine (mk.out _).mono ?_; rintro e w' ⟨rfl, rfl⟩)) | fail)
      all_goals (
        go_wp2_with fail
        go_roundg (4 - (i + 1))
        case measure => omega
        case rel =>
          refine ⟨i + 1, by omega, by omega, by go_num, (show Aside _ from fun m hm => ?_), (show Aside _ from fun m hm => ?_), bl_drew (bl_set HB (Nat.le_refl _)), (by show _ < _; simpa using hsz)⟩
          · show (wr.setCell _ _).cell? _ = _
            by_cases e : m = i
            · subst e
              rw [if_pos (by omega)]
              exact World.cell?_setCell_same _ _ _ hcell
            · rw [World.cell?_setCell_other (h := by intro e'; injection e' with _ e' _; omega), C.out m hm]
              by_cases h5 : m < i
              · rw [if_pos h5, if_pos (by omega)]
              · rw [if_neg h5, if_neg (by omega)]
          · show (wr.setCell _ _).frozen? _ = _
            rw [World.frozen?_setCell]
            exact FR.out m hm)
    · obtain rfl : i = 4 := by omega
      have hcell : ∀ j, j < (tearB f a t n).size → wr.cell? ⟨w.heap.size, j, none⟩ = some (.int .u8 (byt (tearB f a t n) j)) := fun j hj => by
        rw [tear_size] at hj
        rw [C.out j hj, if_pos hj, byt_tear f a t n hj]
      have hcv := run_back wr w.heap.size cap (tearB f a t n) 4 (tear_size f a t n).symm hcell
      have hv := Lib.hid (show tornB f a t n = f.extract 0 a ++ tearB f a t n ++ f.extract (a + 4) f.size from rfl)
      clear hcell
      generalize tearB f a t n = T at *
      go_wp2_with (first | (go_at_call 270; with_reducible refine (wi.out _).mono ?_; rintro e w' ⟨rfl, hb⟩; have HB := bl_step (w := w) zq0 hb; have hzB := HB.size) | fail)
      go_ret2
      exact ⟨by rw [hv.out]; rfl, zq1⟩
end Go.Proofs.YtccblleobcidfaaGreat.Fl
end
/- Layer 3: the program's steps of flash: Cut, Do. -/
section
namespace Go.Proofs.YtccblleobcidfaaGreat.Fl
open Go.RowKit Go.Proofs.YtccblleobcidfaaGreat.Kt Go.Proofs.YtccblleobcidfaaGreat.Lw Go.Proofs.YtccblleobcidfaaGreat.St Go.Proofs.YtccblleobcidfaaGreat.Nm Go.Proofs.YtccblleobcidfaaGreat.By Go.Proofs.YtccblleobcidfaaGreat.En Go.Proofs.YtccblleobcidfaaGreat.Jr Go.Proofs.YtccblleobcidfaaGreat.Ops Go.Proofs.YtccblleobcidfaaGreat.Pl
set_option linter.unusedVariables false
set_option linter.unusedSimpArgs false
set_option maxRecDepth 100000 in
set_option maxHeartbeats 6400000 in
theorem cut_c (f : ByteArray) (o : OpV) (k : Nat) (w : World) (hf : f.size = 768) (hm : opMay o = true) (ho : OpOk o) (hk : k ≤ 96) :
    Calls Tryz.prog 193 #[.string f, .agg #[.bool o.1, .int .i64 o.2.1, .string o.2.2], .int .i64 k] w fun e w' => e = .returned (.tuple #[.string (cutB f o k), .int .i64 0]) ∧ Below w.heap.size w w' := by
  have HB := Below.refl w.heap.size w
  have K0 := Blk.new w #[.bool o.1, .int .i64 o.2.1, .string o.2.2] 183
  have mm := Lib.hid (fun W : World => may_c f W (by omega))
  have oo := Lib.hid (fun W : World => opMay_c o W ho)
  rw [decide_eq_true hf] at mm
  rw [hm] at oo
  have n0 : decide ((k : Int) < 0) = false := decide_eq_false (by omega)
  have n1 : decide ((96 : Int) < (k : Int)) = false := decide_eq_false (by omega)
  cases he : o.1
  · obtain ⟨a0, a1, a2, a3⟩ := op_word hm he
    obtain ⟨a, ha⟩ := Int.eq_ofNat_of_zero_le a0
    have hmin : min (k : Int) 32 = ((min k 32 : Nat) : Int) := by omega
    have tt := Lib.hid (fun W : World => torn_c f a o.2.2 (min k 32) W hf (by omega) (by omega) a3 (by omega))
    have hw := Lib.hid (show cutB f o k = tornB f a o.2.2 (min k 32) by simp [cutB, he, ha])
    rw [he] at K0 oo
    rw [ha] at K0 oo
    rw [← hmin] at tt
    rw [ha]
    clear hf hm hmin he a0 a1 a2 a3 ho hk
    go_enter Tryz.func193, Tryz.ntmps193
    go_wp2_with (first | (go_at_call 76; with_reducible refine (mm.out _).mono ?_; rintro e w' ⟨rfl, rfl⟩) | (go_at_call 171; with_reducible refine (oo.out _).mono ?_; rintro e w' ⟨rfl, hb⟩; have HB := bl_step (w := w) zq0 hb; have hzB := HB.size; have K0 := Blk.on zq3 zq30 hb; (try clear cK0_0 cK0_1 cK0_2 fK0 lK0 nK0 mK0); obtain ⟨cK0_0, cK0_1, cK0_2, fK0, lK0, nK0, mK0⟩ := Blk.all3 K0) | (go_at_call 250; with_reducible refine (tt.out _).mono ?_; rintro e w' ⟨rfl, hb⟩; have HB := bl_step (w := w) zq0 hb; have hzB := HB.size; have K0 := Blk.on zq3 zq30 hb; (try clear cK0_0 cK0_1 cK0_2 fK0 lK0 nK0 mK0); obtain ⟨cK0_0, cK0_1, cK0_2, fK0, lK0, nK0, mK0⟩ := Blk.all3 K0) | fail)
    go_ret2
    exact ⟨by rw [hw.out]; rfl, zq1⟩
  · obtain ⟨a0, a1, a2⟩ := op_erase hm he
    obtain ⟨s, hs⟩ : ∃ s : Nat, o.2.1 / 96 = (s : Int) := ⟨(o.2.1 / 96).toNat, by omega⟩
    have tt := Lib.hid (fun W : World => worn_c f s k W hf (by omega) hk)
    have hw := Lib.hid (show cutB f o k = wornB f s k by simp [cutB, he, hs])
    rw [he] at K0 oo
    clear hf hm he a2 ho hk
    generalize o.2.1 = x at *
    go_enter Tryz.func193, Tryz.ntmps193
    go_wp2_with (first | (go_at_call 76; with_reducible refine (mm.out _).mono ?_; rintro e w' ⟨rfl, rfl⟩) | (go_at_call 171; with_reducible refine (oo.out _).mono ?_; rintro e w' ⟨rfl, hb⟩; have HB := bl_step (w := w) zq0 hb; have hzB := HB.size; have K0 := Blk.on zq3 zq30 hb; (try clear cK0_0 cK0_1 cK0_2 fK0 lK0 nK0 mK0); obtain ⟨cK0_0, cK0_1, cK0_2, fK0, lK0, nK0, mK0⟩ := Blk.all3 K0) | (go_at_call 249; with_reducible refine (tt.out _).mono ?_; rintro e w' ⟨rfl, hb⟩; have HB := bl_step (w := w) zq0 hb; have hzB := HB.size; have K0 := Blk.on zq3 zq30 hb; (try clear cK0_0 cK0_1 cK0_2 fK0 lK0 nK0 mK0); obtain ⟨cK0_0, cK0_1, cK0_2, fK0, lK0, nK0, mK0⟩ := Blk.all3 K0) | fail)
    go_ret2
    exact ⟨by rw [hw.out]; rfl, zq1⟩
theorem doo_c (f : ByteArray) (o : OpV) (w : World) (hf : f.size = 768) (hm : opMay o = true) (ho : OpOk o) :
    Calls Tryz.prog 140 #[.string f, .agg #[.bool o.1, .int .i64 o.2.1, .string o.2.2]] w fun e w' => e = .returned (.tuple #[.string (doB f o), .int .i64 0]) ∧ Below w.heap.size w w' := by
  have HB := Below.refl w.heap.size w
  have K0 := Blk.new w #[.bool o.1, .int .i64 o.2.1, .string o.2.2] 183
  have tt := Lib.hid (fun W : World => cut_c f o 96 W hf hm ho (by omega))
  rw [show ((96 : Nat) : Int) = 96 from rfl] at tt
  have hw := Lib.hid (show doB f o = cutB f o 96 from rfl)
  clear hf hm ho
  go_enter Tryz.func140, Tryz.ntmps140
  go_wp2_with (first | (go_at_call 193; with_reducible refine (tt.out _).mono ?_; rintro e w' ⟨rfl, hb⟩; have HB := bl_step (w := w) zq0 hb; have hzB := HB.size; have K0 := Blk.on zq3 zq30 hb; (try clear cK0_0 cK0_1 cK0_2 fK0 lK0 nK0 mK0); obtain ⟨cK0_0, cK0_1, cK0_2, fK0, lK0, nK0, mK0⟩ := Blk.all3 K0) | fail)
  go_ret2
  exact ⟨by rw [hw.out]; rfl, zq1⟩
end Go.Proofs.YtccblleobcidfaaGreat.Fl
end
