/- Texts laid as one: Ena Enb Enc Ene Eng. -/
import Derived.Test.YtccblleobcidfaaGreatGb
import Derived.Deep.LoopGhost
import Derived.Deep.Draws
import Derived.Laws.CopyRow
import Derived.Laws.AppendOwn
/- Layer 4: records' bytes: the complement of a text; whether a record may be: what the program's and the references' functions answer. -/
section
namespace Go.Proofs.YtccblleobcidfaaGreat.En
open Go.RowKit Go.Proofs.YtccblleobcidfaaGreat.Kt Go.Proofs.YtccblleobcidfaaGreat.Lw Go.Proofs.YtccblleobcidfaaGreat.St Go.Proofs.YtccblleobcidfaaGreat.Nm Go.Proofs.YtccblleobcidfaaGreat.By
set_option linter.unusedVariables false
set_option linter.unusedSimpArgs false
theorem retB {a b : Bool} (h : a = b) : Ending.returned (.bool a) = Ending.returned (.bool b) := by rw [h]
/-- each byte's complement. -/
def compB (s : ByteArray) : ByteArray := ⟨(s.data.toList.map fun b => 255 - b).toArray⟩
theorem comp_size (s : ByteArray) : (compB s).size = s.size := by
  show (s.data.toList.map fun b => 255 - b).toArray.size = s.data.size
  simp
theorem sub255 (b : UInt8) : ((255 - b).toNat : Int) = 255 - (b.toNat : Int) := by
  have h : b ≤ 255 := by
    rw [UInt8.le_iff_toNat_le]
    have := b.toNat_lt
    show b.toNat ≤ 255
    omega
  rw [UInt8.toNat_sub_of_le _ _ h]
  have := b.toNat_lt
  show ((255 - b.toNat : Nat) : Int) = _
  omega
theorem byt_comp (s : ByteArray) {j : Nat} (h : j < s.size) : byt (compB s) j = 255 - byt s j := by
  have hj : j < s.data.toList.length := by simpa using h
  unfold byt compB
  simp only [List.getD_eq_getElem?_getD, List.getElem?_map, List.getElem?_eq_getElem hj, Option.map_some, Option.getD_some]
  exact sub255 _
theorem com8 {z : Int} (h0 : 0 ≤ z) (h1 : z < 256) : Go.bits .xor .u8 IntKind.u8.max z = 255 - z := by
  obtain ⟨a, rfl⟩ := Int.eq_ofNat_of_zero_le h0
  have e1 : (BitVec.ofInt 8 IntKind.u8.max) = BitVec.allOnes 8 := by decide
  have e2 : (BitVec.ofInt 8 (a : Int)).toNat = a := by simp; omega
  have e : Go.bits .xor .u8 IntKind.u8.max (a : Int) = IntKind.u8.wrap (((BitVec.ofInt 8 IntKind.u8.max ^^^ BitVec.ofInt 8 (a : Int)).toNat : Nat) : Int) := rfl
  rw [e, e1, BitVec.allOnes_xor, BitVec.toNat_not, e2]
  simp only [IntKind.wrap_u8]
  omega
def comV (s : ByteArray) (k j : Nat) : Int := if j < k then 255 - byt s j else byt s j
theorem comV_done (s : ByteArray) {j : Nat} (h : j < s.size) : comV s s.size j = byt (compB s) j := by
  rw [byt_comp s h]
  simp [comV, h]
set_option maxHeartbeats 1600000 in
theorem comp_c (s : ByteArray) (w : World) (hs : s.size ≤ 9223372036854775807) : Calls Tryz.prog 181 #[.string s] w fun e w' => e = .returned (.string (compB s)) ∧ Below w.heap.size w w' := by
  have r1 := fun W : World => run_bytes W s
  go_enter Tryz.func181, Tryz.ntmps181
  go_wp2
  have hc : Aside (∀ j, j < s.size → ((w.alloc (.cells (bytesRow s (grownCap w s.size 0 5)) 5 ((bytesRow s (grownCap w s.size 0 5)).size, (bytesRow s (grownCap w s.size 0 5)).size + 1))).drew).cell? ⟨w.heap.size, j, none⟩ = some (.int .u8 (comV s 0 j))) := fun j hj => by
    simp only [comV, Nat.not_lt_zero, if_false]
    exact bytes_cell w s _ j _ hj
  have hf : Aside (∀ j, j < s.size → ((w.alloc (.cells (bytesRow s (grownCap w s.size 0 5)) 5 ((bytesRow s (grownCap w s.size 0 5)).size, (bytesRow s (grownCap w s.size 0 5)).size + 1))).drew).frozen? ⟨w.heap.size, j, none⟩ = false) := fun j hj => bytes_frozen w s _ j hj
  have HB : Below w.heap.size w ((w.alloc (.cells (bytesRow s (grownCap w s.size 0 5)) 5 ((bytesRow s (grownCap w s.size 0 5)).size, (bytesRow s (grownCap w s.size 0 5)).size + 1))).drew) := bl_drew (bl_alloc (Below.refl _ _) _)
  generalize (w.alloc (.cells (bytesRow s (grownCap w s.size 0 5)) 5 ((bytesRow s (grownCap w s.size 0 5)).size, (bytesRow s (grownCap w s.size 0 5)).size + 1))).drew = w1 at *
  generalize grownCap w s.size 0 5 = cap at *
  clear r1
  go_loopg [4, 9] s.size (fun gg _ s9 wr => ∃ k : Nat, k ≤ s.size ∧ s.size - k ≤ gg ∧ s9 = .int .i64 k ∧ Aside (∀ j, j < s.size → wr.cell? ⟨w.heap.size, j, none⟩ = some (.int .u8 (comV s k j))) ∧ Aside (∀ j, j < s.size → wr.frozen? ⟨w.heap.size, j, none⟩ = false) ∧ Aside (Below w.heap.size w wr))
  case atStart => exact ⟨0, by omega, by omega, rfl, hc, hf, HB⟩
  case round =>
    clear hc hf HB w1
    obtain ⟨k, hk, hg, rfl, C, F, BW⟩ := hrel
    by_cases hlt : k < s.size
    · have hcell := C.out k hlt
      have hfr := F.out k hlt
      have hy := byt_bd s k
      have hcx := com8 hy.1 hy.2
      simp only [comV, Nat.lt_irrefl, if_false] at hcell
      have hv := Lib.hid (show comV s (k + 1) k = 255 - byt s k by simp [comV])
      have hko : Aside (∀ j, j ≠ k → comV s (k + 1) j = comV s k j) := fun j hj => by
        simp only [comV]
        by_cases h : j < k
        · rw [if_pos (by omega), if_pos h]
        · rw [if_neg (by omega), if_neg h]
      generalize byt s k = y at *
      have hcell2 := hcell
      go_wp2
      go_roundg (s.size - (k + 1))
      case measure => omega
      case rel =>
        refine ⟨k + 1, by omega, by omega, by go_num, (show Aside _ from fun j hj => ?_), (show Aside _ from fun j hj => ?_), (show Below _ _ _ from bl_set BW.out (Nat.le_refl _))⟩
        · by_cases e : j = k
          · subst e
            rw [hv.out]
            exact World.cell?_setCell_same _ _ _ hcell2
          · rw [World.cell?_setCell_other (h := by intro e'; injection e' with _ e' _; omega), hko.out j e]
            exact C.out j hj
        · rw [World.frozen?_setCell]
          exact F.out j hj
    · obtain rfl : k = s.size := by omega
      have hcv := run_back wr w.heap.size cap (compB s) s.size (comp_size s).symm (fun j hj => by
        rw [comp_size] at hj
        rw [C.out j hj, comV_done s hj])
      go_wp2
      go_ret
      exact ⟨rfl, BW.out⟩
/-- may a record be? -/
def recMay (q s z m : Int) : Bool := rngB q 1 1048576 && (rngB s 0 1 && (rngB z 1 288 && rngB m 0 4294967295))
theorem in_c (x l m : Int) (w : World) : Calls Tryz.prog 152 #[.int .i64 x, .int .i64 l, .int .i64 m] w fun e w' => e = .returned (.bool (rngB x l m)) ∧ w = w' := by
  go_enter Tryz.func152, Tryz.ntmps152
  go_wp2
  all_goals (go_ret; refine ⟨retB ?_, rfl⟩; rw [Bool.eq_iff_iff]; simp [rngB] <;> omega)
theorem size_c (x : Int) (w : World) : Calls Tryz.prog 80 #[.int .i64 x] w fun e w' => e = .returned (.bool (rngB x 1 288)) ∧ w = w' := by
  go_enter Tryz.func80, Tryz.ntmps80
  go_wp2_with (first | (go_at_call 152; refine (in_c _ _ _ _).mono ?_; rintro e w' ⟨rfl, rfl⟩) | fail)
  go_ret
  exact ⟨by simp, rfl⟩
theorem slot_c (x : Int) (w : World) : Calls Tryz.prog 174 #[.int .i64 x] w fun e w' => e = .returned (.bool (rngB x 0 1)) ∧ w = w' := by
  go_enter Tryz.func174, Tryz.ntmps174
  go_wp2_with (first | (go_at_call 152; refine (in_c _ _ _ _).mono ?_; rintro e w' ⟨rfl, rfl⟩) | fail)
  go_ret
  exact ⟨by simp, rfl⟩
set_option maxHeartbeats 1600000 in
theorem recMay_c (q s z m : Int) (w : World) : Calls Tryz.prog 159 #[.agg #[.int .i64 q, .int .i64 s, .int .i64 z, .int .i64 m]] w fun e w' => e = .returned (.bool (recMay q s z m)) ∧ Below w.heap.size w w' := by
  have HB := Below.refl w.heap.size w
  have K0 := Blk.new w #[.int .i64 q, .int .i64 s, .int .i64 z, .int .i64 m] 67
  go_enter Tryz.func159, Tryz.ntmps159
  go_wp2_with (first | (go_at_call 152; refine (in_c _ _ _ _).mono ?_; rintro e w' ⟨rfl, rfl⟩) | (go_at_call 80; refine (size_c _ _).mono ?_; rintro e w' ⟨rfl, rfl⟩) | (go_at_call 174; refine (slot_c _ _).mono ?_; rintro e w' ⟨rfl, rfl⟩) | fail)
  all_goals (go_ret; refine ⟨retB ?_, zq1⟩; simp_all [recMay])
set_option maxHeartbeats 1600000 in
theorem rrecMay_c (q s z m : Int) (w : World) : Calls Tryz.prog 114 #[.agg #[.int .i64 q, .int .i64 s, .int .i64 z, .int .i64 m]] w fun e w' => e = .returned (.bool (recMay q s z m)) ∧ Below w.heap.size w w' := by
  have HB := Below.refl w.heap.size w
  have K0 := Blk.new w #[.int .i64 q, .int .i64 s, .int .i64 z, .int .i64 m] 67
  go_enter Tryz.func114, Tryz.ntmps114
  go_wp2_with (first | (go_at_call 109; refine (upTo_c _ _ _ _).mono ?_; rintro e w' ⟨rfl, rfl⟩) | fail)
  all_goals (go_ret; refine ⟨retB ?_, zq1⟩; simp_all [recMay])
end Go.Proofs.YtccblleobcidfaaGreat.En
end
/- Layer 4: a record's bytes: what the program's and the references' functions answer. -/
section
namespace Go.Proofs.YtccblleobcidfaaGreat.En
open Go.RowKit Go.Proofs.YtccblleobcidfaaGreat.Kt Go.Proofs.YtccblleobcidfaaGreat.Lw Go.Proofs.YtccblleobcidfaaGreat.St Go.Proofs.YtccblleobcidfaaGreat.Nm Go.Proofs.YtccblleobcidfaaGreat.By
set_option linter.unusedVariables false
set_option linter.unusedSimpArgs false
/-- a record's first half, its whole. -/
def halfB (q s z m : Int) : ByteArray := lowB q 4 ++ lowB s 2 ++ lowB z 2 ++ lowB m 4
def wholeB (q s z m : Int) : ByteArray := halfB q s z m ++ compB (halfB q s z m)
theorem half_size (q s z m : Int) : (halfB q s z m).size = 12 := by simp [halfB, ByteArray.size_append, lowB_size]
theorem whole_size (q s z m : Int) : (wholeB q s z m).size = 24 := by simp [wholeB, ByteArray.size_append, comp_size, half_size]
def putB (q s z m : Int) : ByteArray := bif recMay q s z m then wholeB q s z m else ⟨#[]⟩
def putE (q s z m : Int) : Int := bif recMay q s z m then 0 else 400
set_option maxRecDepth 100000 in
set_option maxHeartbeats 3200000 in
theorem put_c (q s z m : Int) (w : World) : Calls Tryz.prog 245 #[.agg #[.int .i64 q, .int .i64 s, .int .i64 z, .int .i64 m]] w fun e w' => e = .returned (.tuple #[.string (putB q s z m), .int .i64 (putE q s z m)]) ∧ Below w.heap.size w w' := by
  have HB := Below.refl w.heap.size w
  have K0 := Blk.new w #[.int .i64 q, .int .i64 s, .int .i64 z, .int .i64 m] 67
  have mm := Lib.hid (fun W : World => recMay_c q s z m W)
  cases hm : recMay q s z m
  · rw [hm] at mm
    have hv : putB q s z m = ⟨#[]⟩ ∧ putE q s z m = 400 := by simp [putB, putE, hm]
    rw [hv.1, hv.2]
    clear hm hv
    go_enter Tryz.func245, Tryz.ntmps245
    go_wp2_with (first | (go_at_call 159; with_reducible refine (mm.out _).mono ?_; rintro e w' ⟨rfl, hb⟩; have HB := bl_step (w := w) zq0 hb; have hzB := HB.size; have K0 := Blk.on zq3 zq14 hb; (try clear cK0_0 cK0_1 cK0_2 cK0_3 fK0 lK0 nK0 mK0); obtain ⟨cK0_0, cK0_1, cK0_2, cK0_3, fK0, lK0, nK0, mK0⟩ := Blk.all4 K0) | fail)
    go_ret2
    exact ⟨rfl, zq1⟩
  · rw [hm] at mm
    have hv : putB q s z m = wholeB q s z m ∧ putE q s z m = 0 := by simp [putB, putE, hm]
    rw [hv.1, hv.2]
    clear hm hv
    have z1 := lowB_size q 4
    have z2 := lowB_size s 2
    have z3 := lowB_size z 2
    have z4 := lowB_size m 4
    have z5 := Lib.hid (half_size q s z m)
    have l1 := Lib.hid (fun W : World => low_c q 4 W (by decide) (by decide))
    have l2 := Lib.hid (fun W : World => low_c s 2 W (by decide) (by decide))
    have l3 := Lib.hid (fun W : World => low_c z 2 W (by decide) (by decide))
    have l4 := Lib.hid (fun W : World => low_c m 4 W (by decide) (by decide))
    have e1 : Int.toNat 4 = 4 := rfl
    have e2 : Int.toNat 2 = 2 := rfl
    rw [e1] at l1 l4
    rw [e2] at l2 l3
    clear e1 e2
    have hh : lowB q 4 ++ lowB s 2 ++ lowB z 2 ++ lowB m 4 = halfB q s z m := rfl
    have hw := Lib.hid (show halfB q s z m ++ compB (halfB q s z m) = wholeB q s z m from rfl)
    have z6 := comp_size (halfB q s z m)
    rw [half_size] at z6
    have z7 := half_size q s z m
    generalize lowB q 4 = L1 at *
    generalize lowB s 2 = L2 at *
    generalize lowB z 2 = L3 at *
    generalize lowB m 4 = L4 at *
    generalize halfB q s z m = H at *
    generalize wholeB q s z m = WW at *
    have hs1 : (L1 ++ L2).size = 6 := by rw [ByteArray.size_append]; omega
    have hs2 : (L1 ++ L2 ++ L3).size = 8 := by rw [ByteArray.size_append]; omega
    go_enter Tryz.func245, Tryz.ntmps245
    go_upto_region 3 with (first | (go_at_call 159; with_reducible refine (mm.out _).mono ?_; rintro e w' ⟨rfl, hb⟩; have HB := bl_step (w := w) zq0 hb; have hzB := HB.size; have K0 := Blk.on zq3 zq14 hb; (try clear cK0_0 cK0_1 cK0_2 cK0_3 fK0 lK0 nK0 mK0); obtain ⟨cK0_0, cK0_1, cK0_2, cK0_3, fK0, lK0, nK0, mK0⟩ := Blk.all4 K0) | fail)
    have qK0_0 := fun s : Wld _ => Wld.cell cK0_0 s; have qK0_1 := fun s : Wld _ => Wld.cell cK0_1 s; have qK0_2 := fun s : Wld _ => Wld.cell cK0_2 s; have qK0_3 := fun s : Wld _ => Wld.cell cK0_3 s
    refine wld_lit (by kernel_rfl) (by kernel_rfl) ?_
    repeat (go_big_quiet_step (first | (go_at_call 129; first | (with_reducible exact Wld.call (l1.out _)) | (with_reducible exact Wld.call (l2.out _)) | (with_reducible exact Wld.call (l3.out _)) | (with_reducible exact Wld.call (l4.out _)) | fail) | fail))
    refine wpQuiet_nil ?_; refine Wld.elim ?_; intro w' hb; clear qK0_0 qK0_1 qK0_2 qK0_3; have HB := bl_step (w := w) zq0 hb; have hzB := HB.size; have K0 := Blk.on zq3 zq14 hb; (try clear cK0_0 cK0_1 cK0_2 cK0_3 fK0 lK0 nK0 mK0); obtain ⟨cK0_0, cK0_1, cK0_2, cK0_3, fK0, lK0, nK0, mK0⟩ := Blk.all4 K0
    have q3 : (9223372036854775807 < H.size + (compB H).size) = False := by rw [z6, z7]; simp
    go_wp2_with (first | (go_at_call 181; with_reducible refine (comp_c H _ (by rw [z7]; decide)).mono ?_; rintro e w' ⟨rfl, hb⟩; have HB := bl_step (w := w) zq0 hb; have hzB := HB.size) | fail)
    go_ret2
    exact ⟨by rw [hw.out]; rfl, zq1⟩
/-! an append of one byte onto a row of one's own that may be a string's bytes -/
section
variable {P : Program}
def BRow (w : World) (base g n cap : Nat) (xs : List Int) : Prop :=
  base ≤ g ∧ g < w.heap.size ∧ xs.length = n ∧ n ≤ cap ∧ (∀ j, j < cap → (∃ v, w.cell? ⟨g, j, none⟩ = some v) ∧ w.frozen? ⟨g, j, none⟩ = false) ∧ ∀ j x, xs[j]? = some x → w.cell? ⟨g, j, none⟩ = some (.int .u8 x)
theorem BRow.below {w w' : World} {base g n cap : Nat} {xs : List Int} (h : BRow w base g n cap xs) (hb : Below w.heap.size w w') : BRow w' base g n cap xs := by
  obtain ⟨h1, h2, h3, h4, h5, h6⟩ := h
  refine ⟨h1, Nat.lt_of_lt_of_le h2 hb.size, h3, h4, fun j hj => ?_, fun j x hx => ?_⟩
  · rw [hb.cell (p := ⟨g, j, none⟩) h2, hb.frozen (p := ⟨g, j, none⟩) h2]
    exact h5 j hj
  · rw [hb.cell (p := ⟨g, j, none⟩) h2]
    exact h6 j x hx
theorem run_append_one (w : World) (base : Nat) (t ty e : TypeId) (i : TypeInfo) (ht : P.underlying t = some (.slice e)) (hi : P.info? e = some i) (hz : i.zero = some (.int .u8 0)) (hsize : i.size = 1) (hby : i.bytes = 1)
    (g n cap : Nat) (xs : List Int) (hr : BRow w base g n cap xs) (ad : Addr) (c : Nat) (x : Int) (hx : w.cell? (ad.add 0) = some (.int .u8 x)) (hn : n ≤ 1000000) (hbase : base ≤ w.heap.size) :
    ∃ g' cap' w', (Builtin.append_ #[t, t] ty #[.slice (some ⟨g, 0, none⟩) n cap, .slice (some ad) 1 c]).run P w = .ok (.slice (some ⟨g', 0, none⟩) (n + 1) cap') w' ∧ BRow w' base g' (n + 1) cap' (xs ++ [x]) ∧ w.grownBy w' (some g) := by
  obtain ⟨h1, h2, h3, h4, h5, h6⟩ := hr
  have hnews : ∀ j u, [Value.int .u8 x][j]? = some u → w.cell? (ad.add j) = some u := by
    intro j u hj
    rcases j with _ | j
    · simp at hj; subst hj; exact hx
    · simp at hj
  by_cases hroom : n + 1 ≤ cap
  · obtain ⟨⟨v0, hv0⟩, hf0⟩ := h5 n (by omega)
    have hf := run_firstCells_some (P := P) w i.size 1 ad 1 c [.int .u8 x] (by rw [hsize]; rfl) hnews
    rw [hsize] at hf
    have hst : (store ⟨g, n, none⟩ (.int .u8 x)).run P w = .ok () (w.setCell ⟨g, n, none⟩ (.int .u8 x)) := by
      rw [run_store P w _ _ _ rfl, hv0]
      simp [hf0]
    refine ⟨g, cap, w.setCell ⟨g, n, none⟩ (.int .u8 x), ?_, ⟨h1, by simpa using h2, by simp [h3], hroom, fun j hj => ?_, fun j y hy => ?_⟩, ⟨rfl, rfl, rfl, by simp, fun k hk hr => Below.heap_setCell _ _ _ _ (fun e => hr (by rw [e]))⟩⟩
    · have ha : (⟨g, 0, none⟩ : Addr).add n = ⟨g, n, none⟩ := add_plain g n
      have ha2 : (⟨g, n, none⟩ : Addr).add 0 = ⟨g, n, none⟩ := by unfold Addr.add; split <;> simp_all
      simp [Builtin.append_, run_underlying ht, sizeOf, typeInfo, hi, Builtin.lenOf, hroom, hf, hsize, storeCells, ha, ha2, hst]
    · by_cases e : j = n
      · subst e
        exact ⟨⟨_, World.cell?_setCell_same _ _ _ hv0⟩, by rw [World.frozen?_setCell]; exact hf0⟩
      · rw [World.cell?_setCell_other (h := by intro e'; injection e' with _ e' _; omega), World.frozen?_setCell]
        exact h5 j hj
    · by_cases e : j = n
      · subst e
        rw [List.getElem?_append_right (by omega), h3, Nat.sub_self] at hy
        simp at hy
        subst hy
        exact World.cell?_setCell_same _ _ _ hv0
      · rw [World.cell?_setCell_other (h := by intro e'; injection e' with _ e' _; omega)]
        refine h6 j y ?_
        have hlt : j < (xs ++ [x]).length := (List.getElem?_eq_some_iff.1 hy).1
        rw [List.length_append, h3] at hlt
        simp at hlt
        rwa [List.getElem?_append_left (by omega)] at hy
  · have hlo : (xs.map (Value.int .u8)).length = n * i.size := by rw [List.length_map, h3, hsize, Nat.mul_one]
    have holds : ∀ j v, (xs.map (Value.int .u8))[j]? = some v → w.cell? ((⟨g, 0, none⟩ : Addr).add j) = some v := by
      intro j v hj
      rw [add_plain]
      rw [List.getElem?_map] at hj
      cases hq : xs[j]? with
      | none => rw [hq] at hj; cases hj
      | some y =>
        rw [hq] at hj
        obtain rfl := Option.some.inj hj
        exact h6 j y hq
    have hgr := run_append_grow (P := P) w t ty e i (.int .u8 0) ht hi hz ⟨g, 0, none⟩ n cap (xs.map (Value.int .u8)) hlo holds ad 1 c [.int .u8 x] (by rw [hsize]; rfl) hnews (by omega) (by omega) (growslice_fits (by omega) (by rw [hby]; omega))
    have hge := grownCap_ge w (n + 1) cap e
    generalize grownCap w (n + 1) cap e = cap' at *
    have hB := Blk.new w.drew ((xs.map (Value.int .u8)).toArray ++ [Value.int .u8 x].toArray ++ Builtin.zeroCells (Value.int .u8 0).cells (cap' - (n + 1))) e
    have hs : w.drew.heap.size = w.heap.size := rfl
    rw [hs] at hB
    have hzc : (Builtin.zeroCells (Value.int .u8 0).cells (cap' - (n + 1))).size = cap' - (n + 1) := by
      rw [size_zeroCells]
      show _ * 1 = _
      omega
    refine ⟨_, _, _, hgr, ⟨hbase, hB.lt, by simp [h3], hge, fun j hj => ⟨?_, hB.frozen j⟩, fun j y hy => ?_⟩, ⟨rfl, rfl, rfl, by simp, fun k hk _ => Below.heap_alloc w.drew _ k hk⟩⟩
    · rw [hB.cell j]
      refine ⟨_, Array.getElem?_eq_getElem ?_⟩
      simp only [Array.size_append, hzc, List.size_toArray, List.length_map, h3, List.length_cons, List.length_nil]
      omega
    · rw [hB.cell j]
      have hlt : j < (xs ++ [x]).length := (List.getElem?_eq_some_iff.1 hy).1
      have e0 : (xs.map (Value.int .u8)).toArray ++ [Value.int .u8 x].toArray = ((xs ++ [x]).map (Value.int .u8)).toArray := by simp
      rw [e0, Array.getElem?_append_left (by simpa using hlt)]
      simp only [List.getElem?_toArray, List.getElem?_map, hy, Option.map_some]
theorem wp_one {o : Oper} {a : Act} {K : Act → World → Prop} {Q : Exit → Act → World → Prop} (s y : Operand) (t : TypeId)
    (ho : o.op = .call { callee := .builtin .append, args := #[s, y], argTypes := #[t, t] })
    (w : World) (base : Nat) (e : TypeId) (i : TypeInfo) (ht : P.underlying t = some (.slice e)) (hi : P.info? e = some i) (hz : i.zero = some (.int .u8 0)) (hsize : i.size = 1) (hby : i.bytes = 1)
    (g n cap : Nat) (xs : List Int) (hs : a.eval s = .slice (some ⟨g, 0, none⟩) n cap) (hr : BRow w base g n cap xs) (ad : Addr) (c : Nat) (hy : a.eval y = .slice (some ad) 1 c) (x : Int) (hx : w.cell? (ad.add 0) = some (.int .u8 x)) (hn : n ≤ 1000000) (hbase : base ≤ w.heap.size)
    (h : ∀ g' cap' w', BRow w' base g' (n + 1) cap' (xs ++ [x]) → w.grownBy w' (some g) → K (a.put o.dst (.slice (some ⟨g', 0, none⟩) (n + 1) cap')) w') : o.wp P a w K Q := by
  obtain ⟨g', cap', w', hrun, h2, h3⟩ := run_append_one (P := P) w base t o.type e i ht hi hz hsize hby g n cap xs hr ad c x hx hn hbase
  unfold Oper.wp execOp
  simp only [ho, resolve, invoke, builtin, Sem.run_bind, Sem.run_pure, Result.andThen_ok, List.map_toArray, List.map_cons, List.map_nil, hs, hy, hrun]
  exact h g' cap' w' h2 h3
theorem wpList_one {ops : Array Oper} {rest : List Oper} {o : Oper} {a : Act} {Q : Exit → Act → World → Prop} (hgd : o.guard = none) (s y : Operand) (t : TypeId)
    (ho : o.op = .call { callee := .builtin .append, args := #[s, y], argTypes := #[t, t] })
    (w : World) (base : Nat) (e : TypeId) (i : TypeInfo) (ht : P.underlying t = some (.slice e)) (hi : P.info? e = some i) (hz : i.zero = some (.int .u8 0)) (hsize : i.size = 1) (hby : i.bytes = 1)
    (g n cap : Nat) (xs : List Int) (hs : a.eval s = .slice (some ⟨g, 0, none⟩) n cap) (hr : BRow w base g n cap xs) (ad : Addr) (c : Nat) (hy : a.eval y = .slice (some ad) 1 c) (x : Int) (hx : w.cell? (ad.add 0) = some (.int .u8 x)) (hn : n ≤ 1000000) (hbase : base ≤ w.heap.size)
    (h : ∀ g' cap' w', BRow w' base g' (n + 1) cap' (xs ++ [x]) → w.grownBy w' (some g) → wpList P ops Q rest (a.put o.dst (.slice (some ⟨g', 0, none⟩) (n + 1) cap')) w') : wpList P ops Q (o :: rest) a w :=
  wpList_plain hgd fun _ hK => wp_one s y t ho w base e i ht hi hz hsize hby g n cap xs hs hr ad c hy x hx hn hbase fun g' cap' w' h2 h3 => hK _ _ (h g' cap' w' h2 h3)
end
end Go.Proofs.YtccblleobcidfaaGreat.En
end
/- Layer 4: a record's bytes by the references. -/
section
namespace Go.Proofs.YtccblleobcidfaaGreat.En
open Go.RowKit Go.Proofs.YtccblleobcidfaaGreat.Kt Go.Proofs.YtccblleobcidfaaGreat.Lw Go.Proofs.YtccblleobcidfaaGreat.St Go.Proofs.YtccblleobcidfaaGreat.Nm Go.Proofs.YtccblleobcidfaaGreat.By Go.Proofs.YtccblleobcidfaaGreat.Gr
set_option linter.unusedVariables false
set_option linter.unusedSimpArgs false
theorem low_two (x : Int) (h0 : 0 ≤ x) (h1 : x < 256) : lowB x 1 ++ lowB 0 1 = lowB x 2 := by
  apply ext_data
  have : x / 256 % 256 = 0 := by omega
  simp [lowB, lowL, strOfNums, List.range_succ, this]
def preL (s : ByteArray) (n : Nat) : List Int := (List.range n).map (byt s)
theorem pre_len (s : ByteArray) (n : Nat) : (preL s n).length = n := by simp [preL]
theorem pre_at (s : ByteArray) {n j : Nat} (h : j < n) : (preL s n)[j]? = some (byt s j) := by simp [preL, h]
theorem pre_succ (s : ByteArray) (n : Nat) : preL s (n + 1) = preL s n ++ [byt s n] := by simp [preL, List.range_succ]
theorem byt_left (a b : ByteArray) {j : Nat} (h : j < a.size) : byt (a ++ b) j = byt a j := by
  have hj : j < a.data.toList.length := by simpa using h
  unfold byt
  simp only [ByteArray.data_append, Array.toList_append, List.getD_eq_getElem?_getD]
  rw [List.getElem?_append_left hj]
theorem byt_right (a b : ByteArray) (j : Nat) : byt (a ++ b) (a.size + j) = byt b j := by
  have hj : a.data.toList.length = a.size := by simp
  unfold byt
  simp only [ByteArray.data_append, Array.toList_append, List.getD_eq_getElem?_getD]
  rw [List.getElem?_append_right (by omega), hj, Nat.add_sub_cancel_left]
theorem whole_next (q s z m : Int) {k : Nat} (h : k < 12) : byt (wholeB q s z m) (12 + k) = 255 - byt (wholeB q s z m) k := by
  have hz := half_size q s z m
  have h1 := byt_left (halfB q s z m) (compB (halfB q s z m)) (j := k) (by omega)
  have h2 := byt_right (halfB q s z m) (compB (halfB q s z m)) k
  have h3 := byt_comp (halfB q s z m) (j := k) (by omega)
  rw [hz] at h2
  unfold wholeB
  rw [h1, h2, h3]
theorem whole_first (q s z m : Int) {k : Nat} (h : k < 12) : byt (halfB q s z m) k = byt (wholeB q s z m) k := by
  have hz := half_size q s z m
  unfold wholeB
  rw [byt_left _ _ (by omega)]
theorem brow_bytes (W : World) (s : ByteArray) (base : Nat) (cap : Nat) (hc : s.size ≤ cap) (hb : base ≤ W.heap.size) :
    BRow ((W.alloc (.cells (bytesRow s cap) 5 ((bytesRow s cap).size, (bytesRow s cap).size + 1))).drew) base W.heap.size s.size cap (preL s s.size) := by
  have hz : (bytesRow s cap).size = cap := by
    simp [bytesRow]
    omega
  refine ⟨hb, by simp, pre_len _ _, hc, fun j hj => ⟨?_, ?_⟩, fun j x hx => ?_⟩
  · show ∃ v, (W.alloc _).cell? _ = some v
    rw [World.cell?_alloc_mark]
    exact ⟨_, Array.getElem?_eq_getElem (by omega)⟩
  · show (W.alloc _).frozen? _ = false
    rw [World.frozen?_alloc_mark]
    simp
    omega
  · have hj : j < s.size := by
      have := (List.getElem?_eq_some_iff.1 hx).1
      rwa [pre_len] at this
    rw [pre_at s hj] at hx
    obtain rfl := Option.some.inj hx
    exact bytes_cell W s cap j _ hj
set_option maxRecDepth 100000 in
set_option maxHeartbeats 3200000 in
theorem rput_c (q s z m : Int) (w : World) : Calls Tryz.prog 240 #[.agg #[.int .i64 q, .int .i64 s, .int .i64 z, .int .i64 m]] w fun e w' => e = .returned (.tuple #[.string (putB q s z m), .int .i64 (putE q s z m)]) ∧ Below w.heap.size w w' := by
  have HB := Below.refl w.heap.size w
  have K0 := Blk.new w #[.int .i64 q, .int .i64 s, .int .i64 z, .int .i64 m] 67
  have mm := Lib.hid (fun W : World => rrecMay_c q s z m W)
  cases hm : recMay q s z m
  · rw [hm] at mm
    have hv : putB q s z m = ⟨#[]⟩ ∧ putE q s z m = 400 := by simp [putB, putE, hm]
    rw [hv.1, hv.2]
    clear hm hv
    go_enter Tryz.func240, Tryz.ntmps240
    go_wp2_with (first | (go_at_call 114; with_reducible refine (mm.out _).mono ?_; rintro e w' ⟨rfl, hb⟩; have HB := bl_step (w := w) zq0 hb; have hzB := HB.size; have K0 := Blk.on zq3 zq14 hb; (try clear cK0_0 cK0_1 cK0_2 cK0_3 fK0 lK0 nK0 mK0); obtain ⟨cK0_0, cK0_1, cK0_2, cK0_3, fK0, lK0, nK0, mK0⟩ := Blk.all4 K0) | fail)
    go_ret2
    exact ⟨rfl, zq1⟩
  · have hs : 0 ≤ s ∧ s < 256 := by
      simp [recMay, rngB] at hm
      omega
    rw [hm] at mm
    have hv : putB q s z m = wholeB q s z m ∧ putE q s z m = 0 := by simp [putB, putE, hm]
    rw [hv.1, hv.2]
    clear hm hv
    obtain ⟨i0, hi, hz0, hz1, hz2⟩ := info_parts info5
    have z1 := lowB_size q 4
    have z2 := lowB_size s 1
    have z0 := lowB_size 0 1
    have z3 := lowB_size z 2
    have z4 := lowB_size m 4
    have l1 := Lib.hid (fun W : World => rlow_c q 4 W (by decide) (by decide))
    have l2 := Lib.hid (fun W : World => rlow_c s 1 W (by decide) (by decide))
    have l0 := Lib.hid (fun W : World => rlow_c 0 1 W (by decide) (by decide))
    have l3 := Lib.hid (fun W : World => rlow_c z 2 W (by decide) (by decide))
    have l4 := Lib.hid (fun W : World => rlow_c m 4 W (by decide) (by decide))
    have e1 : Int.toNat 4 = 4 := rfl
    have e2 : Int.toNat 2 = 2 := rfl
    have e3 : Int.toNat 1 = 1 := rfl
    rw [e1] at l1 l4
    rw [e2] at l3
    rw [e3] at l2 l0
    clear e1 e2 e3
    have hh : lowB q 4 ++ lowB s 1 ++ lowB 0 1 ++ lowB z 2 ++ lowB m 4 = halfB q s z m := by
      have e : lowB q 4 ++ lowB s 1 ++ lowB 0 1 = lowB q 4 ++ lowB s 2 := by rw [ByteArray.append_assoc, low_two s hs.1 hs.2]
      rw [e]
      rfl
    have z7 := half_size q s z m
    have z8 := whole_size q s z m
    have wn := Lib.hid (fun k (h : k < 12) => whole_next q s z m h)
    have wf := Lib.hid (fun k (h : k < 12) => whole_first q s z m h)
    generalize lowB q 4 = L1 at *
    generalize lowB s 1 = L2 at *
    generalize lowB 0 1 = L0 at *
    generalize lowB z 2 = L3 at *
    generalize lowB m 4 = L4 at *
    generalize halfB q s z m = H at *
    generalize wholeB q s z m = WW at *
    have hs1 : (L1 ++ L2).size = 5 := by rw [ByteArray.size_append]; omega
    have hs0 : (L1 ++ L2 ++ L0).size = 6 := by rw [ByteArray.size_append]; omega
    have hs2 : (L1 ++ L2 ++ L0 ++ L3).size = 8 := by rw [ByteArray.size_append]; omega
    have r1 := fun W : World => run_bytes W H
    rw [z7] at r1
    go_enter Tryz.func240, Tryz.ntmps240
    go_upto_region 3 with (first | (go_at_call 114; with_reducible refine (mm.out _).mono ?_; rintro e w' ⟨rfl, hb⟩; have HB := bl_step (w := w) zq0 hb; have hzB := HB.size; have K0 := Blk.on zq3 zq14 hb; (try clear cK0_0 cK0_1 cK0_2 cK0_3 fK0 lK0 nK0 mK0); obtain ⟨cK0_0, cK0_1, cK0_2, cK0_3, fK0, lK0, nK0, mK0⟩ := Blk.all4 K0) | fail)
    have qK0_0 := fun s : Wld _ => Wld.cell cK0_0 s; have qK0_1 := fun s : Wld _ => Wld.cell cK0_1 s; have qK0_2 := fun s : Wld _ => Wld.cell cK0_2 s; have qK0_3 := fun s : Wld _ => Wld.cell cK0_3 s
    refine wld_tail 17 (by kernel_rfl) (by kernel_rfl) ?_
    simp only [List.take_succ_cons, List.take_zero, List.drop_succ_cons, List.drop_zero]
    repeat (go_big_quiet_step (first | (go_at_call 110; first | (with_reducible exact Wld.call (l1.out _)) | (with_reducible exact Wld.call (l2.out _)) | (with_reducible exact Wld.call (l0.out _)) | (with_reducible exact Wld.call (l3.out _)) | (with_reducible exact Wld.call (l4.out _)) | fail) | fail))
    refine wpQuiet_nil ?_; refine Wld.elim ?_; intro w' hb; clear qK0_0 qK0_1 qK0_2 qK0_3; have HB := bl_step (w := w) zq0 hb; have hzB := HB.size; have K0 := Blk.on zq3 zq14 hb; (try clear cK0_0 cK0_1 cK0_2 cK0_3 fK0 lK0 nK0 mK0); obtain ⟨cK0_0, cK0_1, cK0_2, cK0_3, fK0, lK0, nK0, mK0⟩ := Blk.all4 K0
    go_wp2_with fail
    have hcp := grownCap_ge w' 12 0 5
    have B0 : BRow ((w'.alloc (.cells (bytesRow H (grownCap w' 12 0 5)) 5 ((bytesRow H (grownCap w' 12 0 5)).size, (bytesRow H (grownCap w' 12 0 5)).size + 1))).drew) w.heap.size w'.heap.size 12 (grownCap w' 12 0 5) (preL WW 12) := by
      have h := brow_bytes w' H w.heap.size (grownCap w' 12 0 5) (by omega) HB.size
      rw [z7] at h
      have e : preL H 12 = preL WW 12 := by
        unfold preL
        exact List.map_congr_left fun k hk => wf.out k (by simpa using hk)
      rwa [e] at h
    have HB1 : Below w.heap.size w ((w'.alloc (.cells (bytesRow H (grownCap w' 12 0 5)) 5 ((bytesRow H (grownCap w' 12 0 5)).size, (bytesRow H (grownCap w' 12 0 5)).size + 1))).drew) := bl_drew (bl_alloc HB _)
    generalize (w'.alloc (.cells (bytesRow H (grownCap w' 12 0 5)) 5 ((bytesRow H (grownCap w' 12 0 5)).size, (bytesRow H (grownCap w' 12 0 5)).size + 1))).drew = w1 at *
    generalize grownCap w' 12 0 5 = cap0 at *
    generalize w'.heap.size = g0 at *
    clear r1 l0 l1 l2 l3 l4 hh hs1 hs0 hs2 z0 z1 z2 z3 z4 mm cK0_0 cK0_1 cK0_2 cK0_3 fK0 lK0 nK0 mK0
    go_loopg [4, 5] 12 (fun gg s4 s5 wr => ∃ (k g cap : Nat), k ≤ 12 ∧ 12 - k ≤ gg ∧ s5 = .int .i64 k ∧ s4 = .slice (some ⟨g, 0, none⟩) (12 + k) cap ∧ Aside (BRow wr w.heap.size g (12 + k) cap (preL WW (12 + k))) ∧ Aside (Below w.heap.size w wr))
    case atStart => exact ⟨0, g0, cap0, by omega, by omega, rfl, rfl, B0, HB1⟩
    case round =>
      clear B0 HB1 w1 hb HB K0 hzB
      obtain ⟨k, g, cap, hk, hg, rfl, rfl, BR, BW⟩ := hrel
      have HB := BW.out
      by_cases hlt : k < 12
      · have hy := byt_bd WW k
        have hcell := BR.out.2.2.2.2.2 k (byt WW k) (pre_at WW (by omega))
        have hn := Lib.hid (wn.out k hlt)
        have hps := Lib.hid (pre_succ WW (12 + k))
        have hg1 := BR.out.1
        have hg2 := BR.out.2.1
        generalize byt WW k = y at *
        have hu : IntKind.u8.wrap (255 - y) = 255 - y := by simp only [IntKind.wrap_u8]; omega
        go_wp2_with (first | (at_builtin; refine wpList_one rfl _ _ 59 rfl _ w.heap.size 5 i0 Tryz.underlying59 hi hz0 hz1 hz2 g (12 + k) cap (preL WW (12 + k)) rfl (BR.out.below (bl_alloc (Below.refl _ _) _)) ⟨wr.heap.size, 0, none⟩ 1 rfl (255 - y) (cells_new wr #[.int .u8 (255 - y)] _ 0 _ rfl) (by omega) (by have := HB.size; simp; omega) ?_; intro g' cap' w3 hB' hgr') | fail)
        have hb3 := bl_gb (bl_alloc HB (.cells #[.int .u8 (255 - y)] 5)) hgr' hg1
        rw [← hn.out, ← hps.out] at hB'
        go_roundg (12 - (k + 1))
        case measure => omega
        case rel => exact ⟨k + 1, g', cap', by omega, by omega, by go_num, rfl, hB', hb3⟩
      · obtain rfl : k = 12 := by omega
        have hcv := run_back wr g cap WW 24 z8.symm (fun j hj => BR.out.2.2.2.2.2 j (byt WW j) (pre_at WW (by omega)))
        go_wp2_with fail
        go_ret2
        exact ⟨rfl, HB⟩
end Go.Proofs.YtccblleobcidfaaGreat.En
end
/- Layer 4: a text's record: what the program's and the references' functions answer. -/
section
namespace Go.Proofs.YtccblleobcidfaaGreat.En
open Go.RowKit Go.Proofs.YtccblleobcidfaaGreat.Kt Go.Proofs.YtccblleobcidfaaGreat.Lw Go.Proofs.YtccblleobcidfaaGreat.St Go.Proofs.YtccblleobcidfaaGreat.Nm Go.Proofs.YtccblleobcidfaaGreat.By
set_option linter.unusedVariables false
set_option linter.unusedSimpArgs false
/-- a text's four numbers. -/
def nQ (s : ByteArray) : Int := numB (s.extract 0 4)
def nS (s : ByteArray) : Int := numB (s.extract 4 6)
def nZ (s : ByteArray) : Int := numB (s.extract 6 8)
def nM (s : ByteArray) : Int := numB (s.extract 8 12)
/-- is it a record's text, and whose? -/
def gotB (s : ByteArray) : Bool := decide (s.size = 24) && (decide (compB (s.extract 0 12) = s.extract 12 24) && recMay (nQ s) (nS s) (nZ s) (nM s))
def gotV (s : ByteArray) : Array Value := bif gotB s then #[.int .i64 (nQ s), .int .i64 (nS s), .int .i64 (nZ s), .int .i64 (nM s)] else #[.int .i64 0, .int .i64 0, .int .i64 0, .int .i64 0]
def gotE (s : ByteArray) : Int := bif gotB s then 0 else 400
theorem ex_size (s : ByteArray) (i j : Nat) (h : s.size = 24) (hj : j ≤ 24) : (s.extract i j).size = j - i := by
  rw [ByteArray.size_extract]
  omega
theorem whole_eq {s : ByteArray} (h : s.size = 24) (b : Int) (h0 : 0 ≤ b) (h1 : b < 65536) : wholeB (nQ s) b (nZ s) (nM s) = s ↔ nS s = b ∧ compB (s.extract 0 12) = s.extract 12 24 := by
  have e1 : lowB (nQ s) 4 = s.extract 0 4 := by have := lowB_numB (s.extract 0 4); rwa [ex_size s 0 4 h (by omega)] at this
  have e3 : lowB (nZ s) 2 = s.extract 6 8 := by have := lowB_numB (s.extract 6 8); rwa [ex_size s 6 8 h (by omega)] at this
  have e4 : lowB (nM s) 4 = s.extract 8 12 := by have := lowB_numB (s.extract 8 12); rwa [ex_size s 8 12 h (by omega)] at this
  have e2 : lowB (nS s) 2 = s.extract 4 6 := by have := lowB_numB (s.extract 4 6); rwa [ex_size s 4 6 h (by omega)] at this
  have j1 : s.extract 0 4 ++ s.extract 4 6 ++ s.extract 6 8 ++ s.extract 8 12 = s.extract 0 12 := by
    rw [ByteArray.extract_append_extract, show min 0 4 = 0 by decide, show max 4 6 = 6 by decide, ByteArray.extract_append_extract, show min 0 6 = 0 by decide, show max 6 8 = 8 by decide, ByteArray.extract_append_extract, show min 0 8 = 0 by decide, show max 8 12 = 12 by decide]
  have j2 : s.extract 0 12 ++ s.extract 12 24 = s := by
    rw [ByteArray.extract_append_extract, show min 0 12 = 0 by decide, show max 12 24 = 24 by decide, ← h, ByteArray.extract_zero_size]
  constructor
  · intro e
    have hz := half_size (nQ s) b (nZ s) (nM s)
    have hh : halfB (nQ s) b (nZ s) (nM s) = s.extract 0 12 := by
      have := congrArg (fun x => x.extract 0 12) e
      simp only [wholeB] at this
      rwa [ByteArray.extract_append_eq_left hz.symm] at this
    have hc : compB (halfB (nQ s) b (nZ s) (nM s)) = s.extract 12 24 := by
      have := congrArg (fun x => x.extract 12 24) e
      simp only [wholeB] at this
      rwa [ByteArray.extract_append_eq_right hz.symm (by rw [comp_size, hz])] at this
    refine ⟨?_, by rw [← hh]; exact hc⟩
    have hb : (halfB (nQ s) b (nZ s) (nM s)).extract 4 6 = lowB b 2 := by
      apply ext_data
      simp [halfB, lowB, lowL, strOfNums, List.range_succ, ByteArray.data_extract, List.extract]
    have := congrArg (fun x => x.extract 4 6) hh
    simp only [hb] at this
    have e5 : (s.extract 0 12).extract 4 6 = s.extract 4 6 := by
      rw [ByteArray.extract_extract]
      rfl
    rw [e5] at this
    unfold nS
    rw [← this, numB_lowB]
    exact Int.emod_eq_of_lt h0 (by simpa using h1)
  · rintro ⟨rfl, hc⟩
    unfold wholeB halfB
    rw [e1, e2, e3, e4, j1, hc, j2]
theorem byt4_bd (s : ByteArray) : 0 ≤ byt s 4 ∧ byt s 4 < 65536 := by have := byt_bd s 4; omega
/-- the references look at one byte of the slot. -/
theorem ref_got {s : ByteArray} (h : s.size = 24) : (recMay (nQ s) (byt s 4) (nZ s) (nM s) = true ∧ wholeB (nQ s) (byt s 4) (nZ s) (nM s) = s ∧ gotB s = true ∧ nS s = byt s 4) ∨
    (recMay (nQ s) (byt s 4) (nZ s) (nM s) = true ∧ wholeB (nQ s) (byt s 4) (nZ s) (nM s) ≠ s ∧ gotB s = false) ∨ (recMay (nQ s) (byt s 4) (nZ s) (nM s) = false ∧ gotB s = false) := by
  have hb := byt4_bd s
  have hw := whole_eq h (byt s 4) hb.1 hb.2
  have key : recMay (nQ s) (nS s) (nZ s) (nM s) = true → nS s = byt s 4 := by
    intro hm
    have h1 : 0 ≤ nS s ∧ nS s ≤ 1 := by
      simp [recMay, rngB] at hm
      omega
    have e1 := byt_num s 4 (by omega)
    have e2 : s.extract 4 6 = s.extract 4 5 ++ s.extract 5 6 := by rw [ByteArray.extract_append_extract]; rfl
    have hn : nS s = byt s 4 + 256 * byt s 5 := by
      have e5 := byt_num s 5 (by omega)
      rw [e1, e5]
      unfold nS
      rw [e2]
      have hz : (s.extract 4 5).data.toList.length = 1 := by
        have := ex_size s 4 5 h (by omega)
        rw [Array.length_toList]
        exact this
      have hz2 : (s.extract 5 6).data.toList.length = 1 := by
        have := ex_size s 5 6 h (by omega)
        rw [Array.length_toList]
        exact this
      unfold numB
      rw [ByteArray.data_append, Array.toList_append]
      obtain ⟨x, hx⟩ := List.length_eq_one_iff.1 hz
      obtain ⟨y, hy⟩ := List.length_eq_one_iff.1 hz2
      rw [show s.extract 4 (4 + 1) = s.extract 4 5 from rfl, show s.extract 5 (5 + 1) = s.extract 5 6 from rfl, hx, hy]
      simp [ofL]
      omega
    have b5 := byt_bd s 5
    have b4 := byt_bd s 4
    omega
  cases hr : recMay (nQ s) (byt s 4) (nZ s) (nM s)
  · refine .inr (.inr ⟨rfl, ?_⟩)
    cases hg : gotB s
    · rfl
    · exfalso
      simp only [gotB, Bool.and_eq_true] at hg
      rw [← key hg.2.2, hg.2.2] at hr
      cases hr
  · by_cases hq : wholeB (nQ s) (byt s 4) (nZ s) (nM s) = s
    · obtain ⟨h1, h2⟩ := hw.1 hq
      exact .inl ⟨rfl, hq, by simp [gotB, h, h2, h1, hr], h1⟩
    · refine .inr (.inl ⟨rfl, hq, ?_⟩)
      cases hg : gotB s
      · rfl
      · exfalso
        simp only [gotB, Bool.and_eq_true, decide_eq_true_eq] at hg
        exact hq (hw.2 ⟨key hg.2.2, hg.2.1⟩)
end Go.Proofs.YtccblleobcidfaaGreat.En
end
/- Layer 4: a text's record: the walks. -/
section
namespace Go.Proofs.YtccblleobcidfaaGreat.En
open Go.RowKit Go.Proofs.YtccblleobcidfaaGreat.Kt Go.Proofs.YtccblleobcidfaaGreat.Lw Go.Proofs.YtccblleobcidfaaGreat.St Go.Proofs.YtccblleobcidfaaGreat.Nm Go.Proofs.YtccblleobcidfaaGreat.By
set_option linter.unusedVariables false
set_option linter.unusedSimpArgs false
set_option maxRecDepth 100000 in
set_option maxHeartbeats 6400000 in
theorem get_c (s : ByteArray) (w : World) : Calls Tryz.prog 123 #[.string s] w fun e w' => e = .returned (.tuple #[.agg (gotV s), .int .i64 (gotE s)]) ∧ Below w.heap.size w w' := by
  have HB := Below.refl w.heap.size w
  have K0 := Blk.new w #[.int .i64 0, .int .i64 0, .int .i64 0, .int .i64 0] 67
  by_cases hs : s.size = 24
  · have hcmp := Lib.hid (fun W : World => comp_c (s.extract 0 12) W (by rw [ex_size s 0 12 hs (by omega)]; decide))
    by_cases hc : compB (s.extract 0 12) = s.extract 12 24
    · have q1 := eqs_t hc
      have q2 : ((compB (s.extract 0 12)).toList != (s.extract 12 24).toList) = false := by rw [bne, q1]; rfl
      have e1 : (s.extract 0 4).size ≤ 4 := by rw [ex_size s 0 4 hs (by omega)]; decide
      have e2 : (s.extract 4 6).size ≤ 4 := by rw [ex_size s 4 6 hs (by omega)]; decide
      have e3 : (s.extract 6 8).size ≤ 4 := by rw [ex_size s 6 8 hs (by omega)]; decide
      have e4 : (s.extract 8 12).size ≤ 4 := by rw [ex_size s 8 12 hs (by omega)]; decide
      have mm := Lib.hid (fun W : World => recMay_c (nQ s) (nS s) (nZ s) (nM s) W)
      have HC := Lib.hid hc
      clear hc
      go_enter Tryz.func123, Tryz.ntmps123
      go_wp2_with fail
      obtain ⟨cK0_0, cK0_1, cK0_2, cK0_3, fK0, lK0, nK0, mK0⟩ := Blk.all4 K0
      have qK0_0 := fun s : Wld _ => Wld.cell cK0_0 s; have qK0_1 := fun s : Wld _ => Wld.cell cK0_1 s; have qK0_2 := fun s : Wld _ => Wld.cell cK0_2 s; have qK0_3 := fun s : Wld _ => Wld.cell cK0_3 s
      refine wld_lit (by kernel_rfl) (by kernel_rfl) ?_
      repeat (go_big_quiet_step (first | (go_at_call 181; with_reducible exact Wld.call (hcmp.out _)) | fail))
      refine wpQuiet_nil ?_; refine Wld.elim ?_; intro w' hb; clear qK0_0 qK0_1 qK0_2 qK0_3; have HB := bl_step (w := w) zq0 hb; have hzB := HB.size; have K0 := Blk.on zq3 zq14 hb; (try clear cK0_0 cK0_1 cK0_2 cK0_3 fK0 lK0 nK0 mK0); obtain ⟨cK0_0, cK0_1, cK0_2, cK0_3, fK0, lK0, nK0, mK0⟩ := Blk.all4 K0
      go_upto_region 3 with fail
      generalize w' = w1 at *
      go_cut [4] (fun v4 wc => ∃ g : Nat, v4 = .pointer (some ⟨g, 0, none⟩) ∧ w.heap.size < g ∧ Aside (Blk wc g #[.int .i64 (nQ s), .int .i64 (nS s), .int .i64 (nZ s), .int .i64 (nM s)] 67) ∧ Aside (Blk wc w.heap.size #[.int .i64 0, .int .i64 0, .int .i64 0, .int .i64 0] 67) ∧ Aside (Below w.heap.size w wc))
      case first =>
        go_region_held3 (fun W => Below w1.heap.size w1 W) (first | ((repeat (with_reducible first | exact Below.refl _ _ | assumption | apply bl_alloc | apply bl_drew | apply bl_drewN | (refine bl_setn ?_ (by assumption)) | (refine bl_step ?_ (by assumption)) | fail)); done) | fail) (first | (go_at_call 81; with_reducible refine (num_c _ _ (by assumption)).mono ?_; rintro e w' ⟨rfl, rfl⟩) | fail)
        all_goals (go_wp2_with fail; go_meet; exact ⟨_, rfl, K0.lt, (Blk.new _ _ _).drew, (K0.alloc _).drew, bl_drew (bl_alloc HB _)⟩)
      case rest =>
        clear K0 HB
        obtain ⟨g, rfl, hgg, BK1, BK0, BB⟩ := hcut
        have K0 := BK0.out
        have K1 : Blk wc g #[.int .i64 (nQ s), .int .i64 (nS s), .int .i64 (nZ s), .int .i64 (nM s)] 67 := BK1.out
        have HB := BB.out
        have hne : w.heap.size ≠ g := by omega
        have hne2 : g ≠ w.heap.size := by omega
        clear BK0 BK1 BB
        obtain ⟨cK0_0, cK0_1, cK0_2, cK0_3, fK0, lK0, nK0, mK0⟩ := Blk.all4 K0
        obtain ⟨cK1_0, cK1_1, cK1_2, cK1_3, fK1, lK1, nK1, mK1⟩ := Blk.all4 K1
        cases hm : recMay (nQ s) (nS s) (nZ s) (nM s)
        · have hg : gotB s = false := by simp [gotB, hm]
          rw [hm] at mm
          clear hm
          go_wp2_with (first | (go_at_call 159; with_reducible refine (mm.out _).mono ?_; rintro e w' ⟨rfl, hb⟩; have HB := bl_step (w := w) zq0 hb; have hzB := HB.size; have K0 := Blk.on zq3 zq14 hb; (try clear cK0_0 cK0_1 cK0_2 cK0_3 fK0 lK0 nK0 mK0); obtain ⟨cK0_0, cK0_1, cK0_2, cK0_3, fK0, lK0, nK0, mK0⟩ := Blk.all4 K0; have K1 := Blk.on zq6 zq37 hb; (try clear cK1_0 cK1_1 cK1_2 cK1_3 fK1 lK1 nK1 mK1); obtain ⟨cK1_0, cK1_1, cK1_2, cK1_3, fK1, lK1, nK1, mK1⟩ := Blk.all4 K1) | fail)
          exact bodyPost_ret (v := .tuple #[.agg #[.int .i64 0, .int .i64 0, .int .i64 0, .int .i64 0], .int .i64 400]) (by simp [results, Tryz.results123, go_sem, *]) rfl ⟨by simp [gotV, gotE, hg], zq1⟩
        · have hg : gotB s = true := by simp [gotB, hm, hs, HC.out]
          rw [hm] at mm
          clear hm
          go_wp2_with (first | (go_at_call 159; with_reducible refine (mm.out _).mono ?_; rintro e w' ⟨rfl, hb⟩; have HB := bl_step (w := w) zq0 hb; have hzB := HB.size; have K0 := Blk.on zq3 zq14 hb; (try clear cK0_0 cK0_1 cK0_2 cK0_3 fK0 lK0 nK0 mK0); obtain ⟨cK0_0, cK0_1, cK0_2, cK0_3, fK0, lK0, nK0, mK0⟩ := Blk.all4 K0; have K1 := Blk.on zq6 zq37 hb; (try clear cK1_0 cK1_1 cK1_2 cK1_3 fK1 lK1 nK1 mK1); obtain ⟨cK1_0, cK1_1, cK1_2, cK1_3, fK1, lK1, nK1, mK1⟩ := Blk.all4 K1) | fail)
          exact bodyPost_ret (v := .tuple #[.agg #[.int .i64 (nQ s), .int .i64 (nS s), .int .i64 (nZ s), .int .i64 (nM s)], .int .i64 0]) (by simp [results, Tryz.results123, go_sem, *]) rfl ⟨by simp [gotV, gotE, hg], zq1⟩
    · have q1 := eqs_f hc
      have q2 : ((compB (s.extract 0 12)).toList != (s.extract 12 24).toList) = true := by rw [bne, q1]; rfl
      have hg : gotB s = false := by simp [gotB, hc]
      clear hc
      go_enter Tryz.func123, Tryz.ntmps123
      go_wp2_with fail
      obtain ⟨cK0_0, cK0_1, cK0_2, cK0_3, fK0, lK0, nK0, mK0⟩ := Blk.all4 K0
      have qK0_0 := fun s : Wld _ => Wld.cell cK0_0 s; have qK0_1 := fun s : Wld _ => Wld.cell cK0_1 s; have qK0_2 := fun s : Wld _ => Wld.cell cK0_2 s; have qK0_3 := fun s : Wld _ => Wld.cell cK0_3 s
      refine wld_lit (by kernel_rfl) (by kernel_rfl) ?_
      repeat (go_big_quiet_step (first | (go_at_call 181; with_reducible exact Wld.call (hcmp.out _)) | fail))
      refine wpQuiet_nil ?_; refine Wld.elim ?_; intro w' hb; clear qK0_0 qK0_1 qK0_2 qK0_3; have HB := bl_step (w := w) zq0 hb; have hzB := HB.size; have K0 := Blk.on zq3 zq14 hb; (try clear cK0_0 cK0_1 cK0_2 cK0_3 fK0 lK0 nK0 mK0); obtain ⟨cK0_0, cK0_1, cK0_2, cK0_3, fK0, lK0, nK0, mK0⟩ := Blk.all4 K0
      go_wp2_with fail
      exact bodyPost_ret (v := .tuple #[.agg #[.int .i64 0, .int .i64 0, .int .i64 0, .int .i64 0], .int .i64 400]) (by simp [results, Tryz.results123, go_sem, *]) rfl ⟨by simp [gotV, gotE, hg], zq1⟩
  · have h : ((s.size : Int) != 24) = true := by rw [bne_iff_ne]; omega
    have hg : gotB s = false := by simp [gotB, hs]
    go_enter Tryz.func123, Tryz.ntmps123
    go_wp2_with fail
    obtain ⟨cK0_0, cK0_1, cK0_2, cK0_3, fK0, lK0, nK0, mK0⟩ := Blk.all4 K0
    have qK0_0 := fun s : Wld _ => Wld.cell cK0_0 s; have qK0_1 := fun s : Wld _ => Wld.cell cK0_1 s; have qK0_2 := fun s : Wld _ => Wld.cell cK0_2 s; have qK0_3 := fun s : Wld _ => Wld.cell cK0_3 s
    refine wld_lit (by kernel_rfl) (by kernel_rfl) ?_
    repeat (go_big_quiet_step (fail))
    refine wpQuiet_nil ?_; refine Wld.elim ?_; intro w' hb; clear qK0_0 qK0_1 qK0_2 qK0_3; have HB := bl_step (w := w) zq0 hb; have hzB := HB.size; have K0 := Blk.on zq3 zq14 hb; (try clear cK0_0 cK0_1 cK0_2 cK0_3 fK0 lK0 nK0 mK0); obtain ⟨cK0_0, cK0_1, cK0_2, cK0_3, fK0, lK0, nK0, mK0⟩ := Blk.all4 K0
    go_wp2_with fail
    exact bodyPost_ret (v := .tuple #[.agg #[.int .i64 0, .int .i64 0, .int .i64 0, .int .i64 0], .int .i64 400]) (by simp [results, Tryz.results123, go_sem, *]) rfl ⟨by simp [gotV, gotE, hg], zq1⟩
set_option maxRecDepth 100000 in
set_option maxHeartbeats 6400000 in
theorem rget_c (s : ByteArray) (w : World) : Calls Tryz.prog 179 #[.string s] w fun e w' => e = .returned (.tuple #[.agg (gotV s), .int .i64 (gotE s)]) ∧ Below w.heap.size w w' := by
  have HB := Below.refl w.heap.size w
  have K0 := Blk.new w #[.int .i64 0, .int .i64 0, .int .i64 0, .int .i64 0] 67
  by_cases hs : s.size = 24
  · have e1 : (s.extract 0 4).size ≤ 4 := by rw [ex_size s 0 4 hs (by omega)]; decide
    have e2 : (s.extract 4 6).size ≤ 4 := by rw [ex_size s 4 6 hs (by omega)]; decide
    have e3 : (s.extract 6 8).size ≤ 4 := by rw [ex_size s 6 8 hs (by omega)]; decide
    have e4 : (s.extract 8 12).size ≤ 4 := by rw [ex_size s 8 12 hs (by omega)]; decide
    have e0 := byt_at s 4 (by omega)
    have e5 := byt_wrap s 4
    have mm := Lib.hid (fun W : World => rput_c (nQ s) (byt s 4) (nZ s) (nM s) W)
    go_enter Tryz.func179, Tryz.ntmps179
    have HB := bl_alloc HB (.cells #[.int .i64 0, .int .i64 0, .int .i64 0, .int .i64 0] 67)
    go_upto_region 3 with fail
    generalize w.alloc (.cells #[.int .i64 0, .int .i64 0, .int .i64 0, .int .i64 0] 67) = w1 at *
    go_cut [4] (fun v4 wc => ∃ g : Nat, v4 = .pointer (some ⟨g, 0, none⟩) ∧ w.heap.size < g ∧ Aside (Blk wc g #[.int .i64 (nQ s), .int .i64 (byt s 4), .int .i64 (nZ s), .int .i64 (nM s)] 67) ∧ Aside (Blk wc w.heap.size #[.int .i64 0, .int .i64 0, .int .i64 0, .int .i64 0] 67) ∧ Aside (Below w.heap.size w wc))
    case first =>
      go_region_held3 (fun W => Below w1.heap.size w1 W) (first | ((repeat (with_reducible first | exact Below.refl _ _ | assumption | apply bl_alloc | apply bl_drew | apply bl_drewN | (refine bl_setn ?_ (by assumption)) | (refine bl_step ?_ (by assumption)) | fail)); done) | fail) (first | (go_at_call 216; with_reducible refine (of_c _ _ (by assumption)).mono ?_; rintro e w' ⟨rfl, rfl⟩) | fail)
      all_goals (go_wp2_with fail; go_meet; exact ⟨_, rfl, K0.lt, (Blk.new _ _ _).drew, (K0.alloc _).drew, bl_drew (bl_alloc HB _)⟩)
    case rest =>
      clear K0 HB
      obtain ⟨g, rfl, hgg, BK1, BK0, BB⟩ := hcut
      have K0 := BK0.out
      have K1 : Blk wc g #[.int .i64 (nQ s), .int .i64 (byt s 4), .int .i64 (nZ s), .int .i64 (nM s)] 67 := BK1.out
      have HB := BB.out
      have hne : w.heap.size ≠ g := by omega
      have hne2 : g ≠ w.heap.size := by omega
      clear BK0 BK1 BB
      obtain ⟨cK0_0, cK0_1, cK0_2, cK0_3, fK0, lK0, nK0, mK0⟩ := Blk.all4 K0
      obtain ⟨cK1_0, cK1_1, cK1_2, cK1_3, fK1, lK1, nK1, mK1⟩ := Blk.all4 K1
      rcases ref_got hs with ⟨hr, hw, hg, hn⟩ | ⟨hr, hw, hg⟩ | ⟨hr, hg⟩
      · have p1 : putB (nQ s) (byt s 4) (nZ s) (nM s) = s ∧ putE (nQ s) (byt s 4) (nZ s) (nM s) = 0 := by simp [putB, putE, hr, hw]
        rw [p1.1, p1.2] at mm
        have HN := Lib.hid hn
        clear p1 hr hw hn
        go_wp2_with (first | (go_at_call 240; with_reducible refine (mm.out _).mono ?_; rintro e w' ⟨rfl, hb⟩; have HB := bl_step (w := w) zq0 hb; have hzB := HB.size; have K0 := Blk.on zq3 zq14 hb; (try clear cK0_0 cK0_1 cK0_2 cK0_3 fK0 lK0 nK0 mK0); obtain ⟨cK0_0, cK0_1, cK0_2, cK0_3, fK0, lK0, nK0, mK0⟩ := Blk.all4 K0; have K1 := Blk.on zq6 zq37 hb; (try clear cK1_0 cK1_1 cK1_2 cK1_3 fK1 lK1 nK1 mK1); obtain ⟨cK1_0, cK1_1, cK1_2, cK1_3, fK1, lK1, nK1, mK1⟩ := Blk.all4 K1) | fail)
        exact bodyPost_ret (v := .tuple #[.agg #[.int .i64 (nQ s), .int .i64 (byt s 4), .int .i64 (nZ s), .int .i64 (nM s)], .int .i64 0]) (by simp [results, Tryz.results179, go_sem, *]) rfl ⟨by simp [gotV, gotE, hg, HN.out], zq1⟩
      · have p1 : putB (nQ s) (byt s 4) (nZ s) (nM s) = wholeB (nQ s) (byt s 4) (nZ s) (nM s) ∧ putE (nQ s) (byt s 4) (nZ s) (nM s) = 0 := by simp [putB, putE, hr]
        rw [p1.1, p1.2] at mm
        have q1 := eqs_f hw
        have q2 : ((wholeB (nQ s) (byt s 4) (nZ s) (nM s)).toList != s.toList) = true := by rw [bne, q1]; rfl
        clear p1 hr hw
        go_wp2_with (first | (go_at_call 240; with_reducible refine (mm.out _).mono ?_; rintro e w' ⟨rfl, hb⟩; have HB := bl_step (w := w) zq0 hb; have hzB := HB.size; have K0 := Blk.on zq3 zq14 hb; (try clear cK0_0 cK0_1 cK0_2 cK0_3 fK0 lK0 nK0 mK0); obtain ⟨cK0_0, cK0_1, cK0_2, cK0_3, fK0, lK0, nK0, mK0⟩ := Blk.all4 K0; have K1 := Blk.on zq6 zq37 hb; (try clear cK1_0 cK1_1 cK1_2 cK1_3 fK1 lK1 nK1 mK1); obtain ⟨cK1_0, cK1_1, cK1_2, cK1_3, fK1, lK1, nK1, mK1⟩ := Blk.all4 K1) | fail)
        exact bodyPost_ret (v := .tuple #[.agg #[.int .i64 0, .int .i64 0, .int .i64 0, .int .i64 0], .int .i64 400]) (by simp [results, Tryz.results179, go_sem, *]) rfl ⟨by simp [gotV, gotE, hg], zq1⟩
      · have p1 : putB (nQ s) (byt s 4) (nZ s) (nM s) = ⟨#[]⟩ ∧ putE (nQ s) (byt s 4) (nZ s) (nM s) = 400 := by simp [putB, putE, hr]
        rw [p1.1, p1.2] at mm
        clear p1 hr
        go_wp2_with (first | (go_at_call 240; with_reducible refine (mm.out _).mono ?_; rintro e w' ⟨rfl, hb⟩; have HB := bl_step (w := w) zq0 hb; have hzB := HB.size; have K0 := Blk.on zq3 zq14 hb; (try clear cK0_0 cK0_1 cK0_2 cK0_3 fK0 lK0 nK0 mK0); obtain ⟨cK0_0, cK0_1, cK0_2, cK0_3, fK0, lK0, nK0, mK0⟩ := Blk.all4 K0; have K1 := Blk.on zq6 zq37 hb; (try clear cK1_0 cK1_1 cK1_2 cK1_3 fK1 lK1 nK1 mK1); obtain ⟨cK1_0, cK1_1, cK1_2, cK1_3, fK1, lK1, nK1, mK1⟩ := Blk.all4 K1) | fail)
        exact bodyPost_ret (v := .tuple #[.agg #[.int .i64 0, .int .i64 0, .int .i64 0, .int .i64 0], .int .i64 400]) (by simp [results, Tryz.results179, go_sem, *]) rfl ⟨by simp [gotV, gotE, hg], zq1⟩
  · have h : ((s.size : Int) != 24) = true := by rw [bne_iff_ne]; omega
    have hg : gotB s = false := by simp [gotB, hs]
    go_enter Tryz.func179, Tryz.ntmps179
    go_wp2_with fail
    exact bodyPost_ret (v := .tuple #[.agg #[.int .i64 0, .int .i64 0, .int .i64 0, .int .i64 0], .int .i64 400]) (by simp [results, Tryz.results179, go_sem, *]) rfl ⟨by simp [gotV, gotE, hg], zq1⟩
end Go.Proofs.YtccblleobcidfaaGreat.En
end
