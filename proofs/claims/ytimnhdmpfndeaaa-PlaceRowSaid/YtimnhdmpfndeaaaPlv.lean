/- Which places hold records, behind steps that were cut: in plain Lean. -/
import Derived.Test.YtimnhdmpfndeaaaGh
import Derived.Test.YtimnhdmpfndeaaaGq
namespace Go.Proofs.Ytimnhdmpfndeaaa.Pl
open Go.RowKit Go.Proofs.Ytimnhdmpfndeaaa.Kt Go.Proofs.Ytimnhdmpfndeaaa.Lw Go.Proofs.Ytimnhdmpfndeaaa.St Go.Proofs.Ytimnhdmpfndeaaa.Nm Go.Proofs.Ytimnhdmpfndeaaa.By Go.Proofs.Ytimnhdmpfndeaaa.En Go.Proofs.Ytimnhdmpfndeaaa.Jr Go.Proofs.Ytimnhdmpfndeaaa.Im Go.Proofs.Ytimnhdmpfndeaaa.Sl Go.Proofs.Ytimnhdmpfndeaaa.Gr Go.Proofs.Ytimnhdmpfndeaaa.Ops Go.Proofs.Ytimnhdmpfndeaaa.Ch Go.Proofs.Ytimnhdmpfndeaaa.Fl
set_option linter.unusedVariables false
set_option linter.unusedSimpArgs false
attribute [local irreducible] gotB goodB Cr.crcB nQ nS nZ nM wholeB
theorem scanN_mem {f : ByteArray} {k : Nat} (hg : gotB (placeB f k) = true) : ∀ n, k < n → plOf f k ∈ scanN f n
  | 0, h => by omega
  | n + 1, h => by
    rw [scanN, List.mem_append]
    by_cases e : k = n
    · subst e
      right
      rw [hg]
      simp
    · exact .inl (scanN_mem hg n (by omega))
theorem scan_mem {f : ByteArray} {k : Nat} (hk : k < 8) (hg : gotB (placeB f k) = true) : plOf f k ∈ scanL f := scanN_mem hg 8 hk
theorem pl_eq {f y : ByteArray} {k : Nat} (h : placeB y k = placeB f k) : plOf y k = plOf f k := by simp only [plOf, h]
theorem act_keep {f y : ByteArray} (hi : ∀ s z : Int, 0 ≤ s → s ≤ 1 → z ≤ 288 → imgB y s z = imgB f s z) (hs : ∀ k, k < 8 → gotB (placeB y k) = true → placeB y k = placeB f k)
    (hp : ∀ k, k < 8 → activeO f = some (plOf f k) → placeB y k = placeB f k) : activeO y = activeO f := by
  have hgd : ∀ x ∈ scanL f, gdP y x = gdP f x := fun x hx => by
    obtain ⟨_, h2, h3, _⟩ := may_parts (scan_ok hx).may
    unfold gdP goodB
    rw [hi x.s x.z h2.1 h2.2 h3.2]
  have hsub : ∀ x ∈ scanL y, x ∈ scanL f := fun x hx => by
    obtain ⟨k, hk, rfl, hg⟩ := scan_ok hx
    have e := hs k hk hg
    rw [pl_eq e]
    exact scan_mem hk (by rw [← e]; exact hg)
  have hb := active_best f
  cases ho : activeO f with
  | none =>
    rw [ho] at hb
    exact active_none fun x hx => by rw [hgd x (hsub x hx)]; exact hb x (hsub x hx)
  | some p =>
    rw [ho] at hb
    obtain ⟨k, hk, rfl, hg⟩ := scan_ok hb.mem
    have e := hp k hk ho
    refine active_some ⟨?_, by rw [hgd _ hb.mem]; exact hb.good, fun x hx gx => hb.first x (hsub x hx) (by rw [← hgd x (hsub x hx)]; exact gx)⟩
    rw [← pl_eq e]
    exact scan_mem hk (by rw [e]; exact hg)
theorem got_whole {q s z m : Int} (h : recMay q s z m = true) : gotB (wholeB q s z m) = true ∧ nQ (wholeB q s z m) = q ∧ nS (wholeB q s z m) = s ∧ nZ (wholeB q s z m) = z ∧ nM (wholeB q s z m) = m := by
  obtain ⟨h1, h2, h3, h4⟩ := may_parts h
  have hz := whole_size q s z m
  have eq : nQ (wholeB q s z m) = q := by
    have : (wholeB q s z m).extract 0 4 = lowB q 4 := by
      apply ext_data
      simp [wholeB, halfB, lowB, lowL, strOfNums, List.range_succ, ByteArray.data_extract, List.extract]
    unfold nQ
    rw [this, numB_lowB]
    exact Int.emod_eq_of_lt (by omega) (by simp; omega)
  have es : nS (wholeB q s z m) = s := by
    have : (wholeB q s z m).extract 4 6 = lowB s 2 := by
      apply ext_data
      simp [wholeB, halfB, lowB, lowL, strOfNums, List.range_succ, ByteArray.data_extract, List.extract]
    unfold nS
    rw [this, numB_lowB]
    exact Int.emod_eq_of_lt (by omega) (by simp; omega)
  have ez : nZ (wholeB q s z m) = z := by
    have : (wholeB q s z m).extract 6 8 = lowB z 2 := by
      apply ext_data
      simp [wholeB, halfB, lowB, lowL, strOfNums, List.range_succ, ByteArray.data_extract, List.extract]
    unfold nZ
    rw [this, numB_lowB]
    exact Int.emod_eq_of_lt (by omega) (by simp; omega)
  have em : nM (wholeB q s z m) = m := by
    have : (wholeB q s z m).extract 8 12 = lowB m 4 := by
      apply ext_data
      simp [wholeB, halfB, lowB, lowL, strOfNums, List.range_succ, ByteArray.data_extract, List.extract]
    unfold nM
    rw [this, numB_lowB]
    exact Int.emod_eq_of_lt (by omega) (by simp; omega)
  refine ⟨?_, eq, es, ez, em⟩
  have hw := (whole_eq hz (nS (wholeB q s z m)) (by omega) (by omega)).1 (by rw [eq, es, ez, em])
  simp only [gotB, Bool.and_eq_true, decide_eq_true_eq]
  exact ⟨hz, hw.2, by rw [eq, es, ez, em]; exact h⟩
theorem act_new {y : ByteArray} {P : Nat} {q s z m : Int} (hP : P < 8) (hb : placeB y P = wholeB q s z m) (hm : recMay q s z m = true) (hg : goodB y s z m = true)
    (hq : ∀ k, k < 8 → k ≠ P → gotB (placeB y k) = true → nQ (placeB y k) < q) : activeO y = some ⟨24 * (P : Int), q, s, z, m⟩ := by
  obtain ⟨g0, g1, g2, g3, g4⟩ := got_whole hm
  have e : plOf y P = ⟨24 * (P : Int), q, s, z, m⟩ := by simp only [plOf, hb, g1, g2, g3, g4]
  rw [← e]
  refine active_some ⟨scan_mem hP (by rw [hb]; exact g0), by rw [e]; exact hg, fun x hx gx => ?_⟩
  obtain ⟨k, hk, rfl, hgk⟩ := scan_ok hx
  by_cases hkP : k = P
  · rw [hkP]
    exact leP.refl _
  · have h := hq k hk hkP hgk
    rw [e]
    unfold leP
    simp only [plOf]
    omega
/-- a byte upon 255, its first bits programmed. -/
def clrN : Nat → Int → Int → Int
  | 0, x, _ => x
  | k + 1, x, y => clrB (clrN k x y) y k
def parF (E : Nat → Int) (n j : Nat) : Int := clrN (min 8 (n - 8 * j)) 255 (E j)
theorem tear_clr {b w : Nat → Int} (hb : ∀ j, j < 4 → b j = 255) : ∀ n, n ≤ 32 → ∀ j, j < 4 → tearF b w n j = clrN (min 8 (n - 8 * j)) 255 (w j)
  | 0, _, j, hj => by
    rw [show min 8 (0 - 8 * j) = 0 by omega]
    exact hb j hj
  | n + 1, hn, j, hj => by
    have ih := tear_clr (w := w) hb n (by omega) j hj
    unfold tearF
    by_cases e : j = n / 8
    · rw [if_pos e, ih, show min 8 (n + 1 - 8 * j) = n % 8 + 1 by omega, show min 8 (n - 8 * j) = n % 8 by omega]
      rfl
    · rw [if_neg e, ih]
      congr 1
      omega
def orB (x y : Int) : Int := Go.bits .or .u8 x y
theorem clr_or_fin : ∀ k : Fin 9, ∀ x : Fin 256, orB (x.val : Int) (clrN k.val 255 (255 - (x.val : Int))) = 255 := by decide +kernel
theorem or_l_fin : ∀ x : Fin 256, orB 255 (x.val : Int) = 255 ∧ orB (x.val : Int) 255 = 255 := by decide +kernel
theorem or_0_fin : ∀ x : Fin 256, orB (x.val : Int) 0 = 255 → x.val = 255 := by decide +kernel
theorem clr_or {k : Nat} {x : Int} (hk : k ≤ 8) (h0 : 0 ≤ x) (h1 : x < 256) : orB x (clrN k 255 (255 - x)) = 255 := by
  obtain ⟨a, rfl⟩ := Int.eq_ofNat_of_zero_le h0
  exact clr_or_fin ⟨k, by omega⟩ ⟨a, by omega⟩
theorem or_l {x : Int} (h0 : 0 ≤ x) (h1 : x < 256) : orB 255 x = 255 := by
  obtain ⟨a, rfl⟩ := Int.eq_ofNat_of_zero_le h0
  exact (or_l_fin ⟨a, by omega⟩).1
theorem or_r {x : Int} (h0 : 0 ≤ x) (h1 : x < 256) : orB x 255 = 255 := by
  obtain ⟨a, rfl⟩ := Int.eq_ofNat_of_zero_le h0
  exact (or_l_fin ⟨a, by omega⟩).2
theorem or_0 {x : Int} (h0 : 0 ≤ x) (h1 : x < 256) (h : orB x 0 = 255) : x = 255 := by
  obtain ⟨a, rfl⟩ := Int.eq_ofNat_of_zero_le h0
  have := or_0_fin ⟨a, by omega⟩ h
  simp only at this
  omega
theorem clrN_8 {y : Int} (h0 : 0 ≤ y) (h1 : y < 256) : clrN 8 255 y = y := clr_blank h0 h1
theorem par_lo {E : Nat → Int} {n j : Nat} (h : 8 * j + 8 ≤ n) (hE : 0 ≤ E j ∧ E j < 256) : parF E n j = E j := by
  unfold parF
  rw [show min 8 (n - 8 * j) = 8 by omega]
  exact clrN_8 hE.1 hE.2
theorem par_hi {E : Nat → Int} {n j : Nat} (h : n ≤ 8 * j) : parF E n j = 255 := by
  unfold parF
  rw [show min 8 (n - 8 * j) = 0 by omega]
  rfl
theorem clrN_bd {y : Int} : ∀ k, 0 ≤ clrN k 255 y ∧ clrN k 255 y < 256
  | 0 => by simp [clrN]
  | k + 1 => by
    have h := clrN_bd (y := y) k
    exact clr_bd h.1 h.2
/-- the bytes of a place, and those twelve behind them, have all bits between them. -/
def tameF (f : ByteArray) : Prop := f.size = 768 ∧ ∀ i j, i < 8 → j < 12 → orB (byt f (24 * i + j)) (byt f (24 * i + j + 12)) = 255
theorem whole_byt {q s z m : Int} {j : Nat} (h : j < 12) : byt (wholeB q s z m) (j + 12) = 255 - byt (wholeB q s z m) j := by
  have hz := half_size q s z m
  unfold wholeB
  rw [byt_app, byt_app, hz, if_neg (by omega), if_pos (by omega), show j + 12 - 12 = j by omega]
  exact byt_comp _ (by omega)
theorem par_tame {f y : ByteArray} {P n : Nat} {q s z m : Int} (hf : tameF f) (hy : y.size = 768) (hP : P < 8)
    (hyb : ∀ j, j < 768 → byt y j = if 24 * P ≤ j ∧ j < 24 * P + 24 then parF (byt (wholeB q s z m)) n (j - 24 * P) else byt f j) : tameF y := by
  refine ⟨hy, fun i j hi hj => ?_⟩
  rw [hyb _ (by omega), hyb _ (by omega)]
  by_cases e : i = P
  · subst e
    rw [if_pos (by omega), if_pos (by omega), show 24 * i + j - 24 * i = j by omega, show 24 * i + j + 12 - 24 * i = j + 12 by omega]
    have hb := byt_bd (wholeB q s z m) j
    by_cases hn : n ≤ 8 * (j + 12)
    · rw [par_hi hn]
      unfold parF
      have := clrN_bd (y := byt (wholeB q s z m) j) (min 8 (n - 8 * j))
      exact or_r this.1 this.2
    · rw [par_lo (by omega) hb]
      unfold parF
      rw [whole_byt hj]
      exact clr_or (by omega) hb.1 hb.2
  · rw [if_neg (by omega), if_neg (by omega)]
    exact hf.2 i j hi hj
theorem got_comp {t : ByteArray} (h : gotB t = true) {j : Nat} (hj : j < 12) : byt t (j + 12) = 255 - byt t j := by
  simp only [gotB, Bool.and_eq_true, decide_eq_true_eq] at h
  obtain ⟨hz, hc, _⟩ := h
  have e1 : byt (t.extract 12 24) j = byt t (12 + j) := Fl.byt_ex _ _ _ _ (by omega) (by omega)
  have e0 : byt (t.extract 0 12) j = byt t j := by
    have := Fl.byt_ex t 0 12 j (by omega) (by omega)
    rwa [Nat.zero_add] at this
  have hs : (t.extract 0 12).size = 12 := ex_size t 0 12 hz (by omega)
  rw [show j + 12 = 12 + j by omega, ← e1, ← hc, byt_comp _ (by omega), e0]
theorem got_size {t : ByteArray} (h : gotB t = true) : t.size = 24 := by
  simp only [gotB, Bool.and_eq_true, decide_eq_true_eq] at h
  exact h.1
theorem got_zero {t : ByteArray} (h : gotB t = true) : ¬ ∀ j, j < 4 → byt t j = 0 := by
  intro h0
  have hz := got_size h
  simp only [gotB, Bool.and_eq_true, decide_eq_true_eq] at h
  have hq := (may_parts h.2.2).1.1
  have e : t.extract 0 4 = lowB 0 4 := by
    have hs := ex_size t 0 4 hz (by omega)
    refine byt_ext (by rw [hs, lowB_size]) fun j hj => ?_
    rw [hs] at hj
    have := Fl.byt_ex t 0 4 j (by omega) (by omega)
    rw [this, Nat.zero_add, h0 j (by omega)]
    rcases j with _ | _ | _ | _ | j
    · decide
    · decide
    · decide
    · decide
    · omega
  unfold nQ at hq
  rw [e, numB_lowB] at hq
  omega
theorem par_got {t : ByteArray} {n : Nat} {q s z m : Int} (hg : gotB t = true) (ht : ∀ j, j < 24 → byt t j = parF (byt (wholeB q s z m)) n j) : t = wholeB q s z m := by
  have hz := got_size hg
  have hb := fun j => byt_bd (wholeB q s z m) j
  by_cases hn : n ≤ 96
  · exact absurd (fun j (hj : j < 4) => by
      have h1 := got_comp hg (j := j) (by omega)
      rw [ht (j + 12) (by omega), par_hi (by omega)] at h1
      omega) (got_zero hg)
  · refine byt_ext (by rw [hz, whole_size]) fun j hj => ?_
    rw [hz] at hj
    by_cases h12 : j < 12
    · rw [ht j hj, par_lo (by omega) (hb j)]
    · obtain ⟨i, rfl⟩ : ∃ i, j = i + 12 := ⟨j - 12, by omega⟩
      rw [got_comp hg (by omega), ht i (by omega), par_lo (by omega) (hb i), whole_byt (by omega)]
theorem worn_tame {f : ByteArray} {u c : Nat} (hf : tameF f) (hu : u ≤ 7) (hc : c ≤ 96) : tameF (wornB f u c) := by
  have hz : (wornB f u c).size = 768 := (worn_size (by have := hf.1; omega)).trans hf.1
  refine ⟨hz, fun i j hi hj => ?_⟩
  have h1 := byt_bd f (24 * i + j)
  have h2 := byt_bd f (24 * i + j + 12)
  rw [byt_worn (by have := hf.1; omega) (by have := hf.1; omega), byt_worn (by have := hf.1; omega) (by have := hf.1; omega)]
  split
  · split
    · exact or_l (by omega) (by omega)
    · exact or_l h2.1 h2.2
  · split
    · exact or_r h1.1 h1.2
    · exact hf.2 i j hi hj
theorem byt_place {f : ByteArray} {k j : Nat} (hf : f.size = 768) (hk : k < 8) (hj : j < 24) : byt (placeB f k) j = byt f (24 * k + j) := by
  unfold placeB
  exact Fl.byt_ex _ _ _ _ (by omega) (by omega)
theorem place_ext {f y : ByteArray} {k : Nat} (hf : f.size = 768) (hy : y.size = 768) (hk : k < 8) (h : ∀ j, 24 * k ≤ j → j < 24 * k + 24 → byt y j = byt f j) : placeB y k = placeB f k :=
  ext_same (by omega) (by omega) h
theorem worn_got {f : ByteArray} {u c k : Nat} (hf : tameF f) (hu : u ≤ 7) (hc : c ≤ 96) (hk : k < 8) (hg : gotB (placeB (wornB f u c) k) = true) : placeB (wornB f u c) k = placeB f k := by
  have hz : (wornB f u c).size = 768 := (worn_size (by have := hf.1; omega)).trans hf.1
  have hw : ∀ j, j < 768 → byt (wornB f u c) j = if u * 96 ≤ j ∧ j < u * 96 + c then 255 else byt f j := fun j hj => byt_worn (by have := hf.1; omega) (by have := hf.1; omega)
  refine place_ext hf.1 hz hk fun j h1 h2 => ?_
  rw [hw j (by omega)]
  by_cases hr : u * 96 ≤ j ∧ j < u * 96 + c
  · rw [if_pos hr]
    have key : ∀ i, i < 12 → byt (wornB f u c) (24 * k + i + 12) = 255 - byt (wornB f u c) (24 * k + i) := fun i hi => by
      have h := got_comp hg hi
      rw [byt_place hz hk (by omega), byt_place hz hk (by omega)] at h
      exact h
    have h0 := key 0 (by omega)
    rw [hw _ (by omega), hw _ (by omega), if_pos (c := u * 96 ≤ 24 * k + 0 ∧ 24 * k + 0 < u * 96 + c) (by omega)] at h0
    have hn : ¬ (u * 96 ≤ 24 * k + 0 + 12 ∧ 24 * k + 0 + 12 < u * 96 + c) := by
      intro hh
      rw [if_pos hh] at h0
      omega
    obtain ⟨i, rfl⟩ : ∃ i, j = 24 * k + i := ⟨j - 24 * k, by omega⟩
    have hi : i < 12 := by omega
    have h3 := key i hi
    rw [hw _ (by omega), hw _ (by omega), if_pos (c := u * 96 ≤ 24 * k + i ∧ 24 * k + i < u * 96 + c) hr, if_neg (by omega)] at h3
    have h4 := hf.2 k i hk hi
    rw [h3] at h4
    have hb := byt_bd f (24 * k + i)
    exact (or_0 hb.1 hb.2 h4).symm
  · rw [if_neg hr]
end Go.Proofs.Ytimnhdmpfndeaaa.Pl
