/- Layer 10: the law's walk: Blocks. -/
import Derived.Test.YtfnfnldndmkeeaaBkk
import Derived.Test.YtfnfnldndmkeeaaBkj
import Derived.Test.YtfnfnldndmkeeaaBkv
namespace Go.Proofs.Ytfnfnldndmkeeaa.Bk
open Go.RowKit Go.Proofs.Ytfnfnldndmkeeaa.Kt Go.Proofs.Ytfnfnldndmkeeaa.Lw Go.Proofs.Ytfnfnldndmkeeaa.St Go.Proofs.Ytfnfnldndmkeeaa.Nm Go.Proofs.Ytfnfnldndmkeeaa.Sl
set_option linter.unusedVariables false
set_option linter.unusedSimpArgs false
theorem own_below {w w' : World} {base n : Nat} {e : TypeId} {v : Value} {xs : List Value} (h : w.ownsRow base e 1 v n xs) (hb : Below w.heap.size w w') : w'.ownsRow base e 1 v n xs := by
  refine ⟨h.1, ?_⟩
  rcases h.2 with h0 | ⟨g, cap, cur, hv, h1, hh, h2⟩
  · exact .inl h0
  · have hlt : g < w.heap.size := by
      rcases Nat.lt_or_ge g w.heap.size with hlt | hge
      · exact hlt
      · rw [Array.getElem?_eq_none hge] at hh; cases hh
    exact .inr ⟨g, cap, cur, hv, h1, (hb.block g hlt).trans hh, h2⟩
theorem own_max {w : World} {base g n d : Nat} {e : TypeId} {xs : List Value} (h : w.ownsRow base e 1 (.slice (some ⟨g, 0, none⟩) n d) n xs) : d ≤ 9223372036854775807 ∧ base ≤ g := by
  rcases h.2 with ⟨h', _⟩ | ⟨g', cap', cur, h', hb, _, _, h2, _⟩
  · cases h'
  · injection h' with h0 _ h3
    injection h0 with h0
    injection h0 with h0
    subst h3
    subst h0
    exact ⟨h2, hb⟩
theorem joinV_form (xs : List ByteArray) : ∃ (J : ByteArray) (E : Int), joinV xs = .tuple #[.string J, .int .i64 E] := by
  cases h : joinOk xs
  · exact ⟨⟨#[]⟩, 1000, by simp only [joinV, h, cond_false]⟩
  · exact ⟨catL xs, 0, by simp only [joinV, h, cond_true]⟩
theorem own_some {w : World} {base n d : Nat} {e : TypeId} {A : Option Addr} {xs : List Value} (h : w.ownsRow base e 1 (.slice A n d) n xs) (hn : 0 < n) : ∃ g, A = some ⟨g, 0, none⟩ := by
  rcases h.2 with ⟨_, h'⟩ | ⟨g', cap', cur, h', _⟩
  · omega
  · injection h' with h0
    exact ⟨g', h0⟩
set_option maxRecDepth 100000 in
set_option maxHeartbeats 3200000 in
theorem blocks_n (s : ByteArray) (A : Option Addr) (c n : Nat) (xs : List ByteArray) (w : World) (hs : s.size ≤ 9223372036854775807) (hr : rngB (s.size : Int) 1 288 = false) (hl : Txt w A xs) (hn : xs.length = n) (hby : (n + 2) * 16 ≤ 140737488355328) :
    Calls Try.prog 11 #[.string s, .slice A n c] w fun e w' => e = .returned (.bool true) ∧ Below w.heap.size w w' := by
  obtain ⟨J, E, hJ⟩ := joinV_form xs
  have j1 := Lib.hid (fun W A c h h' => join_c A c n xs W h hn h')
  have j2 := Lib.hid (fun W A c h => rjoin_c A c n xs W h hn)
  rw [hJ] at j1 j2
  have hS := Lib.hid (fun W => sameT_c none none 0 0 0 0 [] [] W ⟨Lies.nil, by simp, by simp⟩ ⟨Lies.nil, by simp, by simp⟩ rfl rfl)
  have j0 := Lib.hid (fun W => join_c none 0 0 [] W ⟨Lies.nil, by simp, by simp⟩ rfl (Nat.le_refl _))
  have e0 : joinV [] = .tuple #[.string ⟨#[]⟩, .int .i64 1000] := by
    have hk : joinOk [] = false := by decide +kernel
    simp only [joinV, hk, cond_false]
  rw [e0] at j0
  rw [decide_eq_true (rfl : ([] : List ByteArray) = [])] at hS
  have hr' := Lib.hid hr
  have L0 := Lib.hid hl
  clear hr hl hJ
  go_enter Try.func11, Try.ntmps11
  go_wp2_with (first | (go_at_call 32; (with_reducible refine (lendT_c _ _ _ _ _ L0.out hn hby).mono ?_); rintro e w1 ⟨g, d, rfl, ⟨O1, hd⟩, hb1⟩; have T1 := L0.out.below hb1; have C1 : Txt w1 (some ⟨g, 0, none⟩) xs := (own_head O1 hn T1.2); have BB := Below.refl w1.heap.size w1) | (go_at_call 33; (with_reducible refine (split_no _ _ hs hr'.out).mono ?_); rintro e w2 ⟨rfl, rfl⟩) | (go_at_call 34; (with_reducible refine (rsplit_no _ _ hs hr'.out).mono ?_); rintro e w2 ⟨rfl, rfl⟩) | (go_at_call 35; (with_reducible refine (j1.out _ _ _ C1 (by omega)).mono ?_); rintro e w3 ⟨rfl, hb3⟩; have BB := bl_step BB hb3) | (go_at_call 35; (with_reducible refine (j0.out _).mono ?_); rintro e w4 ⟨rfl, hb4⟩; have BB := bl_step BB hb4) | (go_at_call 36; (with_reducible refine (j2.out _ _ _ (T1.below BB)).mono ?_); rintro e w5 ⟨rfl, hb5⟩; have BB := bl_step BB hb5) | (go_at_call 37; (with_reducible refine (hS.out _).mono ?_); rintro e w6 ⟨rfl, hb6⟩; have BB := bl_step BB hb6) | (go_at_call 38; (with_reducible refine (spoil0_c _).mono ?_); rintro e w7 ⟨rfl, rfl⟩) | (go_at_call 39; (with_reducible refine (kept_c _ _ _ _ _ _ _ _ (own_below O1 BB) hd (own_max O1).1 (T1.below BB) hn).mono ?_); rintro e w8 ⟨rfl, hb8⟩; have BB := bl_step BB hb8) | (go_at_call 40; (with_reducible refine (awake_c _).mono ?_); rintro e w9 ⟨rfl, hb9⟩; have BB := bl_step BB hb9) | (go_at_call 19; with_reducible refine (enum_c _ _).mono ?_; rintro e w' ⟨rfl, rfl⟩) | fail)
  go_ret
  exact ⟨by simp, bl_step hb1 BB⟩
set_option maxRecDepth 100000 in
set_option maxHeartbeats 6400000 in
theorem blocks_y (s : ByteArray) (A : Option Addr) (c n : Nat) (xs : List ByteArray) (w : World) (hr : rngB (s.size : Int) 1 288 = true) (hl : Txt w A xs) (hn : xs.length = n) (hby : (n + 2) * 16 ≤ 140737488355328) :
    Calls Try.prog 11 #[.string s, .slice A n c] w fun e w' => e = .returned (.bool true) ∧ Below w.heap.size w w' := by
  obtain ⟨J, E, hJ⟩ := joinV_form xs
  have j1 := Lib.hid (fun W A c h h' => join_c A c n xs W h hn h')
  have j2 := Lib.hid (fun W A c h => rjoin_c A c n xs W h hn)
  rw [hJ] at j1 j2
  have hS := Lib.hid (fun W B B' d d' h h' => sameT_c B B' d d' (manyN s) (manyN s) (splitL s) (splitL s) W h h' (split_len s) (split_len s))
  rw [decide_eq_true (rfl : splitL s = splitL s)] at hS
  have j0 := Lib.hid (fun W B d h h' => join_c B d (manyN s) (splitL s) W h (split_len s) h')
  rw [joinV_yes (whole_split s) (by rw [cat_split]; exact hr), cat_split] at j0
  have hb : 1 ≤ s.size ∧ s.size ≤ 288 := by simp [rngB] at hr; omega
  have hm0 : 0 < manyN s := by unfold manyN; omega
  have hm9 : manyN s ≤ 140737488355328 := by unfold manyN; omega
  have hr' := Lib.hid hr
  have L0 := Lib.hid hl
  have hsp : Hid (∀ x ∈ splitL s, x.size ≤ 1000000) := Lib.hid (fun x hx => by
    obtain ⟨i, hi, rfl⟩ := List.mem_iff_getElem.1 hx
    have := (whole_split s i _ (List.getElem?_eq_getElem hi)).2.1
    omega)
  clear hr hl hJ hb
  go_enter Try.func11, Try.ntmps11
  go_wp2_with (first | (go_at_call 32; (with_reducible refine (lendT_c _ _ _ _ _ L0.out hn hby).mono ?_); rintro e w1 ⟨g, d, rfl, ⟨O1, hd⟩, hb1⟩; have T1 := L0.out.below hb1; have C1 : Txt w1 (some ⟨g, 0, none⟩) xs := (own_head O1 hn T1.2); have BB := Below.refl w1.heap.size w1) | (go_at_call 33; (with_reducible refine (split_yes _ _ hr'.out).mono ?_); rintro e w2 ⟨B, da, rfl, O2, hb2⟩; obtain ⟨ga, rfl⟩ := own_some O2 hm0; have hda := own_cap O2; have TA := own_txt O2 (split_len _) hm9 (split_le _); have BA := Below.refl w2.heap.size w2; have BB := bl_step BB hb2) | (go_at_call 34; (with_reducible refine (rsplit_yes _ _ hr'.out).mono ?_); rintro e w3 ⟨B', db, rfl, O3, hb3⟩; have TB := own_txt O3 (split_len _) hm9 (split_le _); have BC := Below.refl w3.heap.size w3; have BA := bl_step BA hb3; have BB := bl_step BB hb3) | (go_at_call 35; (with_reducible refine (j1.out _ _ _ (C1.below BB) (by omega)).mono ?_); rintro e w4 ⟨rfl, hb4⟩; have BC := bl_step BC hb4; have BA := bl_step BA hb4; have BB := bl_step BB hb4) | (go_at_call 35; (with_reducible refine (j0.out _ _ _ (TA.below BA) hda).mono ?_); rintro e w5 ⟨rfl, hb5⟩; have BC := bl_step BC hb5; have BA := bl_step BA hb5; have BB := bl_step BB hb5) | (go_at_call 36; (with_reducible refine (j2.out _ _ _ (T1.below BB)).mono ?_); rintro e w6 ⟨rfl, hb6⟩; have BC := bl_step BC hb6; have BA := bl_step BA hb6; have BB := bl_step BB hb6) | (go_at_call 37; (with_reducible refine (hS.out _ _ _ _ _ (TA.below BA) (TB.below BC)).mono ?_); rintro e w7 ⟨rfl, hb7⟩; have BA := bl_step BA hb7; have BB := bl_step BB hb7) | (go_at_call 38; (with_reducible refine (spoil_c _ _ _ _ _ _ (own_below O2 BA) hsp.out).mono ?_); rintro e w8 ⟨rfl, hg8⟩; have BB := bl_grown BB hg8 (fun q hq => by have := (own_max O2).2; injection hq with hq; omega)) | (go_at_call 39; (with_reducible refine (kept_c _ _ _ _ _ _ _ _ (own_below O1 BB) hd (own_max O1).1 (T1.below BB) hn).mono ?_); rintro e w9 ⟨rfl, hb9⟩; have BB := bl_step BB hb9) | (go_at_call 40; (with_reducible refine (awake_c _).mono ?_); rintro e wa ⟨rfl, hba⟩; have BB := bl_step BB hba) | (go_at_call 19; with_reducible refine (enum_c _ _).mono ?_; rintro e w' ⟨rfl, rfl⟩) | fail)
  go_ret
  exact ⟨by simp, bl_step hb1 BB⟩
end Go.Proofs.Ytfnfnldndmkeeaa.Bk
