/- Layer 7: the program's Active. -/
import Derived.Test.YtimnhdmpfndeaaaChe
import Derived.Test.YtimnhdmpfndeaaaChb
namespace Go.Proofs.Ytimnhdmpfndeaaa.Ch
open Go.RowKit Go.Proofs.Ytimnhdmpfndeaaa.Kt Go.Proofs.Ytimnhdmpfndeaaa.Lw Go.Proofs.Ytimnhdmpfndeaaa.St Go.Proofs.Ytimnhdmpfndeaaa.Nm Go.Proofs.Ytimnhdmpfndeaaa.By Go.Proofs.Ytimnhdmpfndeaaa.En Go.Proofs.Ytimnhdmpfndeaaa.Jr Go.Proofs.Ytimnhdmpfndeaaa.Im Go.Proofs.Ytimnhdmpfndeaaa.Sl Go.Proofs.Ytimnhdmpfndeaaa.Hp
set_option linter.unusedVariables false
set_option linter.unusedSimpArgs false
attribute [local irreducible] gotB goodB Cr.crcB nQ nS nZ nM placeB
/-- what is left in the queue: all that may be good. -/
structure Left (f : ByteArray) (F : Nat → PlV) (n : Nat) : Prop where
  mem : ∀ k, k < n → F k ∈ scanL f
  all : ∀ x ∈ scanL f, gdP f x = false ∨ ∃ k, k < n ∧ F k = x
theorem Left.same {f : ByteArray} {F G : Nat → PlV} {n : Nat} (h : Left f F n) (s : SameF F G n) : Left f G n := by
  refine ⟨fun k hk => ?_, fun x hx => ?_⟩
  · obtain ⟨m, hm, e⟩ := s.1 k hk
    rw [e]
    exact h.mem m hm
  · rcases h.all x hx with a | ⟨k, hk, e⟩
    · exact .inl a
    · obtain ⟨m, hm, e'⟩ := s.2.1 k hk
      exact .inr ⟨m, hm, by rw [← e', e]⟩
theorem Left.pop {f : ByteArray} {F G : Nat → PlV} {n : Nat} (h : Left f F (n + 1)) (hb : gdP f (F 0) = false) (s : SameF (swF F 0 n) G n) : Left f G n := by
  refine ⟨fun k hk => ?_, fun x hx => ?_⟩
  · obtain ⟨m, hm, e⟩ := s.1 k hk
    rw [e]
    by_cases e0 : m = 0
    · subst e0
      rw [sw_i]
      exact h.mem n (by omega)
    · rw [sw_o e0 (by omega)]
      exact h.mem m (by omega)
  · rcases h.all x hx with a | ⟨k, hk, rfl⟩
    · exact .inl a
    · by_cases k0 : k = 0
      · subst k0
        exact .inl hb
      · by_cases kn : k = n
        · subst kn
          obtain ⟨m, hm, e⟩ := s.2.1 0 (by omega)
          rw [sw_i] at e
          exact .inr ⟨m, hm, e.symm⟩
        · obtain ⟨m, hm, e⟩ := s.2.1 k (by omega)
          rw [sw_o k0 kn] at e
          exact .inr ⟨m, hm, e.symm⟩
theorem Left.best {f : ByteArray} {F : Nat → PlV} {n : Nat} (h : Left f F (n + 1)) (hh : HeapF leP F 0 (n + 1)) (hg : gdP f (F 0) = true) : IsBest f (scanL f) (F 0) := by
  refine ⟨h.mem 0 (by omega), hg, fun x hx gx => ?_⟩
  rcases h.all x hx with a | ⟨k, hk, rfl⟩
  · rw [a] at gx; cases gx
  · exact hh.head leP.refl (fun _ _ _ => leP.trans) k hk
theorem Left.none {f : ByteArray} {F : Nat → PlV} (h : Left f F 0) : ∀ x ∈ scanL f, gdP f x = false := by
  intro x hx
  rcases h.all x hx with a | ⟨k, hk, _⟩
  · exact a
  · omega
/-- the scan's row as the queue's array. -/
def funL (l : List PlV) (k : Nat) : PlV := l.getD k ⟨0, 0, 0, 0, 0⟩
theorem fun_at {l : List PlV} {k : Nat} (h : k < l.length) : l[k]? = some (funL l k) := by
  unfold funL
  rw [List.getD_eq_getElem?_getD, List.getElem?_eq_getElem h]
  rfl
theorem left_scan (f : ByteArray) : Left f (funL (scanL f)) (scanL f).length :=
  ⟨fun k hk => List.mem_of_getElem? (fun_at hk), fun x hx => by
    obtain ⟨k, hk, e⟩ := List.mem_iff_getElem.1 hx
    refine .inr ⟨k, hk, ?_⟩
    have := fun_at hk
    rw [List.getElem?_eq_getElem hk] at this
    rw [← Option.some.inj this, e]⟩
theorem arr_own {w : World} {base g c : Nat} {T : TypeId} {l : List PlV} (h : w.ownsRow base T 5 (.slice (some ⟨g, 0, none⟩) l.length c) l.length (l.flatMap encP)) : Arr w g l.length (funL l) ∧ base ≤ g ∧ l.length ≤ c := by
  have hl := h.lt g rfl
  have hc : ∀ k, k < l.length → ∀ i v, (encP (funL l k))[i]? = some v → w.cell? ⟨g, k * 5 + i, none⟩ = some v := fun k hk i v hv => by
    have := h.cells (g := g) rfl (k * 5 + i) v (flat_at encP_len l k _ i v (fun_at hk) hv)
    rwa [add_plain] at this
  rcases h.2 with ⟨e, _⟩ | ⟨g', cap, cur, e, _, hg, hcap, _, hz, _⟩
  · cases e
  · injection e with e1 e2 e3
    injection e1 with e1
    injection e1 with e1
    subst e1
    subst e3
    exact ⟨⟨hl.2, fun k hk => hc k hk 0 _ rfl, fun k hk => hc k hk 1 _ rfl, fun k hk => hc k hk 2 _ rfl, fun k hk => hc k hk 3 _ rfl, fun k hk => hc k hk 4 _ rfl, fun i hi => by simp [World.frozen?, hg]⟩, hl.1, hcap⟩
set_option maxHeartbeats 1600000 in
theorem active_no (f : ByteArray) (w : World) (h : f.size ≤ 9223372036854775807) (hf : ¬ f.size = 768) : Calls Try.prog 63 #[.string f] w fun e w' => e = .returned (.tuple #[.agg #[.int .i64 0, .int .i64 0, .int .i64 0, .int .i64 0, .int .i64 0], .int .i64 700]) ∧ Below w.heap.size w w' := by
  have HB := Below.refl w.heap.size w
  have K0 := Blk.new w #[.int .i64 0, .int .i64 0, .int .i64 0, .int .i64 0, .int .i64 0] 40
  have sc := Lib.hid (fun W : World => scan_no f W h hf)
  clear hf
  go_enter Try.func63, Try.ntmps63
  go_wp2_with (first | (go_at_call 32; with_reducible refine (sc.out _).mono ?_; rintro e w' ⟨rfl, rfl⟩) | fail)
  exact bodyPost_ret (v := .tuple #[.agg #[.int .i64 0, .int .i64 0, .int .i64 0, .int .i64 0, .int .i64 0], .int .i64 700]) (by simp [results, Try.results63, go_sem, *]) rfl ⟨rfl, (by repeat (with_reducible first | exact Below.refl _ _ | assumption | (refine bl_set ?_ (by omega)) | apply bl_alloc | apply bl_drewN | apply bl_drew | (refine bl_step ?_ (by assumption)) | fail))⟩
theorem own_form {w : World} {base : Nat} {T : TypeId} {A : Option Addr} {n c : Nat} {xs : List Value} (h : w.ownsRow base T 5 (.slice A n c) n xs) : (A = none ∧ n = 0 ∧ c = 0) ∨ ∃ g, A = some ⟨g, 0, none⟩ := by
  rcases h.2 with ⟨e, e2⟩ | ⟨g, cap, cur, e, _⟩
  · injection e with e1 _ e3
    exact .inl ⟨e1, e2, e3⟩
  · injection e with e1 _ _
    exact .inr ⟨g, e1⟩
set_option maxRecDepth 100000 in
set_option maxHeartbeats 3200000 in
theorem init_nil_c (gq : Nat) (w : World) (K0 : Blk w gq #[.slice none 0 0] 114) :
    Calls Try.prog 85 #[.iface 116 (.pointer (some ⟨gq, 0, none⟩))] w fun e w' => e = .returned (.tuple #[]) ∧ w = w' := by
  obtain ⟨cK0_0, fK0, lK0, nK0, mK0⟩ := Blk.all1 K0
  have ml := fun k : Nat => (m_len0 k ⟨gq, 0, none⟩ w).trans (run_ld cK0_0)
  go_enter Try.func85, Try.ntmps85
  go_wp2_with (first | (go_at_call 86; with_reducible refine (len_c _ _ _ _).mono ?_; rintro e w' ⟨rfl, rfl⟩) | fail)
  go_loopg [3] 1 (fun gg s3 wr => s3 = .int .i64 (-1) ∧ w = wr)
  case atStart => exact ⟨rfl, rfl⟩
  case round =>
    obtain ⟨rfl, rfl⟩ := hrel
    go_wp2_with fail
    go_end0
    exact ⟨rfl, rfl⟩
theorem assert_place (v : Value) (w : World) : (Instr.typeAssert (.iface 40 v) 20 40 false).run Try.prog w = .ok v w := by kernel_rfl
set_option maxRecDepth 100000 in
set_option maxHeartbeats 12800000 in
theorem active_c (f : ByteArray) (w : World) (hf : f.size = 768) : Calls Try.prog 63 #[.string f] w fun e w' => e = .returned (.tuple #[.agg (actV f), .int .i64 (actE f)]) ∧ Below w.heap.size w w' := by
  have HB := Below.refl w.heap.size w
  have K0 := Blk.new w #[.int .i64 0, .int .i64 0, .int .i64 0, .int .i64 0, .int .i64 0] 40
  have sc := Lib.hid (fun W : World => scan_yes f W hf)
  have HF := Lib.hid hf
  clear hf
  go_enter Try.func63, Try.ntmps63
  go_upto_region 4 with (first | (go_at_call 32; (with_reducible refine (sc.out _).mono ?_); rintro e w' ⟨A, c, rfl, hown, hb⟩; have HB := bl_step (w := w) (by repeat (with_reducible first | exact HB | (refine bl_set ?_ (by omega)) | apply bl_alloc | apply bl_drew | apply bl_drewN | fail)) hb; have hzB := HB.size; have K0 := Blk.on (by first | exact K0 | exact K0 #[] | exact K0 (.cells #[] 0) #[]) (by repeat (with_reducible first | exact K0 | exact K0 _ | exact K0 _ _ | apply Blk.alloc | apply Blk.drew | apply Blk.drewN | apply Blk.set5_0 | apply Blk.set5_1 | apply Blk.set5_2 | apply Blk.set5_3 | apply Blk.set5_4 | (apply Blk.off; (first | assumption | omega | (simp; omega))) | fail)) hb; (try clear cK0_0 cK0_1 cK0_2 cK0_3 cK0_4 fK0 lK0 nK0 mK0); obtain ⟨cK0_0, cK0_1, cK0_2, cK0_3, cK0_4, fK0, lK0, nK0, mK0⟩ := Blk.all5 K0) | fail)
  have hln : (scanL f).length ≤ 8 := scanN_le f 8
  have K1 := fun cs => Blk.new w' cs 114
  have hwz : w.heap.size < w'.heap.size := lK0
  clear cK0_0 cK0_1 cK0_2 cK0_3 cK0_4 fK0 lK0 nK0 mK0 hzB sc
  rcases own_form hown with ⟨rfl, hl0, rfl⟩ | ⟨ga, rfl⟩
  · have hno := Lib.hid (act_none (active_none (fun x hx => by
      have : scanL f = [] := List.eq_nil_of_length_eq_zero hl0
      rw [this] at hx
      cases hx)))
    clear hown hb
    rw [hl0]
    go_upto_region 5 with fail
    have K1 := K1 #[.slice none 0 0]
    have K0 := K0.alloc (.cells #[.slice none 0 0] 114)
    have HB := bl_alloc HB (.cells #[.slice none 0 0] 114)
    generalize w'.alloc (.cells #[.slice none 0 0] 114) = w2 at *
    generalize w'.heap.size = gq at *
    have in1 := Lib.hid (init_nil_c gq w2 K1)
    obtain ⟨cK0_0, cK0_1, cK0_2, cK0_3, cK0_4, fK0, lK0, nK0, mK0⟩ := Blk.all5 K0
    obtain ⟨cK1_0, fK1, lK1, nK1, mK1⟩ := Blk.all1 K1
    go_wp2_with (first | (go_at_call 85; with_reducible refine in1.out.mono ?_; rintro e w3 ⟨rfl, rfl⟩) | fail)
    go_loopg [7, 8, 9] 1 (fun gg _ _ _ wr => w2 = wr)
    case atStart => rfl
    case round =>
      obtain rfl := hrel
      go_wp2_with (first | (go_at_call 86; with_reducible refine (len_c _ _ _ _).mono ?_; rintro e w' ⟨rfl, rfl⟩) | fail)
      exact bodyPost_ret (v := .tuple #[.agg #[.int .i64 0, .int .i64 0, .int .i64 0, .int .i64 0, .int .i64 0], .int .i64 701]) (by simp [results, Try.results63, go_sem, *]) rfl ⟨by rw [hno.out.1, hno.out.2], (by repeat (with_reducible first | exact Below.refl _ _ | assumption | (refine bl_set ?_ (by omega)) | apply bl_alloc | apply bl_drewN | apply bl_drew | (refine bl_step ?_ (by assumption)) | fail))⟩
  · obtain ⟨hA, hgab, hcap⟩ := arr_own hown
    have hgaw : w.heap.size + 1 ≤ ga := by simpa using hgab
    have hgal : ga < w'.heap.size := hA.lt
    have LF := left_scan f
    generalize (scanL f).length = n at *
    generalize funL (scanL f) = F0 at *
    clear hown hb hgab
    go_upto_region 5 with fail
    have K1 := K1 #[.slice (some ⟨ga, 0, none⟩) n c]
    have K0 := K0.alloc (.cells #[.slice (some ⟨ga, 0, none⟩) n c] 114)
    have HB := bl_alloc HB (.cells #[.slice (some ⟨ga, 0, none⟩) n c] 114)
    have hA := hA.below (bl_alloc (Below.refl _ _) (.cells #[.slice (some ⟨ga, 0, none⟩) n c] 114))
    generalize w'.alloc (.cells #[.slice (some ⟨ga, 0, none⟩) n c] 114) = w2 at *
    generalize w'.heap.size = gq at *
    have hgq : ga ≠ gq := by omega
    have in1 := Lib.hid (init_c gq ga n n c F0 w2 K1 hA (Nat.le_refl _) (by omega) hgq)
    go_wp2_with (first | (go_at_call 85; with_reducible refine in1.out.mono ?_; rintro e w3 ⟨rfl, F1, hH1, hS1, hK1, hA1, hg1⟩) | fail)
    have HB3 : Below w.heap.size w w3 := bl_gb HB hg1 (by omega)
    have K03 := blk_gb K0 hg1 (show w.heap.size ≠ ga by omega)
    have LF1 := LF.same hS1
    clear K1 K0 HB hA hg1 hS1 LF in1
    go_loopg [7, 8, 9] (n + 1) (fun gg _ _ _ wr => ∃ (m : Nat) (F : Nat → PlV), m ≤ gg ∧ m ≤ n ∧ Aside (HeapF leP F 0 m) ∧ Aside (Left f F m) ∧ Aside (Blk wr gq #[.slice (some ⟨ga, 0, none⟩) m c] 114) ∧ Aside (Arr wr ga n F) ∧ Aside (Below w.heap.size w wr) ∧ Aside (Blk wr w.heap.size #[.int .i64 0, .int .i64 0, .int .i64 0, .int .i64 0, .int .i64 0] 40))
    case atStart => exact ⟨n, F1, by omega, by omega, hH1, LF1, hK1, hA1, HB3, K03⟩
    case round =>
      clear hH1 LF1 hK1 hA1 HB3 K03
      obtain ⟨m, F, hmg, hmn, BH, BL, BK, BA, BW, B0⟩ := hrel
      have HB := BW.out
      have K0 := B0.out
      have K1 := BK.out
      obtain ⟨cK0_0, cK0_1, cK0_2, cK0_3, cK0_4, fK0, lK0, nK0, mK0⟩ := Blk.all5 K0
      obtain ⟨cK1_0, fK1, lK1, nK1, mK1⟩ := Blk.all1 K1
      rcases Nat.eq_zero_or_pos m with rfl | hm0
      · have hno := Lib.hid (act_none (active_none BL.out.none))
        go_wp2_with (first | (go_at_call 86; with_reducible refine (len_c _ _ _ _).mono ?_; rintro e w' ⟨rfl, rfl⟩) | fail)
        exact bodyPost_ret (v := .tuple #[.agg #[.int .i64 0, .int .i64 0, .int .i64 0, .int .i64 0, .int .i64 0], .int .i64 701]) (by simp [results, Try.results63, go_sem, *]) rfl ⟨by rw [hno.out.1, hno.out.2], (by repeat (with_reducible first | exact Below.refl _ _ | assumption | (refine bl_set ?_ (by omega)) | apply bl_alloc | apply bl_drewN | apply bl_drew | (refine bl_step ?_ (by assumption)) | fail))⟩
      · obtain ⟨k, rfl⟩ : ∃ k, m = k + 1 := ⟨m - 1, by omega⟩
        have hm1 : decide ((0 : Int) < ((k + 1 : Nat) : Int)) = true := by first | (simp; done) | (simp; omega)
        have hp := Lib.hid (hpop_c gq ga n k c F wr K1 BA.out hmn (by omega) (by omega) hgq BH.out)
        have hok := scan_ok (BL.out.mem 0 (by omega))
        have gd := Lib.hid (fun W : World => good_c f (F 0).q (F 0).s (F 0).z (F 0).m W HF.out hok.may)
        clear hok
        have tas := fun (v : Value) (W : World) => assert_place v W
        go_upto_region 8 with (first | (go_at_call 86; with_reducible refine (len_c _ _ _ _).mono ?_; rintro e w' ⟨rfl, rfl⟩) | (go_at_call 87; with_reducible refine hp.out.mono ?_; rintro e w4 ⟨rfl, F4, hH4, hS4, hK4, hA4, hfr⟩) | fail)
        have KP := Blk.new w4 #[.int .i64 (F 0).at_, .int .i64 (F 0).q, .int .i64 (F 0).s, .int .i64 (F 0).z, .int .i64 (F 0).m] 40
        have HB := bl_alloc (bl_fr2 HB hfr (by omega) (by omega)) (.cells #[.int .i64 (F 0).at_, .int .i64 (F 0).q, .int .i64 (F 0).s, .int .i64 (F 0).z, .int .i64 (F 0).m] 40)
        have K0 := (blk_fr2 K0 hfr (show w.heap.size ≠ ga by omega) (show w.heap.size ≠ gq by omega)).alloc (.cells #[.int .i64 (F 0).at_, .int .i64 (F 0).q, .int .i64 (F 0).s, .int .i64 (F 0).z, .int .i64 (F 0).m] 40)
        have K1 := hK4.alloc (.cells #[.int .i64 (F 0).at_, .int .i64 (F 0).q, .int .i64 (F 0).s, .int .i64 (F 0).z, .int .i64 (F 0).m] 40)
        have A4 := hA4.below (bl_alloc (Below.refl _ _) (.cells #[.int .i64 (F 0).at_, .int .i64 (F 0).q, .int .i64 (F 0).s, .int .i64 (F 0).z, .int .i64 (F 0).m] 40))
        have hwp : w.heap.size < w4.heap.size := Nat.lt_of_lt_of_le lK0 hfr.size
        have LB := Lib.hid (fun (hg : gdP f (F 0) = false) => BL.out.pop hg hS4)
        have LG := Lib.hid (fun (hg : gdP f (F 0) = true) => BL.out.best BH.out hg)
        clear hK4 hA4 hfr hp tas hm1 cK0_0 cK0_1 cK0_2 cK0_3 cK0_4 fK0 lK0 nK0 mK0 cK1_0 fK1 lK1 nK1 mK1 BA BH BL
        generalize F 0 = p at *
        generalize w4.alloc (.cells #[.int .i64 p.at_, .int .i64 p.q, .int .i64 p.s, .int .i64 p.z, .int .i64 p.m] 40) = w5 at *
        generalize w4.heap.size = gp at *
        have hne0 : w.heap.size ≠ gp := by omega
        obtain ⟨cK0_0, cK0_1, cK0_2, cK0_3, cK0_4, fK0, lK0, nK0, mK0⟩ := Blk.all5 K0
        obtain ⟨cKP_0, cKP_1, cKP_2, cKP_3, cKP_4, fKP, lKP, nKP, mKP⟩ := Blk.all5 KP
        cases hgd : goodB f p.s p.z p.m
        · rw [hgd] at gd
          have LF := LB.out hgd
          go_wp2_with (first | (go_at_call 88; with_reducible refine (gd.out _).mono ?_; rintro e w' ⟨rfl, hb⟩) | fail)
          go_roundg k
          case measure => omega
          case rel => exact ⟨k, F4, by omega, by omega, hH4, LF, K1.below hb, A4.below hb, bl_step HB hb, K0.below hb⟩
        · rw [hgd] at gd
          have hv := Lib.hid (act_some (active_some (LG.out hgd)))
          go_wp2_with (first | (go_at_call 88; with_reducible refine (gd.out _).mono ?_; rintro e w' ⟨rfl, hb⟩; have HB := bl_step (w := w) (by repeat (with_reducible first | exact HB | (refine bl_set ?_ (by omega)) | apply bl_alloc | apply bl_drew | apply bl_drewN | fail)) hb; have hzB := HB.size; have K0 := Blk.on (by first | exact K0 | exact K0 #[] | exact K0 (.cells #[] 0) #[]) (by repeat (with_reducible first | exact K0 | exact K0 _ | exact K0 _ _ | apply Blk.alloc | apply Blk.drew | apply Blk.drewN | apply Blk.set5_0 | apply Blk.set5_1 | apply Blk.set5_2 | apply Blk.set5_3 | apply Blk.set5_4 | (apply Blk.off; (first | assumption | omega | (simp; omega))) | fail)) hb; (try clear cK0_0 cK0_1 cK0_2 cK0_3 cK0_4 fK0 lK0 nK0 mK0); obtain ⟨cK0_0, cK0_1, cK0_2, cK0_3, cK0_4, fK0, lK0, nK0, mK0⟩ := Blk.all5 K0; have KP := Blk.on (by first | exact KP | exact KP #[] | exact KP (.cells #[] 0) #[]) (by repeat (with_reducible first | exact KP | exact KP _ | exact KP _ _ | apply Blk.alloc | apply Blk.drew | apply Blk.drewN | apply Blk.set5_0 | apply Blk.set5_1 | apply Blk.set5_2 | apply Blk.set5_3 | apply Blk.set5_4 | (apply Blk.off; (first | assumption | omega | (simp; omega))) | fail)) hb; (try clear cKP_0 cKP_1 cKP_2 cKP_3 cKP_4 fKP lKP nKP mKP); obtain ⟨cKP_0, cKP_1, cKP_2, cKP_3, cKP_4, fKP, lKP, nKP, mKP⟩ := Blk.all5 KP) | fail)
          exact bodyPost_ret (v := .tuple #[.agg #[.int .i64 p.at_, .int .i64 p.q, .int .i64 p.s, .int .i64 p.z, .int .i64 p.m], .int .i64 0]) (by simp [results, Try.results63, go_sem, *]) rfl ⟨by rw [hv.out.1, hv.out.2], (by repeat (with_reducible first | exact Below.refl _ _ | assumption | (refine bl_set ?_ (by omega)) | apply bl_alloc | apply bl_drewN | apply bl_drew | (refine bl_step ?_ (by assumption)) | fail))⟩
end Go.Proofs.Ytimnhdmpfndeaaa.Ch
