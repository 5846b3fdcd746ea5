/- Layer 17: a block: what the references' Download answers (printed by gen_dlb.py). -/
import Derived.Test.YtalgfekpcklijaaGreatDlc
import Derived.Test.YtalgfekpcklijaaGreatBlx
import Derived.Test.YtalgfekpcklijaaGreatGta
namespace Go.Proofs.YtalgfekpcklijaaGreat.Dv
open Go.RowKit Go.Proofs.YtalgfekpcklijaaGreat.Kt Go.Proofs.YtalgfekpcklijaaGreat.Lw Go.Proofs.YtalgfekpcklijaaGreat.St Go.Proofs.YtalgfekpcklijaaGreat.Nm Go.Proofs.YtalgfekpcklijaaGreat.Es Go.Proofs.YtalgfekpcklijaaGreat.By Go.Proofs.YtalgfekpcklijaaGreat.En Go.Proofs.YtalgfekpcklijaaGreat.Jr Go.Proofs.YtalgfekpcklijaaGreat.Im Go.Proofs.YtalgfekpcklijaaGreat.Sl Go.Proofs.YtalgfekpcklijaaGreat.Gr Go.Proofs.YtalgfekpcklijaaGreat.Ops Go.Proofs.YtalgfekpcklijaaGreat.Ch Go.Proofs.YtalgfekpcklijaaGreat.Fl Go.Proofs.YtalgfekpcklijaaGreat.Pl
set_option linter.unusedVariables false
set_option linter.unusedSimpArgs false
attribute [local irreducible] gotB goodB Cr.crcB nQ nS nZ nM placeB wholeB devMay
theorem body_gen1 {P : Program} {f : Func} {Q : Ending → World → Prop} {e : Exit} {a : Act} {w W : World} {g1 : Nat} {cs1 : Array Value} {t1 : TypeId} {A : Option Addr} {xs : List OpV} (L1 : Blk W g1 cs1 t1) (O : Own W w.heap.size A xs) (B : Below w.heap.size w W)
    (h : ∀ W', Blk W' g1 cs1 t1 → Own W' w.heap.size A xs → Below w.heap.size w W' → bodyPost P f Q e a W') : bodyPost P f Q e a W := h W L1 O B
theorem rdown_arg (b : Int) (w : World) : Calls Tryz.prog 65 #[.int .i64 b, .int .i64 0, .int .i64 65535] w fun e w' => e = .returned (.bool (rngB b 0 65535)) ∧ w = w' := upTo16_c b 0 65535 w
set_option maxRecDepth 100000 in
set_option maxHeartbeats 12800000 in
theorem rdown_f (f : ByteArray) (d : DS) (b : Int) (t : ByteArray) (A : Option Addr) (c n : Nat) (w : World) (h : f.size ≤ 9223372036854775807) (hl : Row w A d.ops) (hn : d.ops.length = n) (ht : t.size ≤ 9223372036854775807) (hno : downOk f d b t = false) :
    Calls Tryz.prog 54 #[.string f, (.agg #[.int .i64 d.st, .int .i64 d.su, .int .i64 d.nx, .int .i64 d.go, .int .i64 d.sl, .slice A n c]), .int .i64 b, .string t] w (GivesE w (DS.zero) 1700) := by
  obtain ⟨s, st, nx, g, sl, xs⟩ := d
  simp only at hl hn ⊢
  have HB := Below.refl w.heap.size w
  have K0 := Blk.new w #[.int .i64 s, .int .i64 st, .int .i64 nx, .int .i64 g, .int .i64 sl, .slice A n c] 24
  have K1 := fun cs0 => Blk.new1 w (.cells cs0 24) #[.int .i64 0, .int .i64 0, .int .i64 0, .int .i64 0, .int .i64 0, .slice none 0 0] 24
  have bt := Lib.hid (fun W (h1 : Below w.heap.size w W) => both_c f ⟨s, st, nx, g, sl, xs⟩ A c n W h (hl.below h1) hn)
  simp only at bt
  have uu := Lib.hid (fun W : World => rdown_arg b W)
  cases hb : bothB f ⟨s, st, nx, g, sl, xs⟩
  · rw [hb] at bt
    clear hno hl hb
    go_enter Tryz.func54, Tryz.ntmps54
    go_wp2_with (first | (go_at_call 50; with_reducible refine (bt.out _ (by repeat (with_reducible first | exact Below.refl _ _ | assumption | (refine bl_set ?_ (by omega)) | apply bl_alloc | apply bl_drewN | apply bl_drew | (refine bl_step ?_ (by assumption)) | fail))).mono ?_; rintro e w' ⟨rfl, hb⟩; have HB := bl_step (w := w) (by repeat (with_reducible first | exact HB | (refine bl_set ?_ (by omega)) | apply bl_alloc | apply bl_drew | apply bl_drewN | fail)) hb; have hzB := HB.size; have K0 := Blk.on (by first | exact K0 | exact K0 #[] | exact K0 (.cells #[] 0) #[] | exact K0 #[] #[]) (by repeat (with_reducible first | exact K0 | exact K0 _ | exact K0 _ _ | apply Blk.alloc | apply Blk.drew | (apply Blk.off; (first | assumption | omega | (simp; omega))) | fail)) hb; (try clear eK0); have eK0 := Blk.ev K0; have K1 := Blk.on (by first | exact K1 | exact K1 #[] | exact K1 (.cells #[] 0) #[] | exact K1 #[] #[]) (by repeat (with_reducible first | exact K1 | exact K1 _ | exact K1 _ _ | apply Blk.alloc | apply Blk.drew | (apply Blk.off; (first | assumption | omega | (simp; omega))) | fail)) hb; (try clear eK1); have eK1 := Blk.ev K1) | (go_at_call 65; with_reducible refine (uu.out _).mono ?_; rintro e w' ⟨rfl, rfl⟩) | fail)
    exact bodyPost_ret (v := .tuple #[.agg #[.int .i64 0, .int .i64 0, .int .i64 0, .int .i64 0, .int .i64 0, .slice none 0 0], .int .i64 1700]) (by simp [results, Tryz.results54, go_sem, *]) rfl ⟨⟨none, 0, 0, rfl, rfl, Own.nil⟩, (by repeat (with_reducible first | exact Below.refl _ _ | assumption | (refine bl_set ?_ (by omega)) | apply bl_alloc | apply bl_drewN | apply bl_drew | (refine bl_step ?_ (by assumption)) | fail))⟩
  · rw [hb] at bt
    have hk := down_no hno (both_parts hb).1 (both_parts hb).2
    simp only at hk
    clear hno hl hb
    rcases hk with ⟨h0, h3⟩ | ⟨hs, hr⟩ | ⟨hs, hr, hz⟩
    · have h0 : (s == 0) = false := by simpa using h0
      have h3 : (s == 3) = false := by simpa using h3
      go_enter Tryz.func54, Tryz.ntmps54
      go_wp2_with (first | (go_at_call 50; with_reducible refine (bt.out _ (by repeat (with_reducible first | exact Below.refl _ _ | assumption | (refine bl_set ?_ (by omega)) | apply bl_alloc | apply bl_drewN | apply bl_drew | (refine bl_step ?_ (by assumption)) | fail))).mono ?_; rintro e w' ⟨rfl, hb⟩; have HB := bl_step (w := w) (by repeat (with_reducible first | exact HB | (refine bl_set ?_ (by omega)) | apply bl_alloc | apply bl_drew | apply bl_drewN | fail)) hb; have hzB := HB.size; have K0 := Blk.on (by first | exact K0 | exact K0 #[] | exact K0 (.cells #[] 0) #[] | exact K0 #[] #[]) (by repeat (with_reducible first | exact K0 | exact K0 _ | exact K0 _ _ | apply Blk.alloc | apply Blk.drew | (apply Blk.off; (first | assumption | omega | (simp; omega))) | fail)) hb; (try clear eK0); have eK0 := Blk.ev K0; have K1 := Blk.on (by first | exact K1 | exact K1 #[] | exact K1 (.cells #[] 0) #[] | exact K1 #[] #[]) (by repeat (with_reducible first | exact K1 | exact K1 _ | exact K1 _ _ | apply Blk.alloc | apply Blk.drew | (apply Blk.off; (first | assumption | omega | (simp; omega))) | fail)) hb; (try clear eK1); have eK1 := Blk.ev K1) | (go_at_call 65; with_reducible refine (uu.out _).mono ?_; rintro e w' ⟨rfl, rfl⟩) | fail)
      exact bodyPost_ret (v := .tuple #[.agg #[.int .i64 0, .int .i64 0, .int .i64 0, .int .i64 0, .int .i64 0, .slice none 0 0], .int .i64 1700]) (by simp [results, Tryz.results54, go_sem, *]) rfl ⟨⟨none, 0, 0, rfl, rfl, Own.nil⟩, (by repeat (with_reducible first | exact Below.refl _ _ | assumption | (refine bl_set ?_ (by omega)) | apply bl_alloc | apply bl_drewN | apply bl_drew | (refine bl_step ?_ (by assumption)) | fail))⟩
    · rw [hr] at uu
      rcases hs with rfl | rfl
      all_goals (go_enter Tryz.func54, Tryz.ntmps54; go_wp2_with (first | (go_at_call 50; with_reducible refine (bt.out _ (by repeat (with_reducible first | exact Below.refl _ _ | assumption | (refine bl_set ?_ (by omega)) | apply bl_alloc | apply bl_drewN | apply bl_drew | (refine bl_step ?_ (by assumption)) | fail))).mono ?_; rintro e w' ⟨rfl, hb⟩; have HB := bl_step (w := w) (by repeat (with_reducible first | exact HB | (refine bl_set ?_ (by omega)) | apply bl_alloc | apply bl_drew | apply bl_drewN | fail)) hb; have hzB := HB.size; have K0 := Blk.on (by first | exact K0 | exact K0 #[] | exact K0 (.cells #[] 0) #[] | exact K0 #[] #[]) (by repeat (with_reducible first | exact K0 | exact K0 _ | exact K0 _ _ | apply Blk.alloc | apply Blk.drew | (apply Blk.off; (first | assumption | omega | (simp; omega))) | fail)) hb; (try clear eK0); have eK0 := Blk.ev K0; have K1 := Blk.on (by first | exact K1 | exact K1 #[] | exact K1 (.cells #[] 0) #[] | exact K1 #[] #[]) (by repeat (with_reducible first | exact K1 | exact K1 _ | exact K1 _ _ | apply Blk.alloc | apply Blk.drew | (apply Blk.off; (first | assumption | omega | (simp; omega))) | fail)) hb; (try clear eK1); have eK1 := Blk.ev K1) | (go_at_call 65; with_reducible refine (uu.out _).mono ?_; rintro e w' ⟨rfl, rfl⟩) | fail); exact bodyPost_ret (v := .tuple #[.agg #[.int .i64 0, .int .i64 0, .int .i64 0, .int .i64 0, .int .i64 0, .slice none 0 0], .int .i64 1700]) (by simp [results, Tryz.results54, go_sem, *]) rfl ⟨⟨none, 0, 0, rfl, rfl, Own.nil⟩, (by repeat (with_reducible first | exact Below.refl _ _ | assumption | (refine bl_set ?_ (by omega)) | apply bl_alloc | apply bl_drewN | apply bl_drew | (refine bl_step ?_ (by assumption)) | fail))⟩)
    · rw [hr] at uu
      have hz : decide (32 < (t.size : Int)) = true := by simp; omega
      rcases hs with rfl | rfl
      all_goals (go_enter Tryz.func54, Tryz.ntmps54; go_wp2_with (first | (go_at_call 50; with_reducible refine (bt.out _ (by repeat (with_reducible first | exact Below.refl _ _ | assumption | (refine bl_set ?_ (by omega)) | apply bl_alloc | apply bl_drewN | apply bl_drew | (refine bl_step ?_ (by assumption)) | fail))).mono ?_; rintro e w' ⟨rfl, hb⟩; have HB := bl_step (w := w) (by repeat (with_reducible first | exact HB | (refine bl_set ?_ (by omega)) | apply bl_alloc | apply bl_drew | apply bl_drewN | fail)) hb; have hzB := HB.size; have K0 := Blk.on (by first | exact K0 | exact K0 #[] | exact K0 (.cells #[] 0) #[] | exact K0 #[] #[]) (by repeat (with_reducible first | exact K0 | exact K0 _ | exact K0 _ _ | apply Blk.alloc | apply Blk.drew | (apply Blk.off; (first | assumption | omega | (simp; omega))) | fail)) hb; (try clear eK0); have eK0 := Blk.ev K0; have K1 := Blk.on (by first | exact K1 | exact K1 #[] | exact K1 (.cells #[] 0) #[] | exact K1 #[] #[]) (by repeat (with_reducible first | exact K1 | exact K1 _ | exact K1 _ _ | apply Blk.alloc | apply Blk.drew | (apply Blk.off; (first | assumption | omega | (simp; omega))) | fail)) hb; (try clear eK1); have eK1 := Blk.ev K1) | (go_at_call 65; with_reducible refine (uu.out _).mono ?_; rintro e w' ⟨rfl, rfl⟩) | fail); exact bodyPost_ret (v := .tuple #[.agg #[.int .i64 0, .int .i64 0, .int .i64 0, .int .i64 0, .int .i64 0, .slice none 0 0], .int .i64 1700]) (by simp [results, Tryz.results54, go_sem, *]) rfl ⟨⟨none, 0, 0, rfl, rfl, Own.nil⟩, (by repeat (with_reducible first | exact Below.refl _ _ | assumption | (refine bl_set ?_ (by omega)) | apply bl_alloc | apply bl_drewN | apply bl_drew | (refine bl_step ?_ (by assumption)) | fail))⟩)
set_option maxRecDepth 100000 in
set_option maxHeartbeats 12800000 in
theorem rdown_0e (f : ByteArray) (d : DS) (b : Int) (t : ByteArray) (A : Option Addr) (c n : Nat) (w : World) (h : f.size ≤ 9223372036854775807) (hl : Row w A d.ops) (hn : d.ops.length = n) (ht : t.size ≤ 9223372036854775807) (hok : downOk f d b t = true) (h0 : d.st = 0) (ht0 : t.size = 0) :
    Calls Tryz.prog 54 #[.string f, (.agg #[.int .i64 d.st, .int .i64 d.su, .int .i64 d.nx, .int .i64 d.go, .int .i64 d.sl, .slice A n c]), .int .i64 b, .string t] w (GivesE w (DS.fail 5) 0) := by
  obtain ⟨s, st, nx, g, sl, xs⟩ := d
  simp only at hl hn ⊢
  have HB := Below.refl w.heap.size w
  have K0 := Blk.new w #[.int .i64 s, .int .i64 st, .int .i64 nx, .int .i64 g, .int .i64 sl, .slice A n c] 24
  have K1 := fun cs0 => Blk.new1 w (.cells cs0 24) #[.int .i64 0, .int .i64 0, .int .i64 0, .int .i64 0, .int .i64 0, .slice none 0 0] 24
  have bt := Lib.hid (fun W (h1 : Below w.heap.size w W) => both_c f ⟨s, st, nx, g, sl, xs⟩ A c n W h (hl.below h1) hn)
  simp only at bt
  have uu := Lib.hid (fun W : World => rdown_arg b W)
  obtain ⟨⟨hf, hmay⟩, hst, hr, hz⟩ := down_yes hok
  simp only at hst
  have hb : bothB f ⟨s, st, nx, g, sl, xs⟩ = true := by simp [bothB, hf, hmay]
  rw [hb] at bt
  rw [hr] at uu
  have hz' : decide (32 < (t.size : Int)) = false := by simp; omega
  have hlen := may_len hmay
  obtain ⟨m1, m2, m3, m4, m5⟩ := may_nums hmay
  simp only at hlen m1 m2 m3 m4 m5
  have cp := Lib.hid (fun W (h : Below w.heap.size w W) => rcopy_c ⟨s, st, nx, g, sl, xs⟩ A c n W (hl.below h) hn (by omega))
  simp only at cp
  have HN := Lib.hid hn
  rw [hn] at hlen
  obtain ⟨m30, m31⟩ := m3
  obtain ⟨m40, m41⟩ := m4
  obtain ⟨m50, m51⟩ := m5
  clear hl hb hmay hn hok m1 m2
  simp only at h0
  subst h0
  have t1 : t = ⟨#[]⟩ := size_nil ht0
  subst t1
  clear ht0
  clear hst
  go_enter Tryz.func54, Tryz.ntmps54
  go_wp2_with (first | (go_at_call 50; with_reducible refine (bt.out _ (by repeat (with_reducible first | exact Below.refl _ _ | assumption | (refine bl_set ?_ (by omega)) | apply bl_alloc | apply bl_drewN | apply bl_drew | (refine bl_step ?_ (by assumption)) | fail))).mono ?_; rintro e w' ⟨rfl, hb⟩; have HB := bl_step (w := w) (by repeat (with_reducible first | exact HB | (refine bl_set ?_ (by omega)) | apply bl_alloc | apply bl_drew | apply bl_drewN | fail)) hb; have hzB := HB.size; have K0 := Blk.on (by first | exact K0 | exact K0 #[] | exact K0 (.cells #[] 0) #[] | exact K0 #[] #[]) (by repeat (with_reducible first | exact K0 | exact K0 _ | exact K0 _ _ | apply Blk.alloc | apply Blk.drew | (apply Blk.off; (first | assumption | omega | (simp; omega))) | fail)) hb; (try clear eK0); have eK0 := Blk.ev K0; have K1 := Blk.on (by first | exact K1 | exact K1 #[] | exact K1 (.cells #[] 0) #[] | exact K1 #[] #[]) (by repeat (with_reducible first | exact K1 | exact K1 _ | exact K1 _ _ | apply Blk.alloc | apply Blk.drew | (apply Blk.off; (first | assumption | omega | (simp; omega))) | fail)) hb; (try clear eK1); have eK1 := Blk.ev K1) | (go_at_call 65; with_reducible refine (uu.out _).mono ?_; rintro e w' ⟨rfl, rfl⟩) | (go_at_call 55; (with_reducible refine (cp.out _ (by repeat (with_reducible first | exact Below.refl _ _ | assumption | (refine bl_set ?_ (by omega)) | apply bl_alloc | apply bl_drewN | apply bl_drew | (refine bl_step ?_ (by assumption)) | fail))).mono ?_); rintro e w1 ⟨⟨A', c', rfl, HO⟩, hb⟩; have HO := HO.mono (base' := w.heap.size + 2) (by omega); have hg1 : w.heap.size + 2 ≤ w1.heap.size := (by have := hb.size; omega); have HB := bl_step (w := w) (by repeat (with_reducible first | exact HB | (refine bl_set ?_ (by omega)) | apply bl_alloc | apply bl_drew | apply bl_drewN | fail)) hb; have hzB := HB.size; have K0 := Blk.on (by first | exact K0 | exact K0 #[] | exact K0 (.cells #[] 0) #[] | exact K0 #[] #[]) (by repeat (with_reducible first | exact K0 | exact K0 _ | exact K0 _ _ | apply Blk.alloc | apply Blk.drew | (apply Blk.off; (first | assumption | omega | (simp; omega))) | fail)) hb; (try clear eK0); have eK0 := Blk.ev K0; have K1 := Blk.on (by first | exact K1 | exact K1 #[] | exact K1 (.cells #[] 0) #[] | exact K1 #[] #[]) (by repeat (with_reducible first | exact K1 | exact K1 _ | exact K1 _ _ | apply Blk.alloc | apply Blk.drew | (apply Blk.off; (first | assumption | omega | (simp; omega))) | fail)) hb; (try clear eK1); have eK1 := Blk.ev K1; have K3 := fun cs => Blk.new w1 cs 24) | (go_at_call 68; (with_reducible refine (rfailed_c _ _).mono ?_); rintro e w9 ⟨rfl, hb⟩; have HB := bl_step (w := w) (by repeat (with_reducible first | exact HB | (refine bl_set ?_ (by omega)) | apply bl_alloc | apply bl_drew | apply bl_drewN | fail)) hb; have hzB := HB.size; have K0 := Blk.on (by first | exact K0 | exact K0 #[] | exact K0 (.cells #[] 0) #[] | exact K0 #[] #[]) (by repeat (with_reducible first | exact K0 | exact K0 _ | exact K0 _ _ | apply Blk.alloc | apply Blk.drew | (apply Blk.off; (first | assumption | omega | (simp; omega))) | fail)) hb; (try clear eK0); have eK0 := Blk.ev K0; have K1 := Blk.on (by first | exact K1 | exact K1 #[] | exact K1 (.cells #[] 0) #[] | exact K1 #[] #[]) (by repeat (with_reducible first | exact K1 | exact K1 _ | exact K1 _ _ | apply Blk.alloc | apply Blk.drew | (apply Blk.off; (first | assumption | omega | (simp; omega))) | fail)) hb; (try clear eK1); have eK1 := Blk.ev K1; have K3 := Blk.on (by first | exact K3 | exact K3 #[] | exact K3 (.cells #[] 0) #[] | exact K3 #[] #[]) (by repeat (with_reducible first | exact K3 | exact K3 _ | exact K3 _ _ | apply Blk.alloc | apply Blk.drew | apply Blk.set6_0 | apply Blk.set6_1 | apply Blk.set6_2 | apply Blk.set6_3 | apply Blk.set6_4 | apply Blk.set6_5 | (apply Blk.off; (first | assumption | omega | (simp; omega))) | fail)) hb; (try clear eK3); have eK3 := Blk.ev K3) | fail)
  refine body_gen1 (g1 := w.heap.size + 1) (cs1 := #[.int .i64 7, .int .i64 5, .int .i64 0, .int .i64 0, .int .i64 0, .slice none 0 0]) (t1 := 24) (A := none) (xs := []) (w := w) (by repeat (with_reducible first | exact K1 | exact K1 _ | apply Blk.alloc | apply Blk.drew | apply Blk.set6_0 | apply Blk.set6_1 | apply Blk.set6_2 | apply Blk.set6_3 | apply Blk.set6_4 | apply Blk.set6_5 | (apply Blk.off; (first | assumption | omega | (simp; omega))) | fail)) Own.nil (by repeat (with_reducible first | exact Below.refl _ _ | assumption | (refine bl_set ?_ (by omega)) | apply bl_alloc | apply bl_drewN | apply bl_drew | (refine bl_step ?_ (by assumption)) | fail)) ?_; intro wf L1 HOf HBf; obtain ⟨e0, e1, e2, e3, e4, e5, _⟩ := Blk.all6 L1; exact bodyPost_ret (v := .tuple #[.agg #[.int .i64 7, .int .i64 5, .int .i64 0, .int .i64 0, .int .i64 0, .slice none 0 0], .int .i64 0]) (by simp [results, Tryz.results54, go_sem, e0, e1, e2, e3, e4, e5]) rfl ⟨⟨none, 0, 0, rfl, rfl, HOf⟩, HBf⟩
set_option maxRecDepth 100000 in
set_option maxHeartbeats 12800000 in
theorem rdown_0b (f : ByteArray) (d : DS) (b : Int) (t : ByteArray) (A : Option Addr) (c n : Nat) (w : World) (h : f.size ≤ 9223372036854775807) (hl : Row w A d.ops) (hn : d.ops.length = n) (ht : t.size ≤ 9223372036854775807) (hok : downOk f d b t = true) (h0 : d.st = 0) (ht0 : ¬ t.size = 0) (hb0 : ¬ b = 0) :
    Calls Tryz.prog 54 #[.string f, (.agg #[.int .i64 d.st, .int .i64 d.su, .int .i64 d.nx, .int .i64 d.go, .int .i64 d.sl, .slice A n c]), .int .i64 b, .string t] w (GivesE w (DS.fail 4) 0) := by
  obtain ⟨s, st, nx, g, sl, xs⟩ := d
  simp only at hl hn ⊢
  have HB := Below.refl w.heap.size w
  have K0 := Blk.new w #[.int .i64 s, .int .i64 st, .int .i64 nx, .int .i64 g, .int .i64 sl, .slice A n c] 24
  have K1 := fun cs0 => Blk.new1 w (.cells cs0 24) #[.int .i64 0, .int .i64 0, .int .i64 0, .int .i64 0, .int .i64 0, .slice none 0 0] 24
  have bt := Lib.hid (fun W (h1 : Below w.heap.size w W) => both_c f ⟨s, st, nx, g, sl, xs⟩ A c n W h (hl.below h1) hn)
  simp only at bt
  have uu := Lib.hid (fun W : World => rdown_arg b W)
  obtain ⟨⟨hf, hmay⟩, hst, hr, hz⟩ := down_yes hok
  simp only at hst
  have hb : bothB f ⟨s, st, nx, g, sl, xs⟩ = true := by simp [bothB, hf, hmay]
  rw [hb] at bt
  rw [hr] at uu
  have hz' : decide (32 < (t.size : Int)) = false := by simp; omega
  have hlen := may_len hmay
  obtain ⟨m1, m2, m3, m4, m5⟩ := may_nums hmay
  simp only at hlen m1 m2 m3 m4 m5
  have cp := Lib.hid (fun W (h : Below w.heap.size w W) => rcopy_c ⟨s, st, nx, g, sl, xs⟩ A c n W (hl.below h) hn (by omega))
  simp only at cp
  have HN := Lib.hid hn
  rw [hn] at hlen
  obtain ⟨m30, m31⟩ := m3
  obtain ⟨m40, m41⟩ := m4
  obtain ⟨m50, m51⟩ := m5
  clear hl hb hmay hn hok m1 m2
  simp only at h0
  subst h0
  have t1 : t.toList.isEmpty = false := size_some ht0
  have t2 : (t.toList == []) = false := by cases e : t.toList with | nil => rw [e] at t1; simp at t1 | cons => rfl
  have t3 : 0 < t.size := by omega
  have hb1 : (b == 0) = false := by simpa using hb0
  clear hst
  go_enter Tryz.func54, Tryz.ntmps54
  go_wp2_with (first | (go_at_call 50; with_reducible refine (bt.out _ (by repeat (with_reducible first | exact Below.refl _ _ | assumption | (refine bl_set ?_ (by omega)) | apply bl_alloc | apply bl_drewN | apply bl_drew | (refine bl_step ?_ (by assumption)) | fail))).mono ?_; rintro e w' ⟨rfl, hb⟩; have HB := bl_step (w := w) (by repeat (with_reducible first | exact HB | (refine bl_set ?_ (by omega)) | apply bl_alloc | apply bl_drew | apply bl_drewN | fail)) hb; have hzB := HB.size; have K0 := Blk.on (by first | exact K0 | exact K0 #[] | exact K0 (.cells #[] 0) #[] | exact K0 #[] #[]) (by repeat (with_reducible first | exact K0 | exact K0 _ | exact K0 _ _ | apply Blk.alloc | apply Blk.drew | (apply Blk.off; (first | assumption | omega | (simp; omega))) | fail)) hb; (try clear eK0); have eK0 := Blk.ev K0; have K1 := Blk.on (by first | exact K1 | exact K1 #[] | exact K1 (.cells #[] 0) #[] | exact K1 #[] #[]) (by repeat (with_reducible first | exact K1 | exact K1 _ | exact K1 _ _ | apply Blk.alloc | apply Blk.drew | (apply Blk.off; (first | assumption | omega | (simp; omega))) | fail)) hb; (try clear eK1); have eK1 := Blk.ev K1) | (go_at_call 65; with_reducible refine (uu.out _).mono ?_; rintro e w' ⟨rfl, rfl⟩) | (go_at_call 55; (with_reducible refine (cp.out _ (by repeat (with_reducible first | exact Below.refl _ _ | assumption | (refine bl_set ?_ (by omega)) | apply bl_alloc | apply bl_drewN | apply bl_drew | (refine bl_step ?_ (by assumption)) | fail))).mono ?_); rintro e w1 ⟨⟨A', c', rfl, HO⟩, hb⟩; have HO := HO.mono (base' := w.heap.size + 2) (by omega); have hg1 : w.heap.size + 2 ≤ w1.heap.size := (by have := hb.size; omega); have HB := bl_step (w := w) (by repeat (with_reducible first | exact HB | (refine bl_set ?_ (by omega)) | apply bl_alloc | apply bl_drew | apply bl_drewN | fail)) hb; have hzB := HB.size; have K0 := Blk.on (by first | exact K0 | exact K0 #[] | exact K0 (.cells #[] 0) #[] | exact K0 #[] #[]) (by repeat (with_reducible first | exact K0 | exact K0 _ | exact K0 _ _ | apply Blk.alloc | apply Blk.drew | (apply Blk.off; (first | assumption | omega | (simp; omega))) | fail)) hb; (try clear eK0); have eK0 := Blk.ev K0; have K1 := Blk.on (by first | exact K1 | exact K1 #[] | exact K1 (.cells #[] 0) #[] | exact K1 #[] #[]) (by repeat (with_reducible first | exact K1 | exact K1 _ | exact K1 _ _ | apply Blk.alloc | apply Blk.drew | (apply Blk.off; (first | assumption | omega | (simp; omega))) | fail)) hb; (try clear eK1); have eK1 := Blk.ev K1; have K3 := fun cs => Blk.new w1 cs 24) | (go_at_call 68; (with_reducible refine (rfailed_c _ _).mono ?_); rintro e w9 ⟨rfl, hb⟩; have HB := bl_step (w := w) (by repeat (with_reducible first | exact HB | (refine bl_set ?_ (by omega)) | apply bl_alloc | apply bl_drew | apply bl_drewN | fail)) hb; have hzB := HB.size; have K0 := Blk.on (by first | exact K0 | exact K0 #[] | exact K0 (.cells #[] 0) #[] | exact K0 #[] #[]) (by repeat (with_reducible first | exact K0 | exact K0 _ | exact K0 _ _ | apply Blk.alloc | apply Blk.drew | (apply Blk.off; (first | assumption | omega | (simp; omega))) | fail)) hb; (try clear eK0); have eK0 := Blk.ev K0; have K1 := Blk.on (by first | exact K1 | exact K1 #[] | exact K1 (.cells #[] 0) #[] | exact K1 #[] #[]) (by repeat (with_reducible first | exact K1 | exact K1 _ | exact K1 _ _ | apply Blk.alloc | apply Blk.drew | (apply Blk.off; (first | assumption | omega | (simp; omega))) | fail)) hb; (try clear eK1); have eK1 := Blk.ev K1; have K3 := Blk.on (by first | exact K3 | exact K3 #[] | exact K3 (.cells #[] 0) #[] | exact K3 #[] #[]) (by repeat (with_reducible first | exact K3 | exact K3 _ | exact K3 _ _ | apply Blk.alloc | apply Blk.drew | apply Blk.set6_0 | apply Blk.set6_1 | apply Blk.set6_2 | apply Blk.set6_3 | apply Blk.set6_4 | apply Blk.set6_5 | (apply Blk.off; (first | assumption | omega | (simp; omega))) | fail)) hb; (try clear eK3); have eK3 := Blk.ev K3) | fail)
  refine body_gen1 (g1 := w.heap.size + 1) (cs1 := #[.int .i64 7, .int .i64 4, .int .i64 0, .int .i64 0, .int .i64 0, .slice none 0 0]) (t1 := 24) (A := none) (xs := []) (w := w) (by repeat (with_reducible first | exact K1 | exact K1 _ | apply Blk.alloc | apply Blk.drew | apply Blk.set6_0 | apply Blk.set6_1 | apply Blk.set6_2 | apply Blk.set6_3 | apply Blk.set6_4 | apply Blk.set6_5 | (apply Blk.off; (first | assumption | omega | (simp; omega))) | fail)) Own.nil (by repeat (with_reducible first | exact Below.refl _ _ | assumption | (refine bl_set ?_ (by omega)) | apply bl_alloc | apply bl_drewN | apply bl_drew | (refine bl_step ?_ (by assumption)) | fail)) ?_; intro wf L1 HOf HBf; obtain ⟨e0, e1, e2, e3, e4, e5, _⟩ := Blk.all6 L1; exact bodyPost_ret (v := .tuple #[.agg #[.int .i64 7, .int .i64 4, .int .i64 0, .int .i64 0, .int .i64 0, .slice none 0 0], .int .i64 0]) (by simp [results, Tryz.results54, go_sem, e0, e1, e2, e3, e4, e5]) rfl ⟨⟨none, 0, 0, rfl, rfl, HOf⟩, HBf⟩
set_option maxRecDepth 100000 in
set_option maxHeartbeats 12800000 in
theorem rdown_3s (f : ByteArray) (d : DS) (b : Int) (t : ByteArray) (A : Option Addr) (c n : Nat) (w : World) (h : f.size ≤ 9223372036854775807) (hl : Row w A d.ops) (hn : d.ops.length = n) (ht : t.size ≤ 9223372036854775807) (hok : downOk f d b t = true) (h0 : ¬ d.st = 0) (hb0 : b = d.nx - 1) :
    Calls Tryz.prog 54 #[.string f, (.agg #[.int .i64 d.st, .int .i64 d.su, .int .i64 d.nx, .int .i64 d.go, .int .i64 d.sl, .slice A n c]), .int .i64 b, .string t] w (GivesE w (⟨1, d.su, d.nx, d.go, d.sl, d.ops⟩) 0) := by
  obtain ⟨s, st, nx, g, sl, xs⟩ := d
  simp only at hl hn ⊢
  have HB := Below.refl w.heap.size w
  have K0 := Blk.new w #[.int .i64 s, .int .i64 st, .int .i64 nx, .int .i64 g, .int .i64 sl, .slice A n c] 24
  have K1 := fun cs0 => Blk.new1 w (.cells cs0 24) #[.int .i64 0, .int .i64 0, .int .i64 0, .int .i64 0, .int .i64 0, .slice none 0 0] 24
  have bt := Lib.hid (fun W (h1 : Below w.heap.size w W) => both_c f ⟨s, st, nx, g, sl, xs⟩ A c n W h (hl.below h1) hn)
  simp only at bt
  have uu := Lib.hid (fun W : World => rdown_arg b W)
  obtain ⟨⟨hf, hmay⟩, hst, hr, hz⟩ := down_yes hok
  simp only at hst
  have hb : bothB f ⟨s, st, nx, g, sl, xs⟩ = true := by simp [bothB, hf, hmay]
  rw [hb] at bt
  rw [hr] at uu
  have hz' : decide (32 < (t.size : Int)) = false := by simp; omega
  have hlen := may_len hmay
  obtain ⟨m1, m2, m3, m4, m5⟩ := may_nums hmay
  simp only at hlen m1 m2 m3 m4 m5
  have cp := Lib.hid (fun W (h : Below w.heap.size w W) => rcopy_c ⟨s, st, nx, g, sl, xs⟩ A c n W (hl.below h) hn (by omega))
  simp only at cp
  have HN := Lib.hid hn
  rw [hn] at hlen
  obtain ⟨m30, m31⟩ := m3
  obtain ⟨m40, m41⟩ := m4
  obtain ⟨m50, m51⟩ := m5
  clear hl hb hmay hn hok m1 m2
  simp only at h0
  have h3 : s = 3 := by simpa [h0] using hst
  subst h3
  clear h0
  simp only at hb0
  have hb2 : (b == nx - 1) = true := by simpa using hb0
  clear hst hb0
  go_enter Tryz.func54, Tryz.ntmps54
  go_wp2_with (first | (go_at_call 50; with_reducible refine (bt.out _ (by repeat (with_reducible first | exact Below.refl _ _ | assumption | (refine bl_set ?_ (by omega)) | apply bl_alloc | apply bl_drewN | apply bl_drew | (refine bl_step ?_ (by assumption)) | fail))).mono ?_; rintro e w' ⟨rfl, hb⟩; have HB := bl_step (w := w) (by repeat (with_reducible first | exact HB | (refine bl_set ?_ (by omega)) | apply bl_alloc | apply bl_drew | apply bl_drewN | fail)) hb; have hzB := HB.size; have K0 := Blk.on (by first | exact K0 | exact K0 #[] | exact K0 (.cells #[] 0) #[] | exact K0 #[] #[]) (by repeat (with_reducible first | exact K0 | exact K0 _ | exact K0 _ _ | apply Blk.alloc | apply Blk.drew | (apply Blk.off; (first | assumption | omega | (simp; omega))) | fail)) hb; (try clear eK0); have eK0 := Blk.ev K0; have K1 := Blk.on (by first | exact K1 | exact K1 #[] | exact K1 (.cells #[] 0) #[] | exact K1 #[] #[]) (by repeat (with_reducible first | exact K1 | exact K1 _ | exact K1 _ _ | apply Blk.alloc | apply Blk.drew | (apply Blk.off; (first | assumption | omega | (simp; omega))) | fail)) hb; (try clear eK1); have eK1 := Blk.ev K1) | (go_at_call 65; with_reducible refine (uu.out _).mono ?_; rintro e w' ⟨rfl, rfl⟩) | (go_at_call 55; (with_reducible refine (cp.out _ (by repeat (with_reducible first | exact Below.refl _ _ | assumption | (refine bl_set ?_ (by omega)) | apply bl_alloc | apply bl_drewN | apply bl_drew | (refine bl_step ?_ (by assumption)) | fail))).mono ?_); rintro e w1 ⟨⟨A', c', rfl, HO⟩, hb⟩; have HO := HO.mono (base' := w.heap.size + 2) (by omega); have hg1 : w.heap.size + 2 ≤ w1.heap.size := (by have := hb.size; omega); have HB := bl_step (w := w) (by repeat (with_reducible first | exact HB | (refine bl_set ?_ (by omega)) | apply bl_alloc | apply bl_drew | apply bl_drewN | fail)) hb; have hzB := HB.size; have K0 := Blk.on (by first | exact K0 | exact K0 #[] | exact K0 (.cells #[] 0) #[] | exact K0 #[] #[]) (by repeat (with_reducible first | exact K0 | exact K0 _ | exact K0 _ _ | apply Blk.alloc | apply Blk.drew | (apply Blk.off; (first | assumption | omega | (simp; omega))) | fail)) hb; (try clear eK0); have eK0 := Blk.ev K0; have K1 := Blk.on (by first | exact K1 | exact K1 #[] | exact K1 (.cells #[] 0) #[] | exact K1 #[] #[]) (by repeat (with_reducible first | exact K1 | exact K1 _ | exact K1 _ _ | apply Blk.alloc | apply Blk.drew | (apply Blk.off; (first | assumption | omega | (simp; omega))) | fail)) hb; (try clear eK1); have eK1 := Blk.ev K1; have K3 := fun cs => Blk.new w1 cs 24) | fail)
  refine body_gen1 (g1 := w.heap.size + 1) (cs1 := #[.int .i64 1, .int .i64 st, .int .i64 nx, .int .i64 g, .int .i64 sl, .slice A' n c']) (t1 := 24) (A := A') (xs := xs) (w := w) (by repeat (with_reducible first | exact K1 | exact K1 _ | apply Blk.alloc | apply Blk.drew | apply Blk.set6_0 | apply Blk.set6_1 | apply Blk.set6_2 | apply Blk.set6_3 | apply Blk.set6_4 | apply Blk.set6_5 | (apply Blk.off; (first | assumption | omega | (simp; omega))) | fail)) (by (refine Own.mono (base := w.heap.size + 2) ?_ (by omega)); (repeat (with_reducible first | exact HO | (refine Own.set ?_ (by dsimp only; omega) _) | (refine Own.alloc ?_ _) | (refine Own.drewn ?_) | fail))) (by repeat (with_reducible first | exact Below.refl _ _ | assumption | (refine bl_set ?_ (by omega)) | apply bl_alloc | apply bl_drewN | apply bl_drew | (refine bl_step ?_ (by assumption)) | fail)) ?_; intro wf L1 HOf HBf; obtain ⟨e0, e1, e2, e3, e4, e5, _⟩ := Blk.all6 L1; exact bodyPost_ret (v := .tuple #[.agg #[.int .i64 1, .int .i64 st, .int .i64 nx, .int .i64 g, .int .i64 sl, .slice A' n c'], .int .i64 0]) (by simp [results, Tryz.results54, go_sem, e0, e1, e2, e3, e4, e5]) rfl ⟨⟨A', n, c', rfl, HN.out, HOf⟩, HBf⟩
set_option maxRecDepth 100000 in
set_option maxHeartbeats 12800000 in
theorem rdown_3b (f : ByteArray) (d : DS) (b : Int) (t : ByteArray) (A : Option Addr) (c n : Nat) (w : World) (h : f.size ≤ 9223372036854775807) (hl : Row w A d.ops) (hn : d.ops.length = n) (ht : t.size ≤ 9223372036854775807) (hok : downOk f d b t = true) (h0 : ¬ d.st = 0) (hb0 : ¬ b = d.nx - 1) (hb1 : ¬ b = d.nx) :
    Calls Tryz.prog 54 #[.string f, (.agg #[.int .i64 d.st, .int .i64 d.su, .int .i64 d.nx, .int .i64 d.go, .int .i64 d.sl, .slice A n c]), .int .i64 b, .string t] w (GivesE w (DS.fail 4) 0) := by
  obtain ⟨s, st, nx, g, sl, xs⟩ := d
  simp only at hl hn ⊢
  have HB := Below.refl w.heap.size w
  have K0 := Blk.new w #[.int .i64 s, .int .i64 st, .int .i64 nx, .int .i64 g, .int .i64 sl, .slice A n c] 24
  have K1 := fun cs0 => Blk.new1 w (.cells cs0 24) #[.int .i64 0, .int .i64 0, .int .i64 0, .int .i64 0, .int .i64 0, .slice none 0 0] 24
  have bt := Lib.hid (fun W (h1 : Below w.heap.size w W) => both_c f ⟨s, st, nx, g, sl, xs⟩ A c n W h (hl.below h1) hn)
  simp only at bt
  have uu := Lib.hid (fun W : World => rdown_arg b W)
  obtain ⟨⟨hf, hmay⟩, hst, hr, hz⟩ := down_yes hok
  simp only at hst
  have hb : bothB f ⟨s, st, nx, g, sl, xs⟩ = true := by simp [bothB, hf, hmay]
  rw [hb] at bt
  rw [hr] at uu
  have hz' : decide (32 < (t.size : Int)) = false := by simp; omega
  have hlen := may_len hmay
  obtain ⟨m1, m2, m3, m4, m5⟩ := may_nums hmay
  simp only at hlen m1 m2 m3 m4 m5
  have cp := Lib.hid (fun W (h : Below w.heap.size w W) => rcopy_c ⟨s, st, nx, g, sl, xs⟩ A c n W (hl.below h) hn (by omega))
  simp only at cp
  have HN := Lib.hid hn
  rw [hn] at hlen
  obtain ⟨m30, m31⟩ := m3
  obtain ⟨m40, m41⟩ := m4
  obtain ⟨m50, m51⟩ := m5
  clear hl hb hmay hn hok m1 m2
  simp only at h0
  have h3 : s = 3 := by simpa [h0] using hst
  subst h3
  clear h0
  simp only at hb0 hb1
  have hb2 : (b == nx - 1) = false := by simpa using hb0
  have hb3 : (b == nx) = false := by simpa using hb1
  clear hst
  go_enter Tryz.func54, Tryz.ntmps54
  go_wp2_with (first | (go_at_call 50; with_reducible refine (bt.out _ (by repeat (with_reducible first | exact Below.refl _ _ | assumption | (refine bl_set ?_ (by omega)) | apply bl_alloc | apply bl_drewN | apply bl_drew | (refine bl_step ?_ (by assumption)) | fail))).mono ?_; rintro e w' ⟨rfl, hb⟩; have HB := bl_step (w := w) (by repeat (with_reducible first | exact HB | (refine bl_set ?_ (by omega)) | apply bl_alloc | apply bl_drew | apply bl_drewN | fail)) hb; have hzB := HB.size; have K0 := Blk.on (by first | exact K0 | exact K0 #[] | exact K0 (.cells #[] 0) #[] | exact K0 #[] #[]) (by repeat (with_reducible first | exact K0 | exact K0 _ | exact K0 _ _ | apply Blk.alloc | apply Blk.drew | (apply Blk.off; (first | assumption | omega | (simp; omega))) | fail)) hb; (try clear eK0); have eK0 := Blk.ev K0; have K1 := Blk.on (by first | exact K1 | exact K1 #[] | exact K1 (.cells #[] 0) #[] | exact K1 #[] #[]) (by repeat (with_reducible first | exact K1 | exact K1 _ | exact K1 _ _ | apply Blk.alloc | apply Blk.drew | (apply Blk.off; (first | assumption | omega | (simp; omega))) | fail)) hb; (try clear eK1); have eK1 := Blk.ev K1) | (go_at_call 65; with_reducible refine (uu.out _).mono ?_; rintro e w' ⟨rfl, rfl⟩) | (go_at_call 55; (with_reducible refine (cp.out _ (by repeat (with_reducible first | exact Below.refl _ _ | assumption | (refine bl_set ?_ (by omega)) | apply bl_alloc | apply bl_drewN | apply bl_drew | (refine bl_step ?_ (by assumption)) | fail))).mono ?_); rintro e w1 ⟨⟨A', c', rfl, HO⟩, hb⟩; have HO := HO.mono (base' := w.heap.size + 2) (by omega); have hg1 : w.heap.size + 2 ≤ w1.heap.size := (by have := hb.size; omega); have HB := bl_step (w := w) (by repeat (with_reducible first | exact HB | (refine bl_set ?_ (by omega)) | apply bl_alloc | apply bl_drew | apply bl_drewN | fail)) hb; have hzB := HB.size; have K0 := Blk.on (by first | exact K0 | exact K0 #[] | exact K0 (.cells #[] 0) #[] | exact K0 #[] #[]) (by repeat (with_reducible first | exact K0 | exact K0 _ | exact K0 _ _ | apply Blk.alloc | apply Blk.drew | (apply Blk.off; (first | assumption | omega | (simp; omega))) | fail)) hb; (try clear eK0); have eK0 := Blk.ev K0; have K1 := Blk.on (by first | exact K1 | exact K1 #[] | exact K1 (.cells #[] 0) #[] | exact K1 #[] #[]) (by repeat (with_reducible first | exact K1 | exact K1 _ | exact K1 _ _ | apply Blk.alloc | apply Blk.drew | (apply Blk.off; (first | assumption | omega | (simp; omega))) | fail)) hb; (try clear eK1); have eK1 := Blk.ev K1; have K3 := fun cs => Blk.new w1 cs 24) | (go_at_call 68; (with_reducible refine (rfailed_c _ _).mono ?_); rintro e w9 ⟨rfl, hb⟩; have HB := bl_step (w := w) (by repeat (with_reducible first | exact HB | (refine bl_set ?_ (by omega)) | apply bl_alloc | apply bl_drew | apply bl_drewN | fail)) hb; have hzB := HB.size; have K0 := Blk.on (by first | exact K0 | exact K0 #[] | exact K0 (.cells #[] 0) #[] | exact K0 #[] #[]) (by repeat (with_reducible first | exact K0 | exact K0 _ | exact K0 _ _ | apply Blk.alloc | apply Blk.drew | (apply Blk.off; (first | assumption | omega | (simp; omega))) | fail)) hb; (try clear eK0); have eK0 := Blk.ev K0; have K1 := Blk.on (by first | exact K1 | exact K1 #[] | exact K1 (.cells #[] 0) #[] | exact K1 #[] #[]) (by repeat (with_reducible first | exact K1 | exact K1 _ | exact K1 _ _ | apply Blk.alloc | apply Blk.drew | (apply Blk.off; (first | assumption | omega | (simp; omega))) | fail)) hb; (try clear eK1); have eK1 := Blk.ev K1; have K3 := Blk.on (by first | exact K3 | exact K3 #[] | exact K3 (.cells #[] 0) #[] | exact K3 #[] #[]) (by repeat (with_reducible first | exact K3 | exact K3 _ | exact K3 _ _ | apply Blk.alloc | apply Blk.drew | apply Blk.set6_0 | apply Blk.set6_1 | apply Blk.set6_2 | apply Blk.set6_3 | apply Blk.set6_4 | apply Blk.set6_5 | (apply Blk.off; (first | assumption | omega | (simp; omega))) | fail)) hb; (try clear eK3); have eK3 := Blk.ev K3) | fail)
  refine body_gen1 (g1 := w.heap.size + 1) (cs1 := #[.int .i64 7, .int .i64 4, .int .i64 0, .int .i64 0, .int .i64 0, .slice none 0 0]) (t1 := 24) (A := none) (xs := []) (w := w) (by repeat (with_reducible first | exact K1 | exact K1 _ | apply Blk.alloc | apply Blk.drew | apply Blk.set6_0 | apply Blk.set6_1 | apply Blk.set6_2 | apply Blk.set6_3 | apply Blk.set6_4 | apply Blk.set6_5 | (apply Blk.off; (first | assumption | omega | (simp; omega))) | fail)) Own.nil (by repeat (with_reducible first | exact Below.refl _ _ | assumption | (refine bl_set ?_ (by omega)) | apply bl_alloc | apply bl_drewN | apply bl_drew | (refine bl_step ?_ (by assumption)) | fail)) ?_; intro wf L1 HOf HBf; obtain ⟨e0, e1, e2, e3, e4, e5, _⟩ := Blk.all6 L1; exact bodyPost_ret (v := .tuple #[.agg #[.int .i64 7, .int .i64 4, .int .i64 0, .int .i64 0, .int .i64 0, .slice none 0 0], .int .i64 0]) (by simp [results, Tryz.results54, go_sem, e0, e1, e2, e3, e4, e5]) rfl ⟨⟨none, 0, 0, rfl, rfl, HOf⟩, HBf⟩
set_option maxRecDepth 100000 in
set_option maxHeartbeats 12800000 in
theorem rdown_3e (f : ByteArray) (d : DS) (b : Int) (t : ByteArray) (A : Option Addr) (c n : Nat) (w : World) (h : f.size ≤ 9223372036854775807) (hl : Row w A d.ops) (hn : d.ops.length = n) (ht : t.size ≤ 9223372036854775807) (hok : downOk f d b t = true) (h0 : ¬ d.st = 0) (hb1 : b = d.nx) (ht0 : t.size = 0) :
    Calls Tryz.prog 54 #[.string f, (.agg #[.int .i64 d.st, .int .i64 d.su, .int .i64 d.nx, .int .i64 d.go, .int .i64 d.sl, .slice A n c]), .int .i64 b, .string t] w (GivesE w (⟨4, d.su, d.nx, d.go, d.sl, d.ops⟩) 0) := by
  obtain ⟨s, st, nx, g, sl, xs⟩ := d
  simp only at hl hn ⊢
  have HB := Below.refl w.heap.size w
  have K0 := Blk.new w #[.int .i64 s, .int .i64 st, .int .i64 nx, .int .i64 g, .int .i64 sl, .slice A n c] 24
  have K1 := fun cs0 => Blk.new1 w (.cells cs0 24) #[.int .i64 0, .int .i64 0, .int .i64 0, .int .i64 0, .int .i64 0, .slice none 0 0] 24
  have bt := Lib.hid (fun W (h1 : Below w.heap.size w W) => both_c f ⟨s, st, nx, g, sl, xs⟩ A c n W h (hl.below h1) hn)
  simp only at bt
  have uu := Lib.hid (fun W : World => rdown_arg b W)
  obtain ⟨⟨hf, hmay⟩, hst, hr, hz⟩ := down_yes hok
  simp only at hst
  have hb : bothB f ⟨s, st, nx, g, sl, xs⟩ = true := by simp [bothB, hf, hmay]
  rw [hb] at bt
  rw [hr] at uu
  have hz' : decide (32 < (t.size : Int)) = false := by simp; omega
  have hlen := may_len hmay
  obtain ⟨m1, m2, m3, m4, m5⟩ := may_nums hmay
  simp only at hlen m1 m2 m3 m4 m5
  have cp := Lib.hid (fun W (h : Below w.heap.size w W) => rcopy_c ⟨s, st, nx, g, sl, xs⟩ A c n W (hl.below h) hn (by omega))
  simp only at cp
  have HN := Lib.hid hn
  rw [hn] at hlen
  obtain ⟨m30, m31⟩ := m3
  obtain ⟨m40, m41⟩ := m4
  obtain ⟨m50, m51⟩ := m5
  clear hl hb hmay hn hok m1 m2
  simp only at h0
  have h3 : s = 3 := by simpa [h0] using hst
  subst h3
  clear h0
  simp only at hb1
  have hb2 : (b == nx - 1) = false := by simp; omega
  have hb3 : (b == nx) = true := by simpa using hb1
  clear hst hb1
  have t1 : t = ⟨#[]⟩ := size_nil ht0
  subst t1
  clear ht0
  go_enter Tryz.func54, Tryz.ntmps54
  go_wp2_with (first | (go_at_call 50; with_reducible refine (bt.out _ (by repeat (with_reducible first | exact Below.refl _ _ | assumption | (refine bl_set ?_ (by omega)) | apply bl_alloc | apply bl_drewN | apply bl_drew | (refine bl_step ?_ (by assumption)) | fail))).mono ?_; rintro e w' ⟨rfl, hb⟩; have HB := bl_step (w := w) (by repeat (with_reducible first | exact HB | (refine bl_set ?_ (by omega)) | apply bl_alloc | apply bl_drew | apply bl_drewN | fail)) hb; have hzB := HB.size; have K0 := Blk.on (by first | exact K0 | exact K0 #[] | exact K0 (.cells #[] 0) #[] | exact K0 #[] #[]) (by repeat (with_reducible first | exact K0 | exact K0 _ | exact K0 _ _ | apply Blk.alloc | apply Blk.drew | (apply Blk.off; (first | assumption | omega | (simp; omega))) | fail)) hb; (try clear eK0); have eK0 := Blk.ev K0; have K1 := Blk.on (by first | exact K1 | exact K1 #[] | exact K1 (.cells #[] 0) #[] | exact K1 #[] #[]) (by repeat (with_reducible first | exact K1 | exact K1 _ | exact K1 _ _ | apply Blk.alloc | apply Blk.drew | (apply Blk.off; (first | assumption | omega | (simp; omega))) | fail)) hb; (try clear eK1); have eK1 := Blk.ev K1) | (go_at_call 65; with_reducible refine (uu.out _).mono ?_; rintro e w' ⟨rfl, rfl⟩) | (go_at_call 55; (with_reducible refine (cp.out _ (by repeat (with_reducible first | exact Below.refl _ _ | assumption | (refine bl_set ?_ (by omega)) | apply bl_alloc | apply bl_drewN | apply bl_drew | (refine bl_step ?_ (by assumption)) | fail))).mono ?_); rintro e w1 ⟨⟨A', c', rfl, HO⟩, hb⟩; have HO := HO.mono (base' := w.heap.size + 2) (by omega); have hg1 : w.heap.size + 2 ≤ w1.heap.size := (by have := hb.size; omega); have HB := bl_step (w := w) (by repeat (with_reducible first | exact HB | (refine bl_set ?_ (by omega)) | apply bl_alloc | apply bl_drew | apply bl_drewN | fail)) hb; have hzB := HB.size; have K0 := Blk.on (by first | exact K0 | exact K0 #[] | exact K0 (.cells #[] 0) #[] | exact K0 #[] #[]) (by repeat (with_reducible first | exact K0 | exact K0 _ | exact K0 _ _ | apply Blk.alloc | apply Blk.drew | (apply Blk.off; (first | assumption | omega | (simp; omega))) | fail)) hb; (try clear eK0); have eK0 := Blk.ev K0; have K1 := Blk.on (by first | exact K1 | exact K1 #[] | exact K1 (.cells #[] 0) #[] | exact K1 #[] #[]) (by repeat (with_reducible first | exact K1 | exact K1 _ | exact K1 _ _ | apply Blk.alloc | apply Blk.drew | (apply Blk.off; (first | assumption | omega | (simp; omega))) | fail)) hb; (try clear eK1); have eK1 := Blk.ev K1; have K3 := fun cs => Blk.new w1 cs 24) | fail)
  refine body_gen1 (g1 := w.heap.size + 1) (cs1 := #[.int .i64 4, .int .i64 st, .int .i64 nx, .int .i64 g, .int .i64 sl, .slice A' n c']) (t1 := 24) (A := A') (xs := xs) (w := w) (by repeat (with_reducible first | exact K1 | exact K1 _ | apply Blk.alloc | apply Blk.drew | apply Blk.set6_0 | apply Blk.set6_1 | apply Blk.set6_2 | apply Blk.set6_3 | apply Blk.set6_4 | apply Blk.set6_5 | (apply Blk.off; (first | assumption | omega | (simp; omega))) | fail)) (by (refine Own.mono (base := w.heap.size + 2) ?_ (by omega)); (repeat (with_reducible first | exact HO | (refine Own.set ?_ (by dsimp only; omega) _) | (refine Own.alloc ?_ _) | (refine Own.drewn ?_) | fail))) (by repeat (with_reducible first | exact Below.refl _ _ | assumption | (refine bl_set ?_ (by omega)) | apply bl_alloc | apply bl_drewN | apply bl_drew | (refine bl_step ?_ (by assumption)) | fail)) ?_; intro wf L1 HOf HBf; obtain ⟨e0, e1, e2, e3, e4, e5, _⟩ := Blk.all6 L1; exact bodyPost_ret (v := .tuple #[.agg #[.int .i64 4, .int .i64 st, .int .i64 nx, .int .i64 g, .int .i64 sl, .slice A' n c'], .int .i64 0]) (by simp [results, Tryz.results54, go_sem, e0, e1, e2, e3, e4, e5]) rfl ⟨⟨A', n, c', rfl, HN.out, HOf⟩, HBf⟩
set_option maxRecDepth 100000 in
set_option maxHeartbeats 12800000 in
theorem rdown_3x (f : ByteArray) (d : DS) (b : Int) (t : ByteArray) (A : Option Addr) (c n : Nat) (w : World) (h : f.size ≤ 9223372036854775807) (hl : Row w A d.ops) (hn : d.ops.length = n) (ht : t.size ≤ 9223372036854775807) (hok : downOk f d b t = true) (h0 : ¬ d.st = 0) (hb1 : b = d.nx) (ht0 : ¬ t.size = 0) (hc : ¬ d.go % 32 = 0) :
    Calls Tryz.prog 54 #[.string f, (.agg #[.int .i64 d.st, .int .i64 d.su, .int .i64 d.nx, .int .i64 d.go, .int .i64 d.sl, .slice A n c]), .int .i64 b, .string t] w (GivesE w (DS.fail 4) 0) := by
  obtain ⟨s, st, nx, g, sl, xs⟩ := d
  simp only at hl hn ⊢
  have HB := Below.refl w.heap.size w
  have K0 := Blk.new w #[.int .i64 s, .int .i64 st, .int .i64 nx, .int .i64 g, .int .i64 sl, .slice A n c] 24
  have K1 := fun cs0 => Blk.new1 w (.cells cs0 24) #[.int .i64 0, .int .i64 0, .int .i64 0, .int .i64 0, .int .i64 0, .slice none 0 0] 24
  have bt := Lib.hid (fun W (h1 : Below w.heap.size w W) => both_c f ⟨s, st, nx, g, sl, xs⟩ A c n W h (hl.below h1) hn)
  simp only at bt
  have uu := Lib.hid (fun W : World => rdown_arg b W)
  obtain ⟨⟨hf, hmay⟩, hst, hr, hz⟩ := down_yes hok
  simp only at hst
  have hb : bothB f ⟨s, st, nx, g, sl, xs⟩ = true := by simp [bothB, hf, hmay]
  rw [hb] at bt
  rw [hr] at uu
  have hz' : decide (32 < (t.size : Int)) = false := by simp; omega
  have hlen := may_len hmay
  obtain ⟨m1, m2, m3, m4, m5⟩ := may_nums hmay
  simp only at hlen m1 m2 m3 m4 m5
  have cp := Lib.hid (fun W (h : Below w.heap.size w W) => rcopy_c ⟨s, st, nx, g, sl, xs⟩ A c n W (hl.below h) hn (by omega))
  simp only at cp
  have HN := Lib.hid hn
  rw [hn] at hlen
  obtain ⟨m30, m31⟩ := m3
  obtain ⟨m40, m41⟩ := m4
  obtain ⟨m50, m51⟩ := m5
  clear hl hb hmay hn hok m1 m2
  simp only at h0
  have h3 : s = 3 := by simpa [h0] using hst
  subst h3
  clear h0
  simp only at hb1
  have hb2 : (b == nx - 1) = false := by simp; omega
  have hb3 : (b == nx) = true := by simpa using hb1
  clear hst hb1
  have t1 : t.toList.isEmpty = false := size_some ht0
  have t2 : (t.toList == []) = false := by cases e : t.toList with | nil => rw [e] at t1; simp at t1 | cons => rfl
  have t3 : 0 < t.size := by omega
  simp only at hc
  have hc1 : (g % 32 != 0) = true := by simpa using hc
  go_enter Tryz.func54, Tryz.ntmps54
  go_wp2_with (first | (go_at_call 50; with_reducible refine (bt.out _ (by repeat (with_reducible first | exact Below.refl _ _ | assumption | (refine bl_set ?_ (by omega)) | apply bl_alloc | apply bl_drewN | apply bl_drew | (refine bl_step ?_ (by assumption)) | fail))).mono ?_; rintro e w' ⟨rfl, hb⟩; have HB := bl_step (w := w) (by repeat (with_reducible first | exact HB | (refine bl_set ?_ (by omega)) | apply bl_alloc | apply bl_drew | apply bl_drewN | fail)) hb; have hzB := HB.size; have K0 := Blk.on (by first | exact K0 | exact K0 #[] | exact K0 (.cells #[] 0) #[] | exact K0 #[] #[]) (by repeat (with_reducible first | exact K0 | exact K0 _ | exact K0 _ _ | apply Blk.alloc | apply Blk.drew | (apply Blk.off; (first | assumption | omega | (simp; omega))) | fail)) hb; (try clear eK0); have eK0 := Blk.ev K0; have K1 := Blk.on (by first | exact K1 | exact K1 #[] | exact K1 (.cells #[] 0) #[] | exact K1 #[] #[]) (by repeat (with_reducible first | exact K1 | exact K1 _ | exact K1 _ _ | apply Blk.alloc | apply Blk.drew | (apply Blk.off; (first | assumption | omega | (simp; omega))) | fail)) hb; (try clear eK1); have eK1 := Blk.ev K1) | (go_at_call 65; with_reducible refine (uu.out _).mono ?_; rintro e w' ⟨rfl, rfl⟩) | (go_at_call 55; (with_reducible refine (cp.out _ (by repeat (with_reducible first | exact Below.refl _ _ | assumption | (refine bl_set ?_ (by omega)) | apply bl_alloc | apply bl_drewN | apply bl_drew | (refine bl_step ?_ (by assumption)) | fail))).mono ?_); rintro e w1 ⟨⟨A', c', rfl, HO⟩, hb⟩; have HO := HO.mono (base' := w.heap.size + 2) (by omega); have hg1 : w.heap.size + 2 ≤ w1.heap.size := (by have := hb.size; omega); have HB := bl_step (w := w) (by repeat (with_reducible first | exact HB | (refine bl_set ?_ (by omega)) | apply bl_alloc | apply bl_drew | apply bl_drewN | fail)) hb; have hzB := HB.size; have K0 := Blk.on (by first | exact K0 | exact K0 #[] | exact K0 (.cells #[] 0) #[] | exact K0 #[] #[]) (by repeat (with_reducible first | exact K0 | exact K0 _ | exact K0 _ _ | apply Blk.alloc | apply Blk.drew | (apply Blk.off; (first | assumption | omega | (simp; omega))) | fail)) hb; (try clear eK0); have eK0 := Blk.ev K0; have K1 := Blk.on (by first | exact K1 | exact K1 #[] | exact K1 (.cells #[] 0) #[] | exact K1 #[] #[]) (by repeat (with_reducible first | exact K1 | exact K1 _ | exact K1 _ _ | apply Blk.alloc | apply Blk.drew | (apply Blk.off; (first | assumption | omega | (simp; omega))) | fail)) hb; (try clear eK1); have eK1 := Blk.ev K1; have K3 := fun cs => Blk.new w1 cs 24) | (go_at_call 68; (with_reducible refine (rfailed_c _ _).mono ?_); rintro e w9 ⟨rfl, hb⟩; have HB := bl_step (w := w) (by repeat (with_reducible first | exact HB | (refine bl_set ?_ (by omega)) | apply bl_alloc | apply bl_drew | apply bl_drewN | fail)) hb; have hzB := HB.size; have K0 := Blk.on (by first | exact K0 | exact K0 #[] | exact K0 (.cells #[] 0) #[] | exact K0 #[] #[]) (by repeat (with_reducible first | exact K0 | exact K0 _ | exact K0 _ _ | apply Blk.alloc | apply Blk.drew | (apply Blk.off; (first | assumption | omega | (simp; omega))) | fail)) hb; (try clear eK0); have eK0 := Blk.ev K0; have K1 := Blk.on (by first | exact K1 | exact K1 #[] | exact K1 (.cells #[] 0) #[] | exact K1 #[] #[]) (by repeat (with_reducible first | exact K1 | exact K1 _ | exact K1 _ _ | apply Blk.alloc | apply Blk.drew | (apply Blk.off; (first | assumption | omega | (simp; omega))) | fail)) hb; (try clear eK1); have eK1 := Blk.ev K1; have K3 := Blk.on (by first | exact K3 | exact K3 #[] | exact K3 (.cells #[] 0) #[] | exact K3 #[] #[]) (by repeat (with_reducible first | exact K3 | exact K3 _ | exact K3 _ _ | apply Blk.alloc | apply Blk.drew | apply Blk.set6_0 | apply Blk.set6_1 | apply Blk.set6_2 | apply Blk.set6_3 | apply Blk.set6_4 | apply Blk.set6_5 | (apply Blk.off; (first | assumption | omega | (simp; omega))) | fail)) hb; (try clear eK3); have eK3 := Blk.ev K3) | fail)
  refine body_gen1 (g1 := w.heap.size + 1) (cs1 := #[.int .i64 7, .int .i64 4, .int .i64 0, .int .i64 0, .int .i64 0, .slice none 0 0]) (t1 := 24) (A := none) (xs := []) (w := w) (by repeat (with_reducible first | exact K1 | exact K1 _ | apply Blk.alloc | apply Blk.drew | apply Blk.set6_0 | apply Blk.set6_1 | apply Blk.set6_2 | apply Blk.set6_3 | apply Blk.set6_4 | apply Blk.set6_5 | (apply Blk.off; (first | assumption | omega | (simp; omega))) | fail)) Own.nil (by repeat (with_reducible first | exact Below.refl _ _ | assumption | (refine bl_set ?_ (by omega)) | apply bl_alloc | apply bl_drewN | apply bl_drew | (refine bl_step ?_ (by assumption)) | fail)) ?_; intro wf L1 HOf HBf; obtain ⟨e0, e1, e2, e3, e4, e5, _⟩ := Blk.all6 L1; exact bodyPost_ret (v := .tuple #[.agg #[.int .i64 7, .int .i64 4, .int .i64 0, .int .i64 0, .int .i64 0, .slice none 0 0], .int .i64 0]) (by simp [results, Tryz.results54, go_sem, e0, e1, e2, e3, e4, e5]) rfl ⟨⟨none, 0, 0, rfl, rfl, HOf⟩, HBf⟩
set_option maxRecDepth 100000 in
set_option maxHeartbeats 12800000 in
theorem rdown_3y (f : ByteArray) (d : DS) (b : Int) (t : ByteArray) (A : Option Addr) (c n : Nat) (w : World) (h : f.size ≤ 9223372036854775807) (hl : Row w A d.ops) (hn : d.ops.length = n) (ht : t.size ≤ 9223372036854775807) (hok : downOk f d b t = true) (h0 : ¬ d.st = 0) (hb1 : b = d.nx) (ht0 : ¬ t.size = 0) (hc0 : d.go % 32 = 0) (hc : 288 < d.go + (t.size : Int)) :
    Calls Tryz.prog 54 #[.string f, (.agg #[.int .i64 d.st, .int .i64 d.su, .int .i64 d.nx, .int .i64 d.go, .int .i64 d.sl, .slice A n c]), .int .i64 b, .string t] w (GivesE w (DS.fail 4) 0) := by
  obtain ⟨s, st, nx, g, sl, xs⟩ := d
  simp only at hl hn ⊢
  have HB := Below.refl w.heap.size w
  have K0 := Blk.new w #[.int .i64 s, .int .i64 st, .int .i64 nx, .int .i64 g, .int .i64 sl, .slice A n c] 24
  have K1 := fun cs0 => Blk.new1 w (.cells cs0 24) #[.int .i64 0, .int .i64 0, .int .i64 0, .int .i64 0, .int .i64 0, .slice none 0 0] 24
  have bt := Lib.hid (fun W (h1 : Below w.heap.size w W) => both_c f ⟨s, st, nx, g, sl, xs⟩ A c n W h (hl.below h1) hn)
  simp only at bt
  have uu := Lib.hid (fun W : World => rdown_arg b W)
  obtain ⟨⟨hf, hmay⟩, hst, hr, hz⟩ := down_yes hok
  simp only at hst
  have hb : bothB f ⟨s, st, nx, g, sl, xs⟩ = true := by simp [bothB, hf, hmay]
  rw [hb] at bt
  rw [hr] at uu
  have hz' : decide (32 < (t.size : Int)) = false := by simp; omega
  have hlen := may_len hmay
  obtain ⟨m1, m2, m3, m4, m5⟩ := may_nums hmay
  simp only at hlen m1 m2 m3 m4 m5
  have cp := Lib.hid (fun W (h : Below w.heap.size w W) => rcopy_c ⟨s, st, nx, g, sl, xs⟩ A c n W (hl.below h) hn (by omega))
  simp only at cp
  have HN := Lib.hid hn
  rw [hn] at hlen
  obtain ⟨m30, m31⟩ := m3
  obtain ⟨m40, m41⟩ := m4
  obtain ⟨m50, m51⟩ := m5
  clear hl hb hmay hn hok m1 m2
  simp only at h0
  have h3 : s = 3 := by simpa [h0] using hst
  subst h3
  clear h0
  simp only at hb1
  have hb2 : (b == nx - 1) = false := by simp; omega
  have hb3 : (b == nx) = true := by simpa using hb1
  clear hst hb1
  have t1 : t.toList.isEmpty = false := size_some ht0
  have t2 : (t.toList == []) = false := by cases e : t.toList with | nil => rw [e] at t1; simp at t1 | cons => rfl
  have t3 : 0 < t.size := by omega
  simp only at hc
  simp only at hc0
  have hc1 : (g % 32 != 0) = false := by simp [hc0]
  have hc2 : decide (288 < g + (t.size : Int)) = true := by simpa using hc
  go_enter Tryz.func54, Tryz.ntmps54
  go_wp2_with (first | (go_at_call 50; with_reducible refine (bt.out _ (by repeat (with_reducible first | exact Below.refl _ _ | assumption | (refine bl_set ?_ (by omega)) | apply bl_alloc | apply bl_drewN | apply bl_drew | (refine bl_step ?_ (by assumption)) | fail))).mono ?_; rintro e w' ⟨rfl, hb⟩; have HB := bl_step (w := w) (by repeat (with_reducible first | exact HB | (refine bl_set ?_ (by omega)) | apply bl_alloc | apply bl_drew | apply bl_drewN | fail)) hb; have hzB := HB.size; have K0 := Blk.on (by first | exact K0 | exact K0 #[] | exact K0 (.cells #[] 0) #[] | exact K0 #[] #[]) (by repeat (with_reducible first | exact K0 | exact K0 _ | exact K0 _ _ | apply Blk.alloc | apply Blk.drew | (apply Blk.off; (first | assumption | omega | (simp; omega))) | fail)) hb; (try clear eK0); have eK0 := Blk.ev K0; have K1 := Blk.on (by first | exact K1 | exact K1 #[] | exact K1 (.cells #[] 0) #[] | exact K1 #[] #[]) (by repeat (with_reducible first | exact K1 | exact K1 _ | exact K1 _ _ | apply Blk.alloc | apply Blk.drew | (apply Blk.off; (first | assumption | omega | (simp; omega))) | fail)) hb; (try clear eK1); have eK1 := Blk.ev K1) | (go_at_call 65; with_reducible refine (uu.out _).mono ?_; rintro e w' ⟨rfl, rfl⟩) | (go_at_call 55; (with_reducible refine (cp.out _ (by repeat (with_reducible first | exact Below.refl _ _ | assumption | (refine bl_set ?_ (by omega)) | apply bl_alloc | apply bl_drewN | apply bl_drew | (refine bl_step ?_ (by assumption)) | fail))).mono ?_); rintro e w1 ⟨⟨A', c', rfl, HO⟩, hb⟩; have HO := HO.mono (base' := w.heap.size + 2) (by omega); have hg1 : w.heap.size + 2 ≤ w1.heap.size := (by have := hb.size; omega); have HB := bl_step (w := w) (by repeat (with_reducible first | exact HB | (refine bl_set ?_ (by omega)) | apply bl_alloc | apply bl_drew | apply bl_drewN | fail)) hb; have hzB := HB.size; have K0 := Blk.on (by first | exact K0 | exact K0 #[] | exact K0 (.cells #[] 0) #[] | exact K0 #[] #[]) (by repeat (with_reducible first | exact K0 | exact K0 _ | exact K0 _ _ | apply Blk.alloc | apply Blk.drew | (apply Blk.off; (first | assumption | omega | (simp; omega))) | fail)) hb; (try clear eK0); have eK0 := Blk.ev K0; have K1 := Blk.on (by first | exact K1 | exact K1 #[] | exact K1 (.cells #[] 0) #[] | exact K1 #[] #[]) (by repeat (with_reducible first | exact K1 | exact K1 _ | exact K1 _ _ | apply Blk.alloc | apply Blk.drew | (apply Blk.off; (first | assumption | omega | (simp; omega))) | fail)) hb; (try clear eK1); have eK1 := Blk.ev K1; have K3 := fun cs => Blk.new w1 cs 24) | (go_at_call 68; (with_reducible refine (rfailed_c _ _).mono ?_); rintro e w9 ⟨rfl, hb⟩; have HB := bl_step (w := w) (by repeat (with_reducible first | exact HB | (refine bl_set ?_ (by omega)) | apply bl_alloc | apply bl_drew | apply bl_drewN | fail)) hb; have hzB := HB.size; have K0 := Blk.on (by first | exact K0 | exact K0 #[] | exact K0 (.cells #[] 0) #[] | exact K0 #[] #[]) (by repeat (with_reducible first | exact K0 | exact K0 _ | exact K0 _ _ | apply Blk.alloc | apply Blk.drew | (apply Blk.off; (first | assumption | omega | (simp; omega))) | fail)) hb; (try clear eK0); have eK0 := Blk.ev K0; have K1 := Blk.on (by first | exact K1 | exact K1 #[] | exact K1 (.cells #[] 0) #[] | exact K1 #[] #[]) (by repeat (with_reducible first | exact K1 | exact K1 _ | exact K1 _ _ | apply Blk.alloc | apply Blk.drew | (apply Blk.off; (first | assumption | omega | (simp; omega))) | fail)) hb; (try clear eK1); have eK1 := Blk.ev K1; have K3 := Blk.on (by first | exact K3 | exact K3 #[] | exact K3 (.cells #[] 0) #[] | exact K3 #[] #[]) (by repeat (with_reducible first | exact K3 | exact K3 _ | exact K3 _ _ | apply Blk.alloc | apply Blk.drew | apply Blk.set6_0 | apply Blk.set6_1 | apply Blk.set6_2 | apply Blk.set6_3 | apply Blk.set6_4 | apply Blk.set6_5 | (apply Blk.off; (first | assumption | omega | (simp; omega))) | fail)) hb; (try clear eK3); have eK3 := Blk.ev K3) | fail)
  refine body_gen1 (g1 := w.heap.size + 1) (cs1 := #[.int .i64 7, .int .i64 4, .int .i64 0, .int .i64 0, .int .i64 0, .slice none 0 0]) (t1 := 24) (A := none) (xs := []) (w := w) (by repeat (with_reducible first | exact K1 | exact K1 _ | apply Blk.alloc | apply Blk.drew | apply Blk.set6_0 | apply Blk.set6_1 | apply Blk.set6_2 | apply Blk.set6_3 | apply Blk.set6_4 | apply Blk.set6_5 | (apply Blk.off; (first | assumption | omega | (simp; omega))) | fail)) Own.nil (by repeat (with_reducible first | exact Below.refl _ _ | assumption | (refine bl_set ?_ (by omega)) | apply bl_alloc | apply bl_drewN | apply bl_drew | (refine bl_step ?_ (by assumption)) | fail)) ?_; intro wf L1 HOf HBf; obtain ⟨e0, e1, e2, e3, e4, e5, _⟩ := Blk.all6 L1; exact bodyPost_ret (v := .tuple #[.agg #[.int .i64 7, .int .i64 4, .int .i64 0, .int .i64 0, .int .i64 0, .slice none 0 0], .int .i64 0]) (by simp [results, Tryz.results54, go_sem, e0, e1, e2, e3, e4, e5]) rfl ⟨⟨none, 0, 0, rfl, rfl, HOf⟩, HBf⟩
set_option maxRecDepth 100000 in
set_option maxHeartbeats 12800000 in
theorem rdown_3z (f : ByteArray) (d : DS) (b : Int) (t : ByteArray) (A : Option Addr) (c n : Nat) (w : World) (h : f.size ≤ 9223372036854775807) (hl : Row w A d.ops) (hn : d.ops.length = n) (ht : t.size ≤ 9223372036854775807) (hok : downOk f d b t = true) (h0 : ¬ d.st = 0) (hb1 : b = d.nx) (ht0 : ¬ t.size = 0) (hc0 : d.go % 32 = 0) (hc : ¬ 288 < d.go + (t.size : Int)) (h16 : 16 ≤ d.nx) :
    Calls Tryz.prog 54 #[.string f, (.agg #[.int .i64 d.st, .int .i64 d.su, .int .i64 d.nx, .int .i64 d.go, .int .i64 d.sl, .slice A n c]), .int .i64 b, .string t] w (GivesE w (DS.fail 4) 0) := by
  obtain ⟨s, st, nx, g, sl, xs⟩ := d
  simp only at hl hn ⊢
  have HB := Below.refl w.heap.size w
  have K0 := Blk.new w #[.int .i64 s, .int .i64 st, .int .i64 nx, .int .i64 g, .int .i64 sl, .slice A n c] 24
  have K1 := fun cs0 => Blk.new1 w (.cells cs0 24) #[.int .i64 0, .int .i64 0, .int .i64 0, .int .i64 0, .int .i64 0, .slice none 0 0] 24
  have bt := Lib.hid (fun W (h1 : Below w.heap.size w W) => both_c f ⟨s, st, nx, g, sl, xs⟩ A c n W h (hl.below h1) hn)
  simp only at bt
  have uu := Lib.hid (fun W : World => rdown_arg b W)
  obtain ⟨⟨hf, hmay⟩, hst, hr, hz⟩ := down_yes hok
  simp only at hst
  have hb : bothB f ⟨s, st, nx, g, sl, xs⟩ = true := by simp [bothB, hf, hmay]
  rw [hb] at bt
  rw [hr] at uu
  have hz' : decide (32 < (t.size : Int)) = false := by simp; omega
  have hlen := may_len hmay
  obtain ⟨m1, m2, m3, m4, m5⟩ := may_nums hmay
  simp only at hlen m1 m2 m3 m4 m5
  have cp := Lib.hid (fun W (h : Below w.heap.size w W) => rcopy_c ⟨s, st, nx, g, sl, xs⟩ A c n W (hl.below h) hn (by omega))
  simp only at cp
  have HN := Lib.hid hn
  rw [hn] at hlen
  obtain ⟨m30, m31⟩ := m3
  obtain ⟨m40, m41⟩ := m4
  obtain ⟨m50, m51⟩ := m5
  clear hl hb hmay hn hok m1 m2
  simp only at h0
  have h3 : s = 3 := by simpa [h0] using hst
  subst h3
  clear h0
  simp only at hb1
  have hb2 : (b == nx - 1) = false := by simp; omega
  have hb3 : (b == nx) = true := by simpa using hb1
  clear hst hb1
  have t1 : t.toList.isEmpty = false := size_some ht0
  have t2 : (t.toList == []) = false := by cases e : t.toList with | nil => rw [e] at t1; simp at t1 | cons => rfl
  have t3 : 0 < t.size := by omega
  simp only at hc
  simp only at hc0
  have hc1 : (g % 32 != 0) = false := by simp [hc0]
  simp only at h16
  have hc2 : decide (288 < g + (t.size : Int)) = false := by simpa using hc
  have hc3 : decide (16 ≤ nx) = true := by simpa using h16
  go_enter Tryz.func54, Tryz.ntmps54
  go_wp2_with (first | (go_at_call 50; with_reducible refine (bt.out _ (by repeat (with_reducible first | exact Below.refl _ _ | assumption | (refine bl_set ?_ (by omega)) | apply bl_alloc | apply bl_drewN | apply bl_drew | (refine bl_step ?_ (by assumption)) | fail))).mono ?_; rintro e w' ⟨rfl, hb⟩; have HB := bl_step (w := w) (by repeat (with_reducible first | exact HB | (refine bl_set ?_ (by omega)) | apply bl_alloc | apply bl_drew | apply bl_drewN | fail)) hb; have hzB := HB.size; have K0 := Blk.on (by first | exact K0 | exact K0 #[] | exact K0 (.cells #[] 0) #[] | exact K0 #[] #[]) (by repeat (with_reducible first | exact K0 | exact K0 _ | exact K0 _ _ | apply Blk.alloc | apply Blk.drew | (apply Blk.off; (first | assumption | omega | (simp; omega))) | fail)) hb; (try clear eK0); have eK0 := Blk.ev K0; have K1 := Blk.on (by first | exact K1 | exact K1 #[] | exact K1 (.cells #[] 0) #[] | exact K1 #[] #[]) (by repeat (with_reducible first | exact K1 | exact K1 _ | exact K1 _ _ | apply Blk.alloc | apply Blk.drew | (apply Blk.off; (first | assumption | omega | (simp; omega))) | fail)) hb; (try clear eK1); have eK1 := Blk.ev K1) | (go_at_call 65; with_reducible refine (uu.out _).mono ?_; rintro e w' ⟨rfl, rfl⟩) | (go_at_call 55; (with_reducible refine (cp.out _ (by repeat (with_reducible first | exact Below.refl _ _ | assumption | (refine bl_set ?_ (by omega)) | apply bl_alloc | apply bl_drewN | apply bl_drew | (refine bl_step ?_ (by assumption)) | fail))).mono ?_); rintro e w1 ⟨⟨A', c', rfl, HO⟩, hb⟩; have HO := HO.mono (base' := w.heap.size + 2) (by omega); have hg1 : w.heap.size + 2 ≤ w1.heap.size := (by have := hb.size; omega); have HB := bl_step (w := w) (by repeat (with_reducible first | exact HB | (refine bl_set ?_ (by omega)) | apply bl_alloc | apply bl_drew | apply bl_drewN | fail)) hb; have hzB := HB.size; have K0 := Blk.on (by first | exact K0 | exact K0 #[] | exact K0 (.cells #[] 0) #[] | exact K0 #[] #[]) (by repeat (with_reducible first | exact K0 | exact K0 _ | exact K0 _ _ | apply Blk.alloc | apply Blk.drew | (apply Blk.off; (first | assumption | omega | (simp; omega))) | fail)) hb; (try clear eK0); have eK0 := Blk.ev K0; have K1 := Blk.on (by first | exact K1 | exact K1 #[] | exact K1 (.cells #[] 0) #[] | exact K1 #[] #[]) (by repeat (with_reducible first | exact K1 | exact K1 _ | exact K1 _ _ | apply Blk.alloc | apply Blk.drew | (apply Blk.off; (first | assumption | omega | (simp; omega))) | fail)) hb; (try clear eK1); have eK1 := Blk.ev K1; have K3 := fun cs => Blk.new w1 cs 24) | (go_at_call 68; (with_reducible refine (rfailed_c _ _).mono ?_); rintro e w9 ⟨rfl, hb⟩; have HB := bl_step (w := w) (by repeat (with_reducible first | exact HB | (refine bl_set ?_ (by omega)) | apply bl_alloc | apply bl_drew | apply bl_drewN | fail)) hb; have hzB := HB.size; have K0 := Blk.on (by first | exact K0 | exact K0 #[] | exact K0 (.cells #[] 0) #[] | exact K0 #[] #[]) (by repeat (with_reducible first | exact K0 | exact K0 _ | exact K0 _ _ | apply Blk.alloc | apply Blk.drew | (apply Blk.off; (first | assumption | omega | (simp; omega))) | fail)) hb; (try clear eK0); have eK0 := Blk.ev K0; have K1 := Blk.on (by first | exact K1 | exact K1 #[] | exact K1 (.cells #[] 0) #[] | exact K1 #[] #[]) (by repeat (with_reducible first | exact K1 | exact K1 _ | exact K1 _ _ | apply Blk.alloc | apply Blk.drew | (apply Blk.off; (first | assumption | omega | (simp; omega))) | fail)) hb; (try clear eK1); have eK1 := Blk.ev K1; have K3 := Blk.on (by first | exact K3 | exact K3 #[] | exact K3 (.cells #[] 0) #[] | exact K3 #[] #[]) (by repeat (with_reducible first | exact K3 | exact K3 _ | exact K3 _ _ | apply Blk.alloc | apply Blk.drew | apply Blk.set6_0 | apply Blk.set6_1 | apply Blk.set6_2 | apply Blk.set6_3 | apply Blk.set6_4 | apply Blk.set6_5 | (apply Blk.off; (first | assumption | omega | (simp; omega))) | fail)) hb; (try clear eK3); have eK3 := Blk.ev K3) | fail)
  refine body_gen1 (g1 := w.heap.size + 1) (cs1 := #[.int .i64 7, .int .i64 4, .int .i64 0, .int .i64 0, .int .i64 0, .slice none 0 0]) (t1 := 24) (A := none) (xs := []) (w := w) (by repeat (with_reducible first | exact K1 | exact K1 _ | apply Blk.alloc | apply Blk.drew | apply Blk.set6_0 | apply Blk.set6_1 | apply Blk.set6_2 | apply Blk.set6_3 | apply Blk.set6_4 | apply Blk.set6_5 | (apply Blk.off; (first | assumption | omega | (simp; omega))) | fail)) Own.nil (by repeat (with_reducible first | exact Below.refl _ _ | assumption | (refine bl_set ?_ (by omega)) | apply bl_alloc | apply bl_drewN | apply bl_drew | (refine bl_step ?_ (by assumption)) | fail)) ?_; intro wf L1 HOf HBf; obtain ⟨e0, e1, e2, e3, e4, e5, _⟩ := Blk.all6 L1; exact bodyPost_ret (v := .tuple #[.agg #[.int .i64 7, .int .i64 4, .int .i64 0, .int .i64 0, .int .i64 0, .slice none 0 0], .int .i64 0]) (by simp [results, Tryz.results54, go_sem, e0, e1, e2, e3, e4, e5]) rfl ⟨⟨none, 0, 0, rfl, rfl, HOf⟩, HBf⟩
set_option maxRecDepth 100000 in
set_option maxHeartbeats 12800000 in
theorem rdown_3m (f : ByteArray) (d : DS) (b : Int) (t : ByteArray) (A : Option Addr) (c n : Nat) (w : World) (h : f.size ≤ 9223372036854775807) (hl : Row w A d.ops) (hn : d.ops.length = n) (ht : t.size ≤ 9223372036854775807) (hok : downOk f d b t = true) (h0 : ¬ d.st = 0) (hb1 : b = d.nx) (ht0 : ¬ t.size = 0) (hc0 : d.go % 32 = 0) (hc : ¬ 288 < d.go + (t.size : Int)) (h16 : ¬ 16 ≤ d.nx) :
    Calls Tryz.prog 54 #[.string f, (.agg #[.int .i64 d.st, .int .i64 d.su, .int .i64 d.nx, .int .i64 d.go, .int .i64 d.sl, .slice A n c]), .int .i64 b, .string t] w (GivesE w (⟨1, d.su, d.nx + 1, d.go + (t.size : Int), d.sl, wordsL (slotAt d.sl + d.go) t⟩) 0) := by
  obtain ⟨s, st, nx, g, sl, xs⟩ := d
  simp only at hl hn ⊢
  have HB := Below.refl w.heap.size w
  have K0 := Blk.new w #[.int .i64 s, .int .i64 st, .int .i64 nx, .int .i64 g, .int .i64 sl, .slice A n c] 24
  have K1 := fun cs0 => Blk.new1 w (.cells cs0 24) #[.int .i64 0, .int .i64 0, .int .i64 0, .int .i64 0, .int .i64 0, .slice none 0 0] 24
  have bt := Lib.hid (fun W (h1 : Below w.heap.size w W) => both_c f ⟨s, st, nx, g, sl, xs⟩ A c n W h (hl.below h1) hn)
  simp only at bt
  have uu := Lib.hid (fun W : World => rdown_arg b W)
  obtain ⟨⟨hf, hmay⟩, hst, hr, hz⟩ := down_yes hok
  simp only at hst
  have hb : bothB f ⟨s, st, nx, g, sl, xs⟩ = true := by simp [bothB, hf, hmay]
  rw [hb] at bt
  rw [hr] at uu
  have hz' : decide (32 < (t.size : Int)) = false := by simp; omega
  have hlen := may_len hmay
  obtain ⟨m1, m2, m3, m4, m5⟩ := may_nums hmay
  simp only at hlen m1 m2 m3 m4 m5
  have cp := Lib.hid (fun W (h : Below w.heap.size w W) => rcopy_c ⟨s, st, nx, g, sl, xs⟩ A c n W (hl.below h) hn (by omega))
  simp only at cp
  have HN := Lib.hid hn
  rw [hn] at hlen
  obtain ⟨m30, m31⟩ := m3
  obtain ⟨m40, m41⟩ := m4
  obtain ⟨m50, m51⟩ := m5
  clear hl hb hmay hn hok m1 m2
  simp only at h0
  have h3 : s = 3 := by simpa [h0] using hst
  subst h3
  clear h0
  simp only at hb1
  have hb2 : (b == nx - 1) = false := by simp; omega
  have hb3 : (b == nx) = true := by simpa using hb1
  clear hst hb1
  have t1 : t.toList.isEmpty = false := size_some ht0
  have t2 : (t.toList == []) = false := by cases e : t.toList with | nil => rw [e] at t1; simp at t1 | cons => rfl
  have t3 : 0 < t.size := by omega
  simp only at hc
  simp only at hc0
  have hc1 : (g % 32 != 0) = false := by simp [hc0]
  simp only at h16
  have hc2 : decide (288 < g + (t.size : Int)) = false := by simpa using hc
  have hc3 : decide (16 ≤ nx) = false := by simp; omega
  have bs := Lib.hid (fun W : World => rbase_c sl W m50 m51)
  obtain ⟨b1, b2⟩ := base_le m50 m51
  have b4 : baseN sl % 96 = 0 := by unfold baseN; omega
  have wd := Lib.hid (fun W : World => rwords_c ((baseN sl : Int) + g) t W (by omega) (by omega) (by omega))
  have hD := Lib.hid (show (⟨1, st, nx + 1, g + (t.size : Int), sl, wordsL (slotAt sl + g) t⟩ : DS) = ⟨1, st, nx + 1, g + (t.size : Int), sl, wordsL ((baseN sl : Int) + g) t⟩ from rfl)
  have hW3 := Lib.hid (show (wordsL ((baseN sl : Int) + g) t).length = (t.size + 3) / 4 by unfold wordsL; rw [wordsN_len])
  have OKE := Lib.hid (fun o (ho : o ∈ wordsL ((baseN sl : Int) + g) t) => (words_may (by omega) (by omega) (by omega) o ho).2)
  generalize wordsL ((baseN sl : Int) + g) t = WL at *
  generalize baseN sl = bn at *
  have hm9 : (t.size + 3) / 4 ≤ 8 := by omega
  generalize (t.size + 3) / 4 = m at *
  clear b4
  rw [hD.out]
  go_enter Tryz.func54, Tryz.ntmps54
  go_wp2_with (first | (go_at_call 50; with_reducible refine (bt.out _ (by repeat (with_reducible first | exact Below.refl _ _ | assumption | (refine bl_set ?_ (by omega)) | apply bl_alloc | apply bl_drewN | apply bl_drew | (refine bl_step ?_ (by assumption)) | fail))).mono ?_; rintro e w' ⟨rfl, hb⟩; have HB := bl_step (w := w) (by repeat (with_reducible first | exact HB | (refine bl_set ?_ (by omega)) | apply bl_alloc | apply bl_drew | apply bl_drewN | fail)) hb; have hzB := HB.size; have K0 := Blk.on (by first | exact K0 | exact K0 #[] | exact K0 (.cells #[] 0) #[] | exact K0 #[] #[]) (by repeat (with_reducible first | exact K0 | exact K0 _ | exact K0 _ _ | apply Blk.alloc | apply Blk.drew | (apply Blk.off; (first | assumption | omega | (simp; omega))) | fail)) hb; (try clear eK0); have eK0 := Blk.ev K0; have K1 := Blk.on (by first | exact K1 | exact K1 #[] | exact K1 (.cells #[] 0) #[] | exact K1 #[] #[]) (by repeat (with_reducible first | exact K1 | exact K1 _ | exact K1 _ _ | apply Blk.alloc | apply Blk.drew | (apply Blk.off; (first | assumption | omega | (simp; omega))) | fail)) hb; (try clear eK1); have eK1 := Blk.ev K1) | (go_at_call 65; with_reducible refine (uu.out _).mono ?_; rintro e w' ⟨rfl, rfl⟩) | (go_at_call 55; (with_reducible refine (cp.out _ (by repeat (with_reducible first | exact Below.refl _ _ | assumption | (refine bl_set ?_ (by omega)) | apply bl_alloc | apply bl_drewN | apply bl_drew | (refine bl_step ?_ (by assumption)) | fail))).mono ?_); rintro e w1 ⟨⟨A', c', rfl, HO⟩, hb⟩; have HO := HO.mono (base' := w.heap.size + 2) (by omega); have hg1 : w.heap.size + 2 ≤ w1.heap.size := (by have := hb.size; omega); have HB := bl_step (w := w) (by repeat (with_reducible first | exact HB | (refine bl_set ?_ (by omega)) | apply bl_alloc | apply bl_drew | apply bl_drewN | fail)) hb; have hzB := HB.size; have K0 := Blk.on (by first | exact K0 | exact K0 #[] | exact K0 (.cells #[] 0) #[] | exact K0 #[] #[]) (by repeat (with_reducible first | exact K0 | exact K0 _ | exact K0 _ _ | apply Blk.alloc | apply Blk.drew | (apply Blk.off; (first | assumption | omega | (simp; omega))) | fail)) hb; (try clear eK0); have eK0 := Blk.ev K0; have K1 := Blk.on (by first | exact K1 | exact K1 #[] | exact K1 (.cells #[] 0) #[] | exact K1 #[] #[]) (by repeat (with_reducible first | exact K1 | exact K1 _ | exact K1 _ _ | apply Blk.alloc | apply Blk.drew | (apply Blk.off; (first | assumption | omega | (simp; omega))) | fail)) hb; (try clear eK1); have eK1 := Blk.ev K1; have K3 := fun cs => Blk.new w1 cs 24) | (go_at_call 94; with_reducible refine (bs.out _).mono ?_; rintro e w' ⟨rfl, rfl⟩) | (go_at_call 113; (with_reducible refine (wd.out _).mono ?_); rintro e w6 ⟨A6, c6, rfl, hown6, hb⟩; have HO6 := (own_of hown6 hW3.out (by omega) OKE.out).mono (base' := w1.heap.size + 1) (by first | omega | (simp; done) | (simp; omega)); have HB := bl_step (w := w) (by repeat (with_reducible first | exact HB | (refine bl_set ?_ (by omega)) | apply bl_alloc | apply bl_drew | apply bl_drewN | fail)) hb; have hzB := HB.size; have K0 := Blk.on (by first | exact K0 | exact K0 #[] | exact K0 (.cells #[] 0) #[] | exact K0 #[] #[]) (by repeat (with_reducible first | exact K0 | exact K0 _ | exact K0 _ _ | apply Blk.alloc | apply Blk.drew | (apply Blk.off; (first | assumption | omega | (simp; omega))) | fail)) hb; (try clear eK0); have eK0 := Blk.ev K0; have K1 := Blk.on (by first | exact K1 | exact K1 #[] | exact K1 (.cells #[] 0) #[] | exact K1 #[] #[]) (by repeat (with_reducible first | exact K1 | exact K1 _ | exact K1 _ _ | apply Blk.alloc | apply Blk.drew | (apply Blk.off; (first | assumption | omega | (simp; omega))) | fail)) hb; (try clear eK1); have eK1 := Blk.ev K1; have K3 := Blk.on (by first | exact K3 | exact K3 #[] | exact K3 (.cells #[] 0) #[] | exact K3 #[] #[]) (by repeat (with_reducible first | exact K3 | exact K3 _ | exact K3 _ _ | apply Blk.alloc | apply Blk.drew | apply Blk.set6_0 | apply Blk.set6_1 | apply Blk.set6_2 | apply Blk.set6_3 | apply Blk.set6_4 | apply Blk.set6_5 | (apply Blk.off; (first | assumption | omega | (simp; omega))) | fail)) hb; (try clear eK3); have eK3 := Blk.ev K3) | fail)
  refine body_gen1 (g1 := w.heap.size + 1) (cs1 := #[.int .i64 1, .int .i64 st, .int .i64 (nx + 1), .int .i64 (g + (t.size : Int)), .int .i64 sl, .slice A6 m c6]) (t1 := 24) (A := A6) (xs := WL) (w := w) (by repeat (with_reducible first | exact K1 | exact K1 _ | apply Blk.alloc | apply Blk.drew | apply Blk.set6_0 | apply Blk.set6_1 | apply Blk.set6_2 | apply Blk.set6_3 | apply Blk.set6_4 | apply Blk.set6_5 | (apply Blk.off; (first | assumption | omega | (simp; omega))) | fail)) (by (refine Own.mono (base := w1.heap.size + 1) ?_ (by omega)); (repeat (with_reducible first | exact HO6 | (refine Own.set ?_ (by dsimp only; omega) _) | (refine Own.alloc ?_ _) | (refine Own.drewn ?_) | fail))) (by repeat (with_reducible first | exact Below.refl _ _ | assumption | (refine bl_set ?_ (by omega)) | apply bl_alloc | apply bl_drewN | apply bl_drew | (refine bl_step ?_ (by assumption)) | fail)) ?_; intro wf L1 HOf HBf; obtain ⟨e0, e1, e2, e3, e4, e5, _⟩ := Blk.all6 L1; exact bodyPost_ret (v := .tuple #[.agg #[.int .i64 1, .int .i64 st, .int .i64 (nx + 1), .int .i64 (g + (t.size : Int)), .int .i64 sl, .slice A6 m c6], .int .i64 0]) (by simp [results, Tryz.results54, go_sem, e0, e1, e2, e3, e4, e5]) rfl ⟨⟨A6, m, c6, rfl, hW3.out, HOf⟩, HBf⟩
set_option maxRecDepth 100000 in
set_option maxHeartbeats 12800000 in
theorem rdown_0m (f : ByteArray) (d : DS) (b : Int) (t : ByteArray) (A : Option Addr) (c n : Nat) (w : World) (h : f.size ≤ 9223372036854775807) (hl : Row w A d.ops) (hn : d.ops.length = n) (ht : t.size ≤ 9223372036854775807) (hok : downOk f d b t = true) (h0 : d.st = 0) (ht0 : ¬ t.size = 0) (hb0 : b = 0) :
    Calls Tryz.prog 54 #[.string f, (.agg #[.int .i64 d.st, .int .i64 d.su, .int .i64 d.nx, .int .i64 d.go, .int .i64 d.sl, .slice A n c]), .int .i64 b, .string t] w (GivesE w (downM f d.su t) 0) := by
  obtain ⟨s, st, nx, g, sl, xs⟩ := d
  simp only at hl hn ⊢
  have HB := Below.refl w.heap.size w
  have K0 := Blk.new w #[.int .i64 s, .int .i64 st, .int .i64 nx, .int .i64 g, .int .i64 sl, .slice A n c] 24
  have K1 := fun cs0 => Blk.new1 w (.cells cs0 24) #[.int .i64 0, .int .i64 0, .int .i64 0, .int .i64 0, .int .i64 0, .slice none 0 0] 24
  have bt := Lib.hid (fun W (h1 : Below w.heap.size w W) => both_c f ⟨s, st, nx, g, sl, xs⟩ A c n W h (hl.below h1) hn)
  simp only at bt
  have uu := Lib.hid (fun W : World => rdown_arg b W)
  obtain ⟨⟨hf, hmay⟩, hst, hr, hz⟩ := down_yes hok
  simp only at hst
  have hb : bothB f ⟨s, st, nx, g, sl, xs⟩ = true := by simp [bothB, hf, hmay]
  rw [hb] at bt
  rw [hr] at uu
  have hz' : decide (32 < (t.size : Int)) = false := by simp; omega
  have hlen := may_len hmay
  obtain ⟨m1, m2, m3, m4, m5⟩ := may_nums hmay
  simp only at hlen m1 m2 m3 m4 m5
  have cp := Lib.hid (fun W (h : Below w.heap.size w W) => rcopy_c ⟨s, st, nx, g, sl, xs⟩ A c n W (hl.below h) hn (by omega))
  simp only at cp
  have HN := Lib.hid hn
  rw [hn] at hlen
  obtain ⟨m30, m31⟩ := m3
  obtain ⟨m40, m41⟩ := m4
  obtain ⟨m50, m51⟩ := m5
  clear hl hb hmay hn hok m1 m2
  simp only at h0
  subst h0
  subst hb0
  have t1 : t.toList.isEmpty = false := size_some ht0
  have t2 : (t.toList == []) = false := by cases e : t.toList with | nil => rw [e] at t1; simp at t1 | cons => rfl
  have t3 : 0 < t.size := by omega
  clear hst
  have hof := other_rng f
  obtain ⟨ho0, ho1⟩ := hof
  have ot := Lib.hid (fun W : World => rother_c f W hf)
  have hD := Lib.hid (show downM f st t = ⟨1, st, 1, t.size, otherN f, erL (otherN f) ++ wordsL (slotAt (otherN f)) t⟩ from rfl)
  generalize otherN f = so at *
  have bs := Lib.hid (fun W : World => rbase_c so W ho0 ho1)
  have er := Lib.hid (fun W : World => rerases_c so W ho0 ho1)
  obtain ⟨b1, b2⟩ := base_le ho0 ho1
  have b4 : baseN so % 4 = 0 := by unfold baseN; omega
  have wd := Lib.hid (fun W : World => rwords_c (slotAt so) t W (by unfold slotAt; omega) (by unfold slotAt; omega) (by unfold slotAt; omega))
  have hbs : slotAt so = (baseN so : Int) := rfl
  rw [hbs] at wd hD
  have hE3 := Lib.hid (show (erL so).length = 3 from erN_len _ _)
  have hW3 := Lib.hid (show (wordsL (baseN so : Int) t).length = (t.size + 3) / 4 by unfold wordsL; rw [wordsN_len])
  have OKE := Lib.hid (fun o (ho : o ∈ erL so ++ wordsL (baseN so : Int) t) => begin_ops ho0 ho1 hz o ho)
  generalize erL so = EL at *
  generalize wordsL (baseN so : Int) t = WL at *
  generalize baseN so = bn at *
  have hm9 : (t.size + 3) / 4 ≤ 8 := by omega
  generalize (t.size + 3) / 4 = m at *
  obtain ⟨i0, hi0, hq0, hq1, hq2⟩ := info_parts op_info
  clear hbs b4
  rw [hD.out]
  go_enter Tryz.func54, Tryz.ntmps54
  go_wp2_with (first | (go_at_call 50; with_reducible refine (bt.out _ (by repeat (with_reducible first | exact Below.refl _ _ | assumption | (refine bl_set ?_ (by omega)) | apply bl_alloc | apply bl_drewN | apply bl_drew | (refine bl_step ?_ (by assumption)) | fail))).mono ?_; rintro e w' ⟨rfl, hb⟩; have HB := bl_step (w := w) (by repeat (with_reducible first | exact HB | (refine bl_set ?_ (by omega)) | apply bl_alloc | apply bl_drew | apply bl_drewN | fail)) hb; have hzB := HB.size; have K0 := Blk.on (by first | exact K0 | exact K0 #[] | exact K0 (.cells #[] 0) #[] | exact K0 #[] #[]) (by repeat (with_reducible first | exact K0 | exact K0 _ | exact K0 _ _ | apply Blk.alloc | apply Blk.drew | (apply Blk.off; (first | assumption | omega | (simp; omega))) | fail)) hb; (try clear eK0); have eK0 := Blk.ev K0; have K1 := Blk.on (by first | exact K1 | exact K1 #[] | exact K1 (.cells #[] 0) #[] | exact K1 #[] #[]) (by repeat (with_reducible first | exact K1 | exact K1 _ | exact K1 _ _ | apply Blk.alloc | apply Blk.drew | (apply Blk.off; (first | assumption | omega | (simp; omega))) | fail)) hb; (try clear eK1); have eK1 := Blk.ev K1) | (go_at_call 65; with_reducible refine (uu.out _).mono ?_; rintro e w' ⟨rfl, rfl⟩) | (go_at_call 55; (with_reducible refine (cp.out _ (by repeat (with_reducible first | exact Below.refl _ _ | assumption | (refine bl_set ?_ (by omega)) | apply bl_alloc | apply bl_drewN | apply bl_drew | (refine bl_step ?_ (by assumption)) | fail))).mono ?_); rintro e w1 ⟨⟨A', c', rfl, HO⟩, hb⟩; have HO := HO.mono (base' := w.heap.size + 2) (by omega); have hg1 : w.heap.size + 2 ≤ w1.heap.size := (by have := hb.size; omega); have HB := bl_step (w := w) (by repeat (with_reducible first | exact HB | (refine bl_set ?_ (by omega)) | apply bl_alloc | apply bl_drew | apply bl_drewN | fail)) hb; have hzB := HB.size; have K0 := Blk.on (by first | exact K0 | exact K0 #[] | exact K0 (.cells #[] 0) #[] | exact K0 #[] #[]) (by repeat (with_reducible first | exact K0 | exact K0 _ | exact K0 _ _ | apply Blk.alloc | apply Blk.drew | (apply Blk.off; (first | assumption | omega | (simp; omega))) | fail)) hb; (try clear eK0); have eK0 := Blk.ev K0; have K1 := Blk.on (by first | exact K1 | exact K1 #[] | exact K1 (.cells #[] 0) #[] | exact K1 #[] #[]) (by repeat (with_reducible first | exact K1 | exact K1 _ | exact K1 _ _ | apply Blk.alloc | apply Blk.drew | (apply Blk.off; (first | assumption | omega | (simp; omega))) | fail)) hb; (try clear eK1); have eK1 := Blk.ev K1; have K3 := fun cs => Blk.new w1 cs 24) | (go_at_call 94; with_reducible refine (bs.out _).mono ?_; rintro e w' ⟨rfl, rfl⟩) | (go_at_call 111; with_reducible refine (ot.out _).mono ?_; rintro e w' ⟨rfl, hb⟩; have HB := bl_step (w := w) (by repeat (with_reducible first | exact HB | (refine bl_set ?_ (by omega)) | apply bl_alloc | apply bl_drew | apply bl_drewN | fail)) hb; have hzB := HB.size; have K0 := Blk.on (by first | exact K0 | exact K0 #[] | exact K0 (.cells #[] 0) #[] | exact K0 #[] #[]) (by repeat (with_reducible first | exact K0 | exact K0 _ | exact K0 _ _ | apply Blk.alloc | apply Blk.drew | (apply Blk.off; (first | assumption | omega | (simp; omega))) | fail)) hb; (try clear eK0); have eK0 := Blk.ev K0; have K1 := Blk.on (by first | exact K1 | exact K1 #[] | exact K1 (.cells #[] 0) #[] | exact K1 #[] #[]) (by repeat (with_reducible first | exact K1 | exact K1 _ | exact K1 _ _ | apply Blk.alloc | apply Blk.drew | (apply Blk.off; (first | assumption | omega | (simp; omega))) | fail)) hb; (try clear eK1); have eK1 := Blk.ev K1; have K3 := Blk.on (by first | exact K3 | exact K3 #[] | exact K3 (.cells #[] 0) #[] | exact K3 #[] #[]) (by repeat (with_reducible first | exact K3 | exact K3 _ | exact K3 _ _ | apply Blk.alloc | apply Blk.drew | apply Blk.set6_0 | apply Blk.set6_1 | apply Blk.set6_2 | apply Blk.set6_3 | apply Blk.set6_4 | apply Blk.set6_5 | (apply Blk.off; (first | assumption | omega | (simp; omega))) | fail)) hb; (try clear eK3); have eK3 := Blk.ev K3) | (go_at_call 112; (with_reducible refine (er.out _).mono ?_); rintro e w5 ⟨A5, c5, rfl, hown5, hb⟩; have HB := bl_step (w := w) (by repeat (with_reducible first | exact HB | (refine bl_set ?_ (by omega)) | apply bl_alloc | apply bl_drew | apply bl_drewN | fail)) hb; have hzB := HB.size; have K0 := Blk.on (by first | exact K0 | exact K0 #[] | exact K0 (.cells #[] 0) #[] | exact K0 #[] #[]) (by repeat (with_reducible first | exact K0 | exact K0 _ | exact K0 _ _ | apply Blk.alloc | apply Blk.drew | (apply Blk.off; (first | assumption | omega | (simp; omega))) | fail)) hb; (try clear eK0); have eK0 := Blk.ev K0; have K1 := Blk.on (by first | exact K1 | exact K1 #[] | exact K1 (.cells #[] 0) #[] | exact K1 #[] #[]) (by repeat (with_reducible first | exact K1 | exact K1 _ | exact K1 _ _ | apply Blk.alloc | apply Blk.drew | (apply Blk.off; (first | assumption | omega | (simp; omega))) | fail)) hb; (try clear eK1); have eK1 := Blk.ev K1; have K3 := Blk.on (by first | exact K3 | exact K3 #[] | exact K3 (.cells #[] 0) #[] | exact K3 #[] #[]) (by repeat (with_reducible first | exact K3 | exact K3 _ | exact K3 _ _ | apply Blk.alloc | apply Blk.drew | apply Blk.set6_0 | apply Blk.set6_1 | apply Blk.set6_2 | apply Blk.set6_3 | apply Blk.set6_4 | apply Blk.set6_5 | (apply Blk.off; (first | assumption | omega | (simp; omega))) | fail)) hb; (try clear eK3); have eK3 := Blk.ev K3; have LE := Lib.hid (lies_own encOp_len hown5 hE3.out)) | (go_at_call 113; (with_reducible refine (wd.out _).mono ?_); rintro e w6 ⟨A6, c6, rfl, hown6, hb⟩; have HB := bl_step (w := w) (by repeat (with_reducible first | exact HB | (refine bl_set ?_ (by omega)) | apply bl_alloc | apply bl_drew | apply bl_drewN | fail)) hb; have hzB := HB.size; have K0 := Blk.on (by first | exact K0 | exact K0 #[] | exact K0 (.cells #[] 0) #[] | exact K0 #[] #[]) (by repeat (with_reducible first | exact K0 | exact K0 _ | exact K0 _ _ | apply Blk.alloc | apply Blk.drew | (apply Blk.off; (first | assumption | omega | (simp; omega))) | fail)) hb; (try clear eK0); have eK0 := Blk.ev K0; have K1 := Blk.on (by first | exact K1 | exact K1 #[] | exact K1 (.cells #[] 0) #[] | exact K1 #[] #[]) (by repeat (with_reducible first | exact K1 | exact K1 _ | exact K1 _ _ | apply Blk.alloc | apply Blk.drew | (apply Blk.off; (first | assumption | omega | (simp; omega))) | fail)) hb; (try clear eK1); have eK1 := Blk.ev K1; have K3 := Blk.on (by first | exact K3 | exact K3 #[] | exact K3 (.cells #[] 0) #[] | exact K3 #[] #[]) (by repeat (with_reducible first | exact K3 | exact K3 _ | exact K3 _ _ | apply Blk.alloc | apply Blk.drew | apply Blk.set6_0 | apply Blk.set6_1 | apply Blk.set6_2 | apply Blk.set6_3 | apply Blk.set6_4 | apply Blk.set6_5 | (apply Blk.off; (first | assumption | omega | (simp; omega))) | fail)) hb; (try clear eK3); have eK3 := Blk.ev K3; have LE := Lib.hid (LE.out.below hb); have LW := Lib.hid (lies_own encOp_len hown6 hW3.out); have hw6 : w.heap.size + 2 ≤ w6.heap.size := (by have := hb.size; omega); have hk6 := eK3.2.2.1) | (at_builtin; (refine wpList_grow (k := 3) (enc := encOp) (xs := WL) rfl _ _ 22 rfl _ w6.heap.size 118 i0 _ 32 Tryz.underlying22 hi0 hq0 hq1 hq2 rfl (by decide) encOp_len encOp_one (.slice A7 3 c7) rfl 3 EL hown7 A6 m c6 rfl LW.out hW3.out (by simp only [maxLen]; omega) (by omega) h67.size ?_); intro A8 c8 w8 hown8 hg8 hat8; have hb : Below w6.heap.size w6 w8 := bl_grown h67 hg8 (fun g hg => own_base hown7 g hg); have HB := bl_step (w := w) (by repeat (with_reducible first | exact HB | (refine bl_set ?_ (by omega)) | apply bl_alloc | apply bl_drew | apply bl_drewN | fail)) hb; have hzB := HB.size; have K0 := Blk.on (by first | exact K0 | exact K0 #[] | exact K0 (.cells #[] 0) #[] | exact K0 #[] #[]) (by repeat (with_reducible first | exact K0 | exact K0 _ | exact K0 _ _ | apply Blk.alloc | apply Blk.drew | (apply Blk.off; (first | assumption | omega | (simp; omega))) | fail)) hb; (try clear eK0); have eK0 := Blk.ev K0; have K1 := Blk.on (by first | exact K1 | exact K1 #[] | exact K1 (.cells #[] 0) #[] | exact K1 #[] #[]) (by repeat (with_reducible first | exact K1 | exact K1 _ | exact K1 _ _ | apply Blk.alloc | apply Blk.drew | (apply Blk.off; (first | assumption | omega | (simp; omega))) | fail)) hb; (try clear eK1); have eK1 := Blk.ev K1; have K3 := Blk.on (by first | exact K3 | exact K3 #[] | exact K3 (.cells #[] 0) #[] | exact K3 #[] #[]) (by repeat (with_reducible first | exact K3 | exact K3 _ | exact K3 _ _ | apply Blk.alloc | apply Blk.drew | apply Blk.set6_0 | apply Blk.set6_1 | apply Blk.set6_2 | apply Blk.set6_3 | apply Blk.set6_4 | apply Blk.set6_5 | (apply Blk.off; (first | assumption | omega | (simp; omega))) | fail)) hb; (try clear eK3); have eK3 := Blk.ev K3; have HO8 := (own_of hown8 (by rw [List.length_append, hE3.out, hW3.out]) (by omega) OKE.out)) | (at_builtin; go_must (refine wpList_grow (k := 3) (enc := encOp) (xs := EL) rfl _ _ 22 rfl _ w6.heap.size 118 i0 _ 32 Tryz.underlying22 hi0 hq0 hq1 hq2 rfl (by decide) encOp_len encOp_one (.slice (some ⟨w6.heap.size, 0, none⟩) 0 0) rfl 0 [] (own_lit0 _ _) A5 3 c5 rfl (LE.out.below (bl_alloc (Below.refl _ _) _)) hE3.out (by decide) (by decide) (by simp) ?_); intro A7 c7 w7 hown7 hg7 hat7; simp only [Nat.zero_add, List.nil_append] at hown7 hat7; have h67 : Below w6.heap.size w6 w7 := bl_grown (bl_alloc (Below.refl _ _) _) hg7 (fun g hg => by have : w6.heap.size = g := (by simpa [Value.ownBlock] using hg); omega); have LW := Lib.hid (LW.out.below h67)) | fail)
  refine body_gen1 (g1 := w.heap.size + 1) (cs1 := #[.int .i64 1, .int .i64 st, .int .i64 1, .int .i64 t.size, .int .i64 so, .slice A8 (3 + m) c8]) (t1 := 24) (A := A8) (xs := (EL ++ WL)) (w := w) (by repeat (with_reducible first | exact K1 | exact K1 _ | apply Blk.alloc | apply Blk.drew | apply Blk.set6_0 | apply Blk.set6_1 | apply Blk.set6_2 | apply Blk.set6_3 | apply Blk.set6_4 | apply Blk.set6_5 | (apply Blk.off; (first | assumption | omega | (simp; omega))) | fail)) (by (refine Own.mono (base := w6.heap.size) ?_ (by omega)); (repeat (with_reducible first | exact HO8 | (refine Own.set ?_ (by dsimp only; omega) _) | (refine Own.alloc ?_ _) | (refine Own.drewn ?_) | fail))) (by repeat (with_reducible first | exact Below.refl _ _ | assumption | (refine bl_set ?_ (by omega)) | apply bl_alloc | apply bl_drewN | apply bl_drew | (refine bl_step ?_ (by assumption)) | fail)) ?_; intro wf L1 HOf HBf; obtain ⟨e0, e1, e2, e3, e4, e5, _⟩ := Blk.all6 L1; exact bodyPost_ret (v := .tuple #[.agg #[.int .i64 1, .int .i64 st, .int .i64 1, .int .i64 t.size, .int .i64 so, .slice A8 (3 + m) c8], .int .i64 0]) (by simp [results, Tryz.results54, go_sem, e0, e1, e2, e3, e4, e5]) rfl ⟨⟨A8, 3 + m, c8, rfl, (by rw [List.length_append, hE3.out, hW3.out]), HOf⟩, HBf⟩
theorem rdown_c (f : ByteArray) (d : DS) (b : Int) (t : ByteArray) (A : Option Addr) (c n : Nat) (w : World) (h : f.size ≤ 9223372036854775807) (hl : Row w A d.ops) (hn : d.ops.length = n) (ht : t.size ≤ 9223372036854775807) :
    Calls Tryz.prog 54 #[.string f, (.agg #[.int .i64 d.st, .int .i64 d.su, .int .i64 d.nx, .int .i64 d.go, .int .i64 d.sl, .slice A n c]), .int .i64 b, .string t] w (GivesE w (if downOk f d b t = true then downD f d b t else DS.zero) (if downOk f d b t = true then 0 else 1700)) := by
  cases hok : downOk f d b t
  · exact rdown_f f d b t A c n w h hl hn ht hok
  · simp only [if_true]
    unfold downD
    by_cases h0 : d.st = 0
    · rw [if_pos h0]
      by_cases ht0 : t.size = 0
      · rw [if_pos ht0]; exact rdown_0e f d b t A c n w h hl hn ht hok h0 ht0
      · rw [if_neg ht0]
        by_cases hb0 : b = 0
        · rw [if_neg (by simpa using hb0)]; exact rdown_0m f d b t A c n w h hl hn ht hok h0 ht0 hb0
        · rw [if_pos hb0]; exact rdown_0b f d b t A c n w h hl hn ht hok h0 ht0 hb0
    · rw [if_neg h0]
      by_cases hb0 : b = d.nx - 1
      · rw [if_pos hb0]; exact rdown_3s f d b t A c n w h hl hn ht hok h0 hb0
      · rw [if_neg hb0]
        by_cases hb1 : b = d.nx
        · rw [if_neg (by simpa using hb1)]
          by_cases ht0 : t.size = 0
          · rw [if_pos ht0]; exact rdown_3e f d b t A c n w h hl hn ht hok h0 hb1 ht0
          · rw [if_neg ht0]
            by_cases hc0 : d.go % 32 = 0
            · by_cases hc : 288 < d.go + (t.size : Int)
              · rw [if_pos (.inr (.inl hc))]; exact rdown_3y f d b t A c n w h hl hn ht hok h0 hb1 ht0 hc0 hc
              · by_cases h16 : 16 ≤ d.nx
                · rw [if_pos (.inr (.inr h16))]; exact rdown_3z f d b t A c n w h hl hn ht hok h0 hb1 ht0 hc0 hc h16
                · rw [if_neg (by rintro (k | k | k); exact k hc0; exact hc k; exact h16 k)]
                  exact rdown_3m f d b t A c n w h hl hn ht hok h0 hb1 ht0 hc0 hc h16
            · rw [if_pos (.inl hc0)]; exact rdown_3x f d b t A c n w h hl hn ht hok h0 hb1 ht0 hc0
        · rw [if_pos hb1]; exact rdown_3b f d b t A c n w h hl hn ht hok h0 hb0 hb1
end Go.Proofs.YtalgfekpcklijaaGreat.Dv
