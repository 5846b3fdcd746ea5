/- Texts laid as one: Rwa Paa Wgv. -/
import Derived.Test.YtccblleobcidfaaGreatTka
import Derived.Test.YtccblleobcidfaaGreatGz
import Derived.Test.YtccblleobcidfaaGreatGb
import Derived.Test.YtccblleobcidfaaGreatHst
import Derived.Test.YtccblleobcidfaaGreatGa
/- A large struct loaded and stored as one row: what the walk is told of it. -/
section
namespace Go.Proofs.YtccblleobcidfaaGreat.Wo
open Go.RowKit Go.Proofs.YtccblleobcidfaaGreat.Kt Go.Proofs.YtccblleobcidfaaGreat.Lw Go.Proofs.YtccblleobcidfaaGreat.St Go.Proofs.YtccblleobcidfaaGreat.Nm Go.Proofs.YtccblleobcidfaaGreat.Es Go.Proofs.YtccblleobcidfaaGreat.Sl Go.Proofs.YtccblleobcidfaaGreat.Ops Go.Proofs.YtccblleobcidfaaGreat.Fl Go.Proofs.YtccblleobcidfaaGreat.Dv Go.Proofs.YtccblleobcidfaaGreat.Ho Go.Proofs.YtccblleobcidfaaGreat.Rp
set_option linter.unusedVariables false
set_option linter.unusedSimpArgs false
theorem Blk.row {w : World} {g : Nat} {old : Array Value} {t : TypeId} (h : Blk w g old t) (cs : Array Value) : Blk (w.setRow g cs) g cs t := setRow_heap w g old cs t (0, 0) h
theorem Blk.rowoff {w : World} {b g : Nat} {cs xs : Array Value} {t : TypeId} (hne : b ≠ g) (h : Blk w b cs t) : Blk (w.setRow g xs) b cs t := (setRow_other w g b xs hne).trans h
theorem bl_row {w W : World} {g : Nat} {xs : Array Value} (h : Below w.heap.size w W) (hg : w.heap.size ≤ g) : Below w.heap.size w (W.setRow g xs) :=
  h.trans ⟨rfl, rfl, rfl, by simp, fun k hk => setRow_other W g k xs (by omega)⟩
theorem gb_row {w W : World} {g : Nat} {xs : Array Value} (h : w.grownBy W (some g)) : w.grownBy (W.setRow g xs) (some g) :=
  gb_step h ⟨rfl, rfl, rfl, by simp, fun b _ hr => setRow_other W g b xs (fun e => hr (by rw [e]))⟩
theorem frozen_row (w : World) (g : Nat) (xs : Array Value) (a : Addr) (h : a.block ≠ g) : (w.setRow g xs).frozen? a = w.frozen? a := by
  simp only [World.frozen?, setRow_other w g a.block xs h]
theorem Own.row {w : World} {base g : Nat} {A : Option Addr} {xs : List OpV} {cs : Array Value} (h : Own w base A xs) (hg : g < base ∨ (∀ b off, A = some ⟨b, off, none⟩ → b ≠ g)) : Own (w.setRow g cs) base A xs := by
  by_cases hx : xs = []
  · subst hx
    exact Own.nil
  · obtain ⟨⟨hL, hl, ho⟩, hw⟩ := h
    rcases hw with e | ⟨b, off, rfl, h1, h2, h3⟩
    · exact absurd e hx
    · have hne : b ≠ g := by
        rcases hg with e | e
        · omega
        · exact e b off rfl
      obtain ⟨b', off', he, hlt, hc⟩ := hL.some_ hx
      cases he
      refine ⟨⟨.inr ⟨b, off, rfl, by simpa using h2, fun j x hj i v hv => ?_⟩, hl, ho⟩, .inr ⟨b, off, rfl, h1, by simpa using h2, fun j => ?_⟩⟩
      · rw [cell_setRow_other _ _ _ _ hne]
        exact hc j x hj i v hv
      · rw [frozen_row _ _ _ _ hne]
        exact h3 j
theorem OwnT.row {w : World} {base top g : Nat} {A : Option Addr} {xs : List OpV} {cs : Array Value} (h : OwnT w base top A xs) (hg : g < base ∨ top ≤ g) : OwnT (w.setRow g cs) base top A xs := by
  rcases h.2 with hx | ⟨b, off, rfl, hb⟩
  · subst hx
    exact OwnT.nil
  · refine ⟨Own.row h.1 ?_, .inr ⟨b, off, rfl, hb⟩⟩
    rcases hg with e | e
    · exact .inl e
    · exact .inr fun b' off' e' => by cases e'; omega
theorem load_w {w : World} {g : Nat} {t : TypeId} {cs : Array Value} (h : Blk w g cs t) (hs : cs.size = 17) : (loadVar 32 ⟨g, 0, none⟩).run Tryz.prog w = .ok (.agg cs) w := by
  exact run_loadVar_row w g t _ cs (0, 0) _ h Tryz.underlying32 rfl (by rw [hs]; kernel_rfl)
/-- the results of a function that gives a world and a number. -/
theorem results_w {fn : Func} {p q : Tmp} (h : fn.results = #[.cell p 32, .tmp q]) (tmps : Array Value) {w : World} {g : Nat} {t : TypeId} {cs : Array Value} {v : Value}
    (hp : tmps.getD p undef = .pointer (some ⟨g, 0, none⟩)) (hq : tmps.getD q undef = v) (K : Blk w g cs t) (hs : cs.size = 17) :
    (results fn tmps).run Tryz.prog w = .ok (.tuple #[.agg cs, v]) w := by
  have hp' : tmps[p]?.getD undef = .pointer (some ⟨g, 0, none⟩) := by simpa using hp
  have hq' : tmps[q]?.getD undef = v := by simpa using hq
  simp [results, h, hp', hq', asAddr, load_w K hs]
end Go.Proofs.YtccblleobcidfaaGreat.Wo
end
/- Layer 24: which worlds, which acts may be: what the program's functions answer; a new world. -/
section
namespace Go.Proofs.YtccblleobcidfaaGreat.Wo
open Go.RowKit Go.Proofs.YtccblleobcidfaaGreat.Kt Go.Proofs.YtccblleobcidfaaGreat.Lw Go.Proofs.YtccblleobcidfaaGreat.St Go.Proofs.YtccblleobcidfaaGreat.Nm Go.Proofs.YtccblleobcidfaaGreat.Es Go.Proofs.YtccblleobcidfaaGreat.Sl Go.Proofs.YtccblleobcidfaaGreat.Ops Go.Proofs.YtccblleobcidfaaGreat.Fl Go.Proofs.YtccblleobcidfaaGreat.Dv Go.Proofs.YtccblleobcidfaaGreat.Ho Go.Proofs.YtccblleobcidfaaGreat.Rp
set_option linter.unusedVariables false
set_option linter.unusedSimpArgs false
attribute [local irreducible] devMay hostMay
/-- a world's cells. -/
abbrev WS.cs (x : WS) (A : Option Addr) (n c : Nat) : Array Value := #[.string x.f, .int .i64 x.v, .int .i64 x.p, .int .i64 x.r, .int .i64 x.d.st, .int .i64 x.d.su, .int .i64 x.d.nx, .int .i64 x.d.go, .int .i64 x.d.sl, .slice A n c, .int .i64 x.h.ph, .string x.h.im, .int .i64 x.h.bl, .bool x.h.ag, .int .i64 x.h.tr, .string x.h.rd, .int .i64 x.h.rp]
abbrev AS.cs (a : AS) : Array Value := #[.int .i64 a.k, .string a.fi, .int .i64 a.lo, .int .i64 a.cu]
/-- sizes that the machine bears. -/
structure WS.Fits (x : WS) : Prop where
  f : x.f.size ≤ 9223372036854775807
  i : x.h.im.size ≤ 1000000000000000
  r : x.h.rd.size ≤ 1000000000000000
set_option maxRecDepth 100000 in
set_option maxHeartbeats 12800000 in
theorem pmay_c (x : WS) (A : Option Addr) (n c : Nat) (w : World) (z : x.Fits) (hl : Row w A x.d.ops) (hn : x.d.ops.length = n) :
    Calls Tryz.prog 39 #[.agg (x.cs A n c)] w fun e w' => e = .returned (.bool x.may) ∧ Below w.heap.size w w' := by
  have HB := Below.refl w.heap.size w
  have K0 := Blk.new w (x.cs A n c) 32
  have eK0 := Blk.ev K0
  have mm := Lib.hid (fun W : World => Jr.may_c x.f W z.f)
  have ii := Lib.hid (fun W : World => Ic.may_c x.v x.p x.r W)
  have dm := Lib.hid (fun W (h : Below w.heap.size w W) => devMay_c x.d.st x.d.su x.d.nx x.d.go x.d.sl A c n x.d.ops W (hl.below h) hn)
  have hm := Lib.hid (fun W : World => hmay_c x.h.ph x.h.im x.h.bl x.h.ag x.h.tr x.h.rd x.h.rp W z.i z.r)
  have hv : x.may = (decide (x.f.size = 768) && (Ic.mayB x.v x.p x.r && (devMay x.d.st x.d.su x.d.nx x.d.go x.d.sl x.d.ops && hostMay x.h.ph x.h.im x.h.bl x.h.tr x.h.rd x.h.rp))) := rfl
  rw [hv]
  clear hl hv
  generalize decide (x.f.size = 768) = b1 at *
  generalize Ic.mayB x.v x.p x.r = b2 at *
  generalize devMay x.d.st x.d.su x.d.nx x.d.go x.d.sl x.d.ops = b3 at *
  generalize hostMay x.h.ph x.h.im x.h.bl x.h.tr x.h.rd x.h.rp = b4 at *
  cases b1
  · go_enter Tryz.func39, Tryz.ntmps39
    go_wp2_with (first | (go_at_call 76; with_reducible refine (mm.out _).mono ?_; rintro e w' ⟨rfl, rfl⟩) | fail)
    go_ret
    exact ⟨rfl, zq1⟩
  · cases b2
    · go_enter Tryz.func39, Tryz.ntmps39
      go_wp2_with (first | (go_at_call 76; with_reducible refine (mm.out _).mono ?_; rintro e w' ⟨rfl, rfl⟩) | (go_at_call 77; with_reducible refine (ii.out _).mono ?_; rintro e w' ⟨rfl, hb⟩; have HB := bl_step (w := w) zq0 hb; have hzB := HB.size; have K0 := Blk.on zq3 zq10 hb; (try clear eK0); have eK0 := Blk.ev K0) | fail)
      go_ret
      exact ⟨rfl, zq1⟩
    · cases b3
      · go_enter Tryz.func39, Tryz.ntmps39
        go_wp2_with (first | (go_at_call 76; with_reducible refine (mm.out _).mono ?_; rintro e w' ⟨rfl, rfl⟩) | (go_at_call 77; with_reducible refine (ii.out _).mono ?_; rintro e w' ⟨rfl, hb⟩; have HB := bl_step (w := w) zq0 hb; have hzB := HB.size; have K0 := Blk.on zq3 zq10 hb; (try clear eK0); have eK0 := Blk.ev K0) | (go_at_call 104; with_reducible refine (dm.out _ zq1).mono ?_; rintro e w' ⟨rfl, hb⟩; have HB := bl_step (w := w) zq0 hb; have hzB := HB.size; have K0 := Blk.on zq3 zq10 hb; (try clear eK0); have eK0 := Blk.ev K0) | fail)
        go_ret
        exact ⟨rfl, zq1⟩
      · go_enter Tryz.func39, Tryz.ntmps39
        go_wp2_with (first | (go_at_call 76; with_reducible refine (mm.out _).mono ?_; rintro e w' ⟨rfl, rfl⟩) | (go_at_call 77; with_reducible refine (ii.out _).mono ?_; rintro e w' ⟨rfl, hb⟩; have HB := bl_step (w := w) zq0 hb; have hzB := HB.size; have K0 := Blk.on zq3 zq10 hb; (try clear eK0); have eK0 := Blk.ev K0) | (go_at_call 104; with_reducible refine (dm.out _ zq1).mono ?_; rintro e w' ⟨rfl, hb⟩; have HB := bl_step (w := w) zq0 hb; have hzB := HB.size; have K0 := Blk.on zq3 zq10 hb; (try clear eK0); have eK0 := Blk.ev K0) | (go_at_call 105; with_reducible refine (hm.out _).mono ?_; rintro e w' ⟨rfl, hb⟩; have HB := bl_step (w := w) zq0 hb; have hzB := HB.size; have K0 := Blk.on zq3 zq10 hb; (try clear eK0); have eK0 := Blk.ev K0) | fail)
        go_ret
        exact ⟨by simp, zq1⟩
set_option maxHeartbeats 1600000 in
theorem pact_c (a : AS) (w : World) : Calls Tryz.prog 84 #[.agg a.cs] w fun e w' => e = .returned (.bool a.may) ∧ Below w.heap.size w w' := by
  have HB := Below.refl w.heap.size w
  have hv : a.may = (rngB a.k 0 5 && ((!(a.k == 1) || rngB a.lo 0 2) && (!(a.k == 3) || rngB a.cu 0 96))) := rfl
  rw [hv]
  clear hv
  obtain ⟨k, fi, lo, cu⟩ := a
  simp only
  by_cases k1 : k = 1
  · subst k1
    go_enter Tryz.func84, Tryz.ntmps84
    go_wp2
    all_goals (go_ret; refine ⟨Ops.retB ?_, zq1⟩; rw [Bool.eq_iff_iff]; simp [rngB] <;> omega)
  · by_cases k3 : k = 3
    · subst k3
      go_enter Tryz.func84, Tryz.ntmps84
      go_wp2
      all_goals (go_ret; refine ⟨Ops.retB ?_, zq1⟩; rw [Bool.eq_iff_iff]; simp [rngB] <;> omega)
    · have e1 : (k == 1) = false := by simpa using k1
      have e3 : (k == 3) = false := by simpa using k3
      go_enter Tryz.func84, Tryz.ntmps84
      go_wp2
      all_goals (go_ret; refine ⟨Ops.retB ?_, zq1⟩; rw [Bool.eq_iff_iff]; simp [rngB, e1, e3] <;> omega)
set_option maxRecDepth 100000 in
set_option maxHeartbeats 3200000 in
theorem pnew_1 (f : ByteArray) (v p r : Int) (w : World) (h : f.size ≤ 9223372036854775807) (hb1 : decide (f.size = 768) = false) :
    Calls Tryz.prog 27 #[.string f, .agg #[.int .i64 v, .int .i64 p, .int .i64 r]] w fun e w' => e = .returned (.tuple #[.agg #[.string ⟨#[]⟩, .int .i64 0, .int .i64 0, .int .i64 0, .int .i64 0, .int .i64 0, .int .i64 0, .int .i64 0, .int .i64 0, .slice none 0 0, .int .i64 0, .string ⟨#[]⟩, .int .i64 0, .bool false, .int .i64 0, .string ⟨#[]⟩, .int .i64 0], .int .i64 2400]) ∧ Below w.heap.size w w' := by
  have HB := Below.refl w.heap.size w
  have K0 := Blk.new w #[.int .i64 v, .int .i64 p, .int .i64 r] 25
  have K1 := Blk.new1 w (.cells #[.int .i64 v, .int .i64 p, .int .i64 r] 25) #[.string ⟨#[]⟩, .int .i64 0, .int .i64 0, .int .i64 0, .int .i64 0, .int .i64 0, .int .i64 0, .int .i64 0, .int .i64 0, .slice none 0 0, .int .i64 0, .string ⟨#[]⟩, .int .i64 0, .bool false, .int .i64 0, .string ⟨#[]⟩, .int .i64 0] 32
  have mm := Lib.hid (fun W : World => Jr.may_c f W h)
  have ii := Lib.hid (fun W : World => Ic.may_c v p r W)
  rw [hb1] at mm
  clear hb1
  go_enter Tryz.func27, Tryz.ntmps27
  go_upto_region 2 with (first | (go_at_call 76; with_reducible refine (mm.out _).mono ?_; rintro e w' ⟨rfl, rfl⟩) | fail)
  refine letter (M := fun X => Code.wp _ _ _ _ X) (F := fun X => Blk X w.heap.size #[.int .i64 v, .int .i64 p, .int .i64 r] 25 ∧ Blk X (w.heap.size + 1) #[.string ⟨#[]⟩, .int .i64 0, .int .i64 0, .int .i64 0, .int .i64 0, .int .i64 0, .int .i64 0, .int .i64 0, .int .i64 0, .slice none 0 0, .int .i64 0, .string ⟨#[]⟩, .int .i64 0, .bool false, .int .i64 0, .string ⟨#[]⟩, .int .i64 0] 32 ∧ Below w.heap.size w X) ⟨(by repeat (with_reducible first | exact K0 | apply Blk.alloc | fail)), (by repeat (with_reducible first | exact K1 | apply Blk.alloc | fail)), zq1⟩ ?_
  clear K0 K1 HB
  rintro wz ⟨K0, K1, HB⟩
  have eK0 := Blk.ev K0
  have eK1 := Blk.ev K1
  apply wp_region_lit
  refine wpList_build rfl _ _ rfl (by kernel_rfl) ?_
  refine wpList_store_row rfl _ _ _ rfl (w.heap.size + 1) #[.string ⟨#[]⟩, .int .i64 0, .int .i64 0, .int .i64 0, .int .i64 0, .int .i64 0, .int .i64 0, .int .i64 0, .int .i64 0, .slice none 0 0, .int .i64 0, .string ⟨#[]⟩, .int .i64 0, .bool false, .int .i64 0, .string ⟨#[]⟩, .int .i64 0] (by kernel_rfl) (by kernel_rfl) 32 #[.string ⟨#[]⟩, .int .i64 0, .int .i64 0, .int .i64 0, .int .i64 0, .int .i64 0, .int .i64 0, .int .i64 0, .int .i64 0, .slice none 0 0, .int .i64 0, .string ⟨#[]⟩, .int .i64 0, .bool false, .int .i64 0, .string ⟨#[]⟩, .int .i64 0] K1 (by kernel_rfl) rfl (by simp [Value.oneCell']) ?_
  go_wp2_with fail
  refine letter (M := fun X => bodyPost _ _ _ _ _ X) (F := fun X => Blk X (w.heap.size + 1) #[.string ⟨#[]⟩, .int .i64 0, .int .i64 0, .int .i64 0, .int .i64 0, .int .i64 0, .int .i64 0, .int .i64 0, .int .i64 0, .slice none 0 0, .int .i64 0, .string ⟨#[]⟩, .int .i64 0, .bool false, .int .i64 0, .string ⟨#[]⟩, .int .i64 0] 32 ∧ Below w.heap.size w X) ⟨Blk.row K1 _, bl_row HB (by omega)⟩ ?_
  rintro X ⟨L, B⟩
  exact bodyPost_ret (v := .tuple #[.agg #[.string ⟨#[]⟩, .int .i64 0, .int .i64 0, .int .i64 0, .int .i64 0, .int .i64 0, .int .i64 0, .int .i64 0, .int .i64 0, .slice none 0 0, .int .i64 0, .string ⟨#[]⟩, .int .i64 0, .bool false, .int .i64 0, .string ⟨#[]⟩, .int .i64 0], .int .i64 2400]) (results_w rfl _ rfl rfl L rfl) rfl ⟨rfl, B⟩
set_option maxRecDepth 100000 in
set_option maxHeartbeats 3200000 in
theorem pnew_2 (f : ByteArray) (v p r : Int) (w : World) (h : f.size ≤ 9223372036854775807) (hb1 : decide (f.size = 768) = true) (hb2 : Ic.mayB v p r = false) :
    Calls Tryz.prog 27 #[.string f, .agg #[.int .i64 v, .int .i64 p, .int .i64 r]] w fun e w' => e = .returned (.tuple #[.agg #[.string ⟨#[]⟩, .int .i64 0, .int .i64 0, .int .i64 0, .int .i64 0, .int .i64 0, .int .i64 0, .int .i64 0, .int .i64 0, .slice none 0 0, .int .i64 0, .string ⟨#[]⟩, .int .i64 0, .bool false, .int .i64 0, .string ⟨#[]⟩, .int .i64 0], .int .i64 2400]) ∧ Below w.heap.size w w' := by
  have HB := Below.refl w.heap.size w
  have K0 := Blk.new w #[.int .i64 v, .int .i64 p, .int .i64 r] 25
  have K1 := Blk.new1 w (.cells #[.int .i64 v, .int .i64 p, .int .i64 r] 25) #[.string ⟨#[]⟩, .int .i64 0, .int .i64 0, .int .i64 0, .int .i64 0, .int .i64 0, .int .i64 0, .int .i64 0, .int .i64 0, .slice none 0 0, .int .i64 0, .string ⟨#[]⟩, .int .i64 0, .bool false, .int .i64 0, .string ⟨#[]⟩, .int .i64 0] 32
  have mm := Lib.hid (fun W : World => Jr.may_c f W h)
  have ii := Lib.hid (fun W : World => Ic.may_c v p r W)
  rw [hb1] at mm
  rw [hb2] at ii
  clear hb1 hb2
  go_enter Tryz.func27, Tryz.ntmps27
  go_upto_region 2 with (first | (go_at_call 76; with_reducible refine (mm.out _).mono ?_; rintro e w' ⟨rfl, rfl⟩) | (go_at_call 77; with_reducible refine (ii.out _).mono ?_; rintro e w' ⟨rfl, hb⟩; have HB := bl_step (w := w) zq0 hb; have hzB := HB.size; have K0 := Blk.on zq3 (by repeat (with_reducible first | exact K0 | exact K0 _ | exact K0 _ _ | apply Blk.alloc | apply Blk.drew | apply Blk.set3_0 | apply Blk.set3_1 | apply Blk.set3_2 | (apply Blk.off; (first | assumption | omega | (simp; omega))) | fail)) hb; (try clear eK0); have eK0 := Blk.ev K0; have K1 := Blk.on zq6 zq9 hb; (try clear eK1); have eK1 := Blk.ev K1) | fail)
  refine letter (M := fun X => Code.wp _ _ _ _ X) (F := fun X => Blk X w.heap.size #[.int .i64 v, .int .i64 p, .int .i64 r] 25 ∧ Blk X (w.heap.size + 1) #[.string ⟨#[]⟩, .int .i64 0, .int .i64 0, .int .i64 0, .int .i64 0, .int .i64 0, .int .i64 0, .int .i64 0, .int .i64 0, .slice none 0 0, .int .i64 0, .string ⟨#[]⟩, .int .i64 0, .bool false, .int .i64 0, .string ⟨#[]⟩, .int .i64 0] 32 ∧ Below w.heap.size w X) ⟨(by repeat (with_reducible first | exact K0 | apply Blk.alloc | fail)), (by repeat (with_reducible first | exact K1 | apply Blk.alloc | fail)), zq1⟩ ?_
  clear K0 K1 HB
  rintro wz ⟨K0, K1, HB⟩
  have eK0 := Blk.ev K0
  have eK1 := Blk.ev K1
  apply wp_region_lit
  refine wpList_build rfl _ _ rfl (by kernel_rfl) ?_
  refine wpList_store_row rfl _ _ _ rfl (w.heap.size + 1) #[.string ⟨#[]⟩, .int .i64 0, .int .i64 0, .int .i64 0, .int .i64 0, .int .i64 0, .int .i64 0, .int .i64 0, .int .i64 0, .slice none 0 0, .int .i64 0, .string ⟨#[]⟩, .int .i64 0, .bool false, .int .i64 0, .string ⟨#[]⟩, .int .i64 0] (by kernel_rfl) (by kernel_rfl) 32 #[.string ⟨#[]⟩, .int .i64 0, .int .i64 0, .int .i64 0, .int .i64 0, .int .i64 0, .int .i64 0, .int .i64 0, .int .i64 0, .slice none 0 0, .int .i64 0, .string ⟨#[]⟩, .int .i64 0, .bool false, .int .i64 0, .string ⟨#[]⟩, .int .i64 0] K1 (by kernel_rfl) rfl (by simp [Value.oneCell']) ?_
  go_wp2_with fail
  refine letter (M := fun X => bodyPost _ _ _ _ _ X) (F := fun X => Blk X (w.heap.size + 1) #[.string ⟨#[]⟩, .int .i64 0, .int .i64 0, .int .i64 0, .int .i64 0, .int .i64 0, .int .i64 0, .int .i64 0, .int .i64 0, .slice none 0 0, .int .i64 0, .string ⟨#[]⟩, .int .i64 0, .bool false, .int .i64 0, .string ⟨#[]⟩, .int .i64 0] 32 ∧ Below w.heap.size w X) ⟨Blk.row K1 _, bl_row HB (by omega)⟩ ?_
  rintro X ⟨L, B⟩
  exact bodyPost_ret (v := .tuple #[.agg #[.string ⟨#[]⟩, .int .i64 0, .int .i64 0, .int .i64 0, .int .i64 0, .int .i64 0, .int .i64 0, .int .i64 0, .int .i64 0, .slice none 0 0, .int .i64 0, .string ⟨#[]⟩, .int .i64 0, .bool false, .int .i64 0, .string ⟨#[]⟩, .int .i64 0], .int .i64 2400]) (results_w rfl _ rfl rfl L rfl) rfl ⟨rfl, B⟩
set_option maxRecDepth 100000 in
set_option maxHeartbeats 3200000 in
theorem pnew_3 (f : ByteArray) (v p r : Int) (w : World) (h : f.size ≤ 9223372036854775807) (hb1 : decide (f.size = 768) = true) (hb2 : Ic.mayB v p r = true) :
    Calls Tryz.prog 27 #[.string f, .agg #[.int .i64 v, .int .i64 p, .int .i64 r]] w fun e w' => e = .returned (.tuple #[.agg #[.string f, .int .i64 v, .int .i64 p, .int .i64 r, .int .i64 0, .int .i64 0, .int .i64 0, .int .i64 0, .int .i64 0, .slice none 0 0, .int .i64 0, .string ⟨#[]⟩, .int .i64 0, .bool false, .int .i64 0, .string ⟨#[]⟩, .int .i64 0], .int .i64 0]) ∧ Below w.heap.size w w' := by
  have HB := Below.refl w.heap.size w
  have K0 := Blk.new w #[.int .i64 v, .int .i64 p, .int .i64 r] 25
  have K1 := Blk.new1 w (.cells #[.int .i64 v, .int .i64 p, .int .i64 r] 25) #[.string ⟨#[]⟩, .int .i64 0, .int .i64 0, .int .i64 0, .int .i64 0, .int .i64 0, .int .i64 0, .int .i64 0, .int .i64 0, .slice none 0 0, .int .i64 0, .string ⟨#[]⟩, .int .i64 0, .bool false, .int .i64 0, .string ⟨#[]⟩, .int .i64 0] 32
  have mm := Lib.hid (fun W : World => Jr.may_c f W h)
  have ii := Lib.hid (fun W : World => Ic.may_c v p r W)
  rw [hb1] at mm
  rw [hb2] at ii
  clear hb1 hb2
  go_enter Tryz.func27, Tryz.ntmps27
  go_upto_region 3 with (first | (go_at_call 76; with_reducible refine (mm.out _).mono ?_; rintro e w' ⟨rfl, rfl⟩) | (go_at_call 77; with_reducible refine (ii.out _).mono ?_; rintro e w' ⟨rfl, hb⟩; have HB := bl_step (w := w) zq0 hb; have hzB := HB.size; have K0 := Blk.on zq3 (by repeat (with_reducible first | exact K0 | exact K0 _ | exact K0 _ _ | apply Blk.alloc | apply Blk.drew | apply Blk.set3_0 | apply Blk.set3_1 | apply Blk.set3_2 | (apply Blk.off; (first | assumption | omega | (simp; omega))) | fail)) hb; (try clear eK0); have eK0 := Blk.ev K0; have K1 := Blk.on zq6 zq9 hb; (try clear eK1); have eK1 := Blk.ev K1) | fail)
  refine letter (M := fun X => Code.wp _ _ _ _ X) (F := fun X => Blk X w.heap.size #[.int .i64 v, .int .i64 p, .int .i64 r] 25 ∧ Blk X (w.heap.size + 1) #[.string ⟨#[]⟩, .int .i64 0, .int .i64 0, .int .i64 0, .int .i64 0, .int .i64 0, .int .i64 0, .int .i64 0, .int .i64 0, .slice none 0 0, .int .i64 0, .string ⟨#[]⟩, .int .i64 0, .bool false, .int .i64 0, .string ⟨#[]⟩, .int .i64 0] 32 ∧ Below w.heap.size w X) ⟨(by repeat (with_reducible first | exact K0 | apply Blk.alloc | fail)), (by repeat (with_reducible first | exact K1 | apply Blk.alloc | fail)), zq1⟩ ?_
  clear K0 K1 HB
  rintro wz ⟨K0, K1, HB⟩
  have eK0 := Blk.ev K0
  have eK1 := Blk.ev K1
  go_region_law (first | (go_simp; (go_at_call 78; with_reducible refine (new_c _).mono ?_; rintro e w' ⟨rfl, hb⟩; have HB := bl_step (w := w) zq0 hb; have hzB := HB.size; have K0 := Blk.on zq3 zq10 hb; (try clear eK0); have eK0 := Blk.ev K0; have K1 := Blk.on zq6 zq9 hb; (try clear eK1); have eK1 := Blk.ev K1)) | fail)
  all_goals (
    go_wp2_with fail
    refine letter (M := fun X => bodyPost _ _ _ _ _ X) (F := fun X => Blk X (w.heap.size + 1) #[.string f, .int .i64 v, .int .i64 p, .int .i64 r, .int .i64 0, .int .i64 0, .int .i64 0, .int .i64 0, .int .i64 0, .slice none 0 0, .int .i64 0, .string ⟨#[]⟩, .int .i64 0, .bool false, .int .i64 0, .string ⟨#[]⟩, .int .i64 0] 32 ∧ Below w.heap.size w X) ⟨(by repeat (with_reducible first | exact K1 | exact K1 _ | exact K1 _ _ | apply Blk.alloc | apply Blk.drew | apply Blk.set17_0 | apply Blk.set17_1 | apply Blk.set17_2 | apply Blk.set17_3 | apply Blk.set17_4 | apply Blk.set17_5 | apply Blk.set17_6 | apply Blk.set17_7 | apply Blk.set17_8 | apply Blk.set17_9 | apply Blk.set17_10 | apply Blk.set17_11 | apply Blk.set17_12 | apply Blk.set17_13 | apply Blk.set17_14 | apply Blk.set17_15 | apply Blk.set17_16 | (apply Blk.off; (first | assumption | omega | (simp; omega))) | fail)), zq1⟩ ?_
    rintro X ⟨L, B⟩
    exact bodyPost_ret (v := .tuple #[.agg #[.string f, .int .i64 v, .int .i64 p, .int .i64 r, .int .i64 0, .int .i64 0, .int .i64 0, .int .i64 0, .int .i64 0, .slice none 0 0, .int .i64 0, .string ⟨#[]⟩, .int .i64 0, .bool false, .int .i64 0, .string ⟨#[]⟩, .int .i64 0], .int .i64 0]) (results_w rfl _ rfl rfl L rfl) rfl ⟨rfl, B⟩)
theorem pnew_c (f : ByteArray) (v p r : Int) (w : World) (h : f.size ≤ 9223372036854775807) :
    Calls Tryz.prog 27 #[.string f, .agg #[.int .i64 v, .int .i64 p, .int .i64 r]] w fun e w' => e = .returned (.tuple #[.agg ((newW f v p r).cs none 0 0), .int .i64 (newE f v p r)]) ∧ Below w.heap.size w w' := by
  cases hb1 : decide (f.size = 768)
  · have hv : newW f v p r = WS.zero ∧ newE f v p r = 2400 := by simp [newW, newE, newOk, hb1]
    rw [hv.1, hv.2]
    exact pnew_1 f v p r w h hb1
  · cases hb2 : Ic.mayB v p r
    · have hv : newW f v p r = WS.zero ∧ newE f v p r = 2400 := by simp [newW, newE, newOk, hb2]
      rw [hv.1, hv.2]
      exact pnew_2 f v p r w h hb1 hb2
    · have hv : newW f v p r = ⟨f, v, p, r, DS.zero, HS.zero⟩ ∧ newE f v p r = 0 := by simp [newW, newE, newOk, hb1, hb2]
      rw [hv.1, hv.2]
      exact pnew_3 f v p r w h hb1 hb2
end Go.Proofs.YtccblleobcidfaaGreat.Wo
end
/- Layer 24: what a function that gives a world comes to. -/
section
namespace Go.Proofs.YtccblleobcidfaaGreat.Wo
open Go.RowKit Go.Proofs.YtccblleobcidfaaGreat.Kt Go.Proofs.YtccblleobcidfaaGreat.Lw Go.Proofs.YtccblleobcidfaaGreat.St Go.Proofs.YtccblleobcidfaaGreat.Nm Go.Proofs.YtccblleobcidfaaGreat.Es Go.Proofs.YtccblleobcidfaaGreat.Sl Go.Proofs.YtccblleobcidfaaGreat.Ops Go.Proofs.YtccblleobcidfaaGreat.Fl Go.Proofs.YtccblleobcidfaaGreat.Dv Go.Proofs.YtccblleobcidfaaGreat.Ho Go.Proofs.YtccblleobcidfaaGreat.Rp
set_option linter.unusedVariables false
set_option linter.unusedSimpArgs false
/-- what a function that gives a world and a number comes to. -/
def Gave (w : World) (y : WS) (E : Int) (e : Ending) (w' : World) : Prop :=
  (∃ A n c, e = .returned (.tuple #[.agg (y.cs A n c), .int .i64 E]) ∧ y.d.ops.length = n ∧ Own w' w.heap.size A y.d.ops) ∧ Below w.heap.size w w'
theorem bl_grow {w W : World} {b k : Nat} {w0 : World} (h : Below b w0 w) (hg : w.grownBy W (some k)) (h1 : b ≤ k) (h2 : b ≤ w.heap.size) : Below b w0 W :=
  ⟨hg.os.trans h.os, hg.tape.trans h.tape, hg.output.trans h.output, Nat.le_trans h.size hg.size, fun g hlt => (hg.block g (Nat.lt_of_lt_of_le hlt h2) (fun e => by injection e with e; omega)).trans (h.block g hlt)⟩
end Go.Proofs.YtccblleobcidfaaGreat.Wo
end
