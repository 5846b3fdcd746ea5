/- Layer 24: both ends do an act: the program's Do. -/
import Derived.Test.YtccblleobcidfaaGreatGi
import Derived.Test.YtccblleobcidfaaGreatPac
import Derived.Test.YtccblleobcidfaaGreatGz
namespace Go.Proofs.YtccblleobcidfaaGreat.Wo
open Go.RowKit Go.Proofs.YtccblleobcidfaaGreat.Kt Go.Proofs.YtccblleobcidfaaGreat.Lw Go.Proofs.YtccblleobcidfaaGreat.St Go.Proofs.YtccblleobcidfaaGreat.Nm Go.Proofs.YtccblleobcidfaaGreat.Es Go.Proofs.YtccblleobcidfaaGreat.Sl Go.Proofs.YtccblleobcidfaaGreat.Ops Go.Proofs.YtccblleobcidfaaGreat.Fl Go.Proofs.YtccblleobcidfaaGreat.Dv Go.Proofs.YtccblleobcidfaaGreat.Ho Go.Proofs.YtccblleobcidfaaGreat.Rp
set_option linter.unusedVariables false
set_option linter.unusedSimpArgs false
attribute [local irreducible] devMay hostMay
set_option maxRecDepth 100000 in
set_option maxHeartbeats 12800000 in
theorem do_1 (x : WS) (a : AS) (A : Option Addr) (n c : Nat) (w : World) (z : x.Fits) (hl : Row w A x.d.ops) (hn : x.d.ops.length = n) (hm : x.may = false) :
    Calls Tryz.prog 32 #[.agg (x.cs A n c), .agg a.cs] w fun e w' => e = .returned (.tuple #[.agg #[.string ⟨#[]⟩, .int .i64 0, .int .i64 0, .int .i64 0, .int .i64 0, .int .i64 0, .int .i64 0, .int .i64 0, .int .i64 0, .slice none 0 0, .int .i64 0, .string ⟨#[]⟩, .int .i64 0, .bool false, .int .i64 0, .string ⟨#[]⟩, .int .i64 0], .int .i64 2400]) ∧ Below w.heap.size w w' := by
  have HB := Below.refl w.heap.size w
  have K0 := Blk.new w (x.cs A n c) 32
  have K1 := Blk.new1 w (.cells (x.cs A n c) 32) a.cs 41
  have K2 := Blk.new ((w.alloc (.cells (x.cs A n c) 32)).alloc (.cells a.cs 41)) #[.string ⟨#[]⟩, .int .i64 0, .int .i64 0, .int .i64 0, .int .i64 0, .int .i64 0, .int .i64 0, .int .i64 0, .int .i64 0, .slice none 0 0, .int .i64 0, .string ⟨#[]⟩, .int .i64 0, .bool false, .int .i64 0, .string ⟨#[]⟩, .int .i64 0] 32
  have pm := Lib.hid (fun W (h : Below w.heap.size w W) => pmay_c x A n c W z (hl.below h) hn)
  rw [hm] at pm
  clear hm hl hn
  go_enter Tryz.func32, Tryz.ntmps32
  go_upto_region 1 with fail
  refine letter (M := fun X => Code.wp _ _ _ _ X) (F := fun X => Blk X w.heap.size (x.cs A n c) 32 ∧ Blk X (w.heap.size + 1) a.cs 41 ∧ Blk X (w.heap.size + 1 + 1) #[.string ⟨#[]⟩, .int .i64 0, .int .i64 0, .int .i64 0, .int .i64 0, .int .i64 0, .int .i64 0, .int .i64 0, .int .i64 0, .slice none 0 0, .int .i64 0, .string ⟨#[]⟩, .int .i64 0, .bool false, .int .i64 0, .string ⟨#[]⟩, .int .i64 0] 32 ∧ Below w.heap.size w X) ⟨(K0.alloc _).alloc _, K1.alloc _, (by simpa using K2), zq1⟩ ?_
  clear K0 K1 K2 HB
  rintro wz ⟨K0, K1, K2, HB⟩
  have eK0 := Blk.ev K0
  have eK1 := Blk.ev K1
  have eK2 := Blk.ev K2
  apply wp_region_lit
  refine wpList_load_row rfl _ _ rfl w.heap.size rfl 32 (x.cs A n c) (0, 0) _ K0 Tryz.underlying32 rfl (by kernel_rfl) ?_
  go_wp2_with fail
  go_at_call 39
  with_reducible refine (pm.out _ HB).mono ?_
  rintro e w2 ⟨rfl, hb⟩
  have K2 := K2.below hb
  have HB := HB.trans (hb.mono HB.size)
  clear hb K0 K1 eK0 eK1 eK2
  go_upto_region 2 with fail
  apply wp_region_lit
  refine wpList_build rfl _ _ rfl (by kernel_rfl) ?_
  refine wpList_store_row rfl _ _ _ rfl (w.heap.size + 1 + 1) #[.string ⟨#[]⟩, .int .i64 0, .int .i64 0, .int .i64 0, .int .i64 0, .int .i64 0, .int .i64 0, .int .i64 0, .int .i64 0, .slice none 0 0, .int .i64 0, .string ⟨#[]⟩, .int .i64 0, .bool false, .int .i64 0, .string ⟨#[]⟩, .int .i64 0] (by kernel_rfl) (by kernel_rfl) 32 #[.string ⟨#[]⟩, .int .i64 0, .int .i64 0, .int .i64 0, .int .i64 0, .int .i64 0, .int .i64 0, .int .i64 0, .int .i64 0, .slice none 0 0, .int .i64 0, .string ⟨#[]⟩, .int .i64 0, .bool false, .int .i64 0, .string ⟨#[]⟩, .int .i64 0] K2 (by kernel_rfl) rfl (by simp [Value.oneCell']) ?_
  go_wp2_with fail
  refine letter (M := fun X => bodyPost _ _ _ _ _ X) (F := fun X => Blk X (w.heap.size + 1 + 1) #[.string ⟨#[]⟩, .int .i64 0, .int .i64 0, .int .i64 0, .int .i64 0, .int .i64 0, .int .i64 0, .int .i64 0, .int .i64 0, .slice none 0 0, .int .i64 0, .string ⟨#[]⟩, .int .i64 0, .bool false, .int .i64 0, .string ⟨#[]⟩, .int .i64 0] 32 ∧ Below w.heap.size w X) ⟨Blk.row K2 _, bl_row HB (by omega)⟩ ?_
  rintro X ⟨L, B⟩
  exact bodyPost_ret (v := .tuple #[.agg #[.string ⟨#[]⟩, .int .i64 0, .int .i64 0, .int .i64 0, .int .i64 0, .int .i64 0, .int .i64 0, .int .i64 0, .int .i64 0, .slice none 0 0, .int .i64 0, .string ⟨#[]⟩, .int .i64 0, .bool false, .int .i64 0, .string ⟨#[]⟩, .int .i64 0], .int .i64 2400]) (results_w rfl _ rfl rfl L rfl) rfl ⟨rfl, B⟩
set_option maxRecDepth 100000 in
set_option maxHeartbeats 12800000 in
theorem do_2 (x : WS) (a : AS) (A : Option Addr) (n c : Nat) (w : World) (z : x.Fits) (hl : Row w A x.d.ops) (hn : x.d.ops.length = n) (hm : x.may = true) (ha : a.may = false) :
    Calls Tryz.prog 32 #[.agg (x.cs A n c), .agg a.cs] w fun e w' => e = .returned (.tuple #[.agg #[.string ⟨#[]⟩, .int .i64 0, .int .i64 0, .int .i64 0, .int .i64 0, .int .i64 0, .int .i64 0, .int .i64 0, .int .i64 0, .slice none 0 0, .int .i64 0, .string ⟨#[]⟩, .int .i64 0, .bool false, .int .i64 0, .string ⟨#[]⟩, .int .i64 0], .int .i64 2400]) ∧ Below w.heap.size w w' := by
  have HB := Below.refl w.heap.size w
  have K0 := Blk.new w (x.cs A n c) 32
  have K1 := Blk.new1 w (.cells (x.cs A n c) 32) a.cs 41
  have K2 := Blk.new ((w.alloc (.cells (x.cs A n c) 32)).alloc (.cells a.cs 41)) #[.string ⟨#[]⟩, .int .i64 0, .int .i64 0, .int .i64 0, .int .i64 0, .int .i64 0, .int .i64 0, .int .i64 0, .int .i64 0, .slice none 0 0, .int .i64 0, .string ⟨#[]⟩, .int .i64 0, .bool false, .int .i64 0, .string ⟨#[]⟩, .int .i64 0] 32
  have pm := Lib.hid (fun W (h : Below w.heap.size w W) => pmay_c x A n c W z (hl.below h) hn)
  rw [hm] at pm
  have am := Lib.hid (fun W : World => pact_c a W)
  rw [ha] at am
  clear hm ha hl hn
  go_enter Tryz.func32, Tryz.ntmps32
  go_upto_region 1 with fail
  refine letter (M := fun X => Code.wp _ _ _ _ X) (F := fun X => Blk X w.heap.size (x.cs A n c) 32 ∧ Blk X (w.heap.size + 1) a.cs 41 ∧ Blk X (w.heap.size + 1 + 1) #[.string ⟨#[]⟩, .int .i64 0, .int .i64 0, .int .i64 0, .int .i64 0, .int .i64 0, .int .i64 0, .int .i64 0, .int .i64 0, .slice none 0 0, .int .i64 0, .string ⟨#[]⟩, .int .i64 0, .bool false, .int .i64 0, .string ⟨#[]⟩, .int .i64 0] 32 ∧ Below w.heap.size w X) ⟨(K0.alloc _).alloc _, K1.alloc _, (by simpa using K2), zq1⟩ ?_
  clear K0 K1 K2 HB
  rintro wz ⟨K0, K1, K2, HB⟩
  have eK0 := Blk.ev K0
  have eK1 := Blk.ev K1
  have eK2 := Blk.ev K2
  apply wp_region_lit
  refine wpList_load_row rfl _ _ rfl w.heap.size rfl 32 (x.cs A n c) (0, 0) _ K0 Tryz.underlying32 rfl (by kernel_rfl) ?_
  go_wp2_with fail
  go_at_call 39
  with_reducible refine (pm.out _ HB).mono ?_
  rintro e w2 ⟨rfl, hb⟩
  have K2 := K2.below hb
  have HB := HB.trans (hb.mono HB.size)
  have K1 := K1.below hb
  clear hb K0 eK0 eK1 eK2
  have eK1 := Blk.ev K1
  go_upto_region 2 with (first | (go_at_call 84; (with_reducible refine (am.out _).mono ?_); rintro e w3 ⟨rfl, hb⟩; have K2 := K2.below hb; have HB := HB.trans (hb.mono HB.size); clear hb K1 eK1) | fail)
  apply wp_region_lit
  refine wpList_build rfl _ _ rfl (by kernel_rfl) ?_
  refine wpList_store_row rfl _ _ _ rfl (w.heap.size + 1 + 1) #[.string ⟨#[]⟩, .int .i64 0, .int .i64 0, .int .i64 0, .int .i64 0, .int .i64 0, .int .i64 0, .int .i64 0, .int .i64 0, .slice none 0 0, .int .i64 0, .string ⟨#[]⟩, .int .i64 0, .bool false, .int .i64 0, .string ⟨#[]⟩, .int .i64 0] (by kernel_rfl) (by kernel_rfl) 32 #[.string ⟨#[]⟩, .int .i64 0, .int .i64 0, .int .i64 0, .int .i64 0, .int .i64 0, .int .i64 0, .int .i64 0, .int .i64 0, .slice none 0 0, .int .i64 0, .string ⟨#[]⟩, .int .i64 0, .bool false, .int .i64 0, .string ⟨#[]⟩, .int .i64 0] K2 (by kernel_rfl) rfl (by simp [Value.oneCell']) ?_
  go_wp2_with fail
  refine letter (M := fun X => bodyPost _ _ _ _ _ X) (F := fun X => Blk X (w.heap.size + 1 + 1) #[.string ⟨#[]⟩, .int .i64 0, .int .i64 0, .int .i64 0, .int .i64 0, .int .i64 0, .int .i64 0, .int .i64 0, .int .i64 0, .slice none 0 0, .int .i64 0, .string ⟨#[]⟩, .int .i64 0, .bool false, .int .i64 0, .string ⟨#[]⟩, .int .i64 0] 32 ∧ Below w.heap.size w X) ⟨Blk.row K2 _, bl_row HB (by omega)⟩ ?_
  rintro X ⟨L, B⟩
  exact bodyPost_ret (v := .tuple #[.agg #[.string ⟨#[]⟩, .int .i64 0, .int .i64 0, .int .i64 0, .int .i64 0, .int .i64 0, .int .i64 0, .int .i64 0, .int .i64 0, .slice none 0 0, .int .i64 0, .string ⟨#[]⟩, .int .i64 0, .bool false, .int .i64 0, .string ⟨#[]⟩, .int .i64 0], .int .i64 2400]) (results_w rfl _ rfl rfl L rfl) rfl ⟨rfl, B⟩
/-- which method does an act. -/
def methF (k : Int) : FuncId := if k = 0 then 86 else if k = 1 then 87 else if k = 2 then 88 else if k = 3 then 89 else if k = 4 then 90 else 91
theorem act_k {a : AS} (h : a.may = true) : a.k = 0 ∨ (a.k = 1 ∧ (a.lo = 0 ∨ a.lo = 1 ∨ a.lo = 2)) ∨ a.k = 2 ∨ (a.k = 3 ∧ 0 ≤ a.cu ∧ a.cu ≤ 96) ∨ a.k = 4 ∨ a.k = 5 := by
  simp [AS.may, rngB] at h
  omega
theorem done_c (g base : Nat) (x : WS) (a : AS) (A : Option Addr) (n c : Nat) (w : World) (K0 : Blk w g (x.cs A n c) 130) (hn : x.d.ops.length = n) (HO : OwnT w base g A x.d.ops) (hbg : base ≤ g) (hm : x.may = true) (ha : a.may = true) (hfi : a.fi.size ≤ 9223372036854775807) :
    Calls Tryz.prog (methF a.k) #[.pointer (some ⟨g, 0, none⟩), .agg a.cs] w (Doer w base g (doneW x a)) := by
  obtain ⟨m1, m2, m3, m4⟩ := may_all.1 hm
  have hb : bothB x.f x.d = true := by simp [bothB, m1, m3]
  have hk := act_k ha
  obtain ⟨k, fi, lo, cu⟩ := a
  simp only at hk hfi
  rcases hk with rfl | ⟨rfl, hlo⟩ | rfl | ⟨rfl, hcu⟩ | rfl | rfl
  · rcases Bool.eq_false_or_eq_true (offB x.h.ph) with ho | ho
    · have e : doneW x ⟨0, fi, lo, cu⟩ = ⟨x.f, x.v, x.p, x.r, x.d, startH fi x.v x.p x.r⟩ := by simp [doneW, ho]
      rw [e]
      exact start_y g base x ⟨0, fi, lo, cu⟩ A n c w K0 hn HO hbg ho m2 hfi
    · have e : doneW x ⟨0, fi, lo, cu⟩ = x := by simp [doneW, ho]
      rw [e]
      exact start_n g base x ⟨0, fi, lo, cu⟩ A n c w K0 hn HO hbg ho
  · have e0 : doneW x ⟨1, fi, lo, cu⟩ = stepW x lo := by simp [doneW]
    rw [e0]
    rcases Bool.eq_false_or_eq_true (offB x.h.ph) with ho | ho
    · have e : stepW x lo = x := by simp [stepW, ho]
      rw [e]
      exact step_n g base x ⟨1, fi, lo, cu⟩ A n c w K0 hn HO hbg ho
    · have q := on_ok m4 ho
      have hon : x.h.on = true := by simp [HS.on, m4, ho]
      have i1 := q.im1
      have r1 := q.rd1
      rcases hlo with rfl | rfl | rfl
      · have e : stepW x 0 = ⟨x.f, x.v, x.p, x.r, handD x.f x.d (askS x.h) (askT x.h), takeH x.h false (handS x.f x.d (askS x.h) (askT x.h)) (handT x.f x.d (askS x.h) (askT x.h))⟩ := by simp [stepW, ho]
        rw [e]
        exact step_0 g base x 1 fi cu A n c w K0 hn HO hbg ho hon (by omega) (by omega) hb (handT_le (by omega))
      · have e : stepW x 1 = ⟨x.f, x.v, x.p, x.r, x.d, takeH x.h true false ⟨#[]⟩⟩ := by simp [stepW, ho]
        rw [e]
        exact step_1 g base x 1 fi cu A n c w K0 hn HO hbg ho hon (by omega) (by omega)
      · have e : stepW x 2 = ⟨x.f, x.v, x.p, x.r, handD x.f x.d (askS x.h) (askT x.h), takeH x.h true false ⟨#[]⟩⟩ := by simp [stepW, ho]
        rw [e]
        exact step_2 g base x 1 fi cu A n c w K0 hn HO hbg ho hon (by omega) (by omega) hb (handT_le (by omega))
  · have e : doneW x ⟨2, fi, lo, cu⟩ = ⟨tickF x.f x.d, x.v, x.p, x.r, tickD x.d, x.h⟩ := by simp [doneW]
    rw [e]
    exact tick_c g base x ⟨2, fi, lo, cu⟩ A n c w K0 hn HO hbg hb
  · have e : doneW x ⟨3, fi, lo, cu⟩ = ⟨cutF x.f x.d cu.toNat, x.v, x.p, x.r, DS.zero, x.h⟩ := by simp [doneW]
    rw [e]
    exact cut_c g base x ⟨3, fi, lo, cu⟩ A n c w K0 hn HO hbg hb hcu
  · have e : doneW x ⟨4, fi, lo, cu⟩ = ⟨x.f, x.v, x.p, x.r, DS.zero, x.h⟩ := by simp [doneW]
    rw [e]
    exact reset_c g base x ⟨4, fi, lo, cu⟩ A n c w K0 hn HO hbg
  · have e : doneW x ⟨5, fi, lo, cu⟩ = ⟨x.f, x.v, x.p, x.r, x.d, HS.zero⟩ := by simp [doneW]
    rw [e]
    exact drop_c g base x ⟨5, fi, lo, cu⟩ A n c w K0 hn HO hbg
set_option maxRecDepth 100000 in
set_option maxHeartbeats 12800000 in
theorem do_3 (x : WS) (a : AS) (A : Option Addr) (n c : Nat) (w : World) (z : x.Fits) (hl : Row w A x.d.ops) (hn : x.d.ops.length = n) (hm : x.may = true) (ha : a.may = true) (hby : n * 32 ≤ 140737488355328) (hfi : a.fi.size ≤ 9223372036854775807) :
    Calls Tryz.prog 32 #[.agg (x.cs A n c), .agg a.cs] w (Gave w (doneW x a) 0) := by
  have HB := Below.refl w.heap.size w
  have K0 := Blk.new w (x.cs A n c) 32
  have K1 := Blk.new1 w (.cells (x.cs A n c) 32) a.cs 41
  have K2 := Blk.new ((w.alloc (.cells (x.cs A n c) 32)).alloc (.cells a.cs 41)) #[.string ⟨#[]⟩, .int .i64 0, .int .i64 0, .int .i64 0, .int .i64 0, .int .i64 0, .int .i64 0, .int .i64 0, .int .i64 0, .slice none 0 0, .int .i64 0, .string ⟨#[]⟩, .int .i64 0, .bool false, .int .i64 0, .string ⟨#[]⟩, .int .i64 0] 32
  have pm := Lib.hid (fun W (h : Below w.heap.size w W) => pmay_c x A n c W z (hl.below h) hn)
  rw [hm] at pm
  have am := Lib.hid (fun W : World => pact_c a W)
  rw [ha] at am
  have dc := Lib.hid (fun W (h : Below w.heap.size w W) => dcopy_c x.d A c n W (hl.below h) hn hby)
  have md := Lib.hid (fun (W : World) (D : Nat) (A2 : Option Addr) (c2 : Nat) (K : Blk W D (x.cs A2 n c2) 130) (HO : OwnT W (w.heap.size + 1 + 1 + 1) D A2 x.d.ops) (hbg : w.heap.size + 1 + 1 + 1 ≤ D) => done_c D (w.heap.size + 1 + 1 + 1) x a A2 n c2 W K hn HO hbg hm ha hfi)
  have hak := act_k ha
  clear hm ha hl hby hfi
  go_enter Tryz.func32, Tryz.ntmps32
  go_upto_region 1 with fail
  refine letter (M := fun X => Code.wp _ _ _ _ X) (F := fun X => Blk X w.heap.size (x.cs A n c) 32 ∧ Blk X (w.heap.size + 1) a.cs 41 ∧ Blk X (w.heap.size + 1 + 1) #[.string ⟨#[]⟩, .int .i64 0, .int .i64 0, .int .i64 0, .int .i64 0, .int .i64 0, .int .i64 0, .int .i64 0, .int .i64 0, .slice none 0 0, .int .i64 0, .string ⟨#[]⟩, .int .i64 0, .bool false, .int .i64 0, .string ⟨#[]⟩, .int .i64 0] 32 ∧ Below w.heap.size w X) ⟨(K0.alloc _).alloc _, K1.alloc _, (by simpa using K2), zq1⟩ ?_
  clear K0 K1 K2 HB
  rintro wz ⟨K0, K1, K2, HB⟩
  have eK0 := Blk.ev K0
  have eK1 := Blk.ev K1
  have eK2 := Blk.ev K2
  apply wp_region_lit
  refine wpList_load_row rfl _ _ rfl w.heap.size rfl 32 (x.cs A n c) (0, 0) _ K0 Tryz.underlying32 rfl (by kernel_rfl) ?_
  go_wp2_with fail
  go_at_call 39
  with_reducible refine (pm.out _ HB).mono ?_
  rintro e w2 ⟨rfl, hb⟩
  have K2 := K2.below hb
  have HB := HB.trans (hb.mono HB.size)
  have K1 := K1.below hb
  have K0 := K0.below hb
  clear hb eK0 eK1 eK2
  have eK1 := Blk.ev K1
  go_upto_region 3 with (first | (go_at_call 84; (with_reducible refine (am.out _).mono ?_); rintro e w3 ⟨rfl, hb⟩; have K2 := K2.below hb; have HB := HB.trans (hb.mono HB.size); have K1 := K1.below hb; have K0 := K0.below hb; clear hb eK1) | fail)
  have eK0 := Blk.ev K0
  have HB3 := HB
  go_upto_region 4 with (first | (go_at_call 85; (with_reducible refine (dc.out _ HB3).mono ?_); rintro e w4 ⟨⟨A2, c2, rfl, HN⟩, hb⟩; have HN := HN.mono (base' := w.heap.size + 1 + 1 + 1) K2.lt; have K2 := K2.below hb; have K1 := K1.below hb; have K0 := K0.below hb; have HB := HB.trans (hb.mono HB.size); clear hb eK0; have eK0 := Blk.ev K0) | fail)
  refine letter (M := fun X => Code.wp _ _ _ _ X) (F := fun X => Blk X w.heap.size (x.cs A2 n c2) 32 ∧ Blk X (w.heap.size + 1) a.cs 41 ∧ Blk X (w.heap.size + 1 + 1) #[.string ⟨#[]⟩, .int .i64 0, .int .i64 0, .int .i64 0, .int .i64 0, .int .i64 0, .int .i64 0, .int .i64 0, .int .i64 0, .slice none 0 0, .int .i64 0, .string ⟨#[]⟩, .int .i64 0, .bool false, .int .i64 0, .string ⟨#[]⟩, .int .i64 0] 32 ∧ Own X (w.heap.size + 1 + 1 + 1) A2 x.d.ops ∧ Below w.heap.size w X) ⟨(by repeat (with_reducible first | exact K0 | exact K1 | exact K2  | apply Blk.set17_0 | apply Blk.set17_1 | apply Blk.set17_2 | apply Blk.set17_3 | apply Blk.set17_4 | apply Blk.set17_5 | apply Blk.set17_6 | apply Blk.set17_7 | apply Blk.set17_8 | apply Blk.set17_9 | apply Blk.set17_10 | apply Blk.set17_11 | apply Blk.set17_12 | apply Blk.set17_13 | apply Blk.set17_14 | apply Blk.set17_15 | apply Blk.set17_16 | (apply Blk.off; (first | assumption | omega | (simp; omega))) | fail)), (by repeat (with_reducible first | exact K0 | exact K1 | exact K2  | apply Blk.set17_0 | apply Blk.set17_1 | apply Blk.set17_2 | apply Blk.set17_3 | apply Blk.set17_4 | apply Blk.set17_5 | apply Blk.set17_6 | apply Blk.set17_7 | apply Blk.set17_8 | apply Blk.set17_9 | apply Blk.set17_10 | apply Blk.set17_11 | apply Blk.set17_12 | apply Blk.set17_13 | apply Blk.set17_14 | apply Blk.set17_15 | apply Blk.set17_16 | (apply Blk.off; (first | assumption | omega | (simp; omega))) | fail)), (by repeat (with_reducible first | exact K0 | exact K1 | exact K2  | apply Blk.set17_0 | apply Blk.set17_1 | apply Blk.set17_2 | apply Blk.set17_3 | apply Blk.set17_4 | apply Blk.set17_5 | apply Blk.set17_6 | apply Blk.set17_7 | apply Blk.set17_8 | apply Blk.set17_9 | apply Blk.set17_10 | apply Blk.set17_11 | apply Blk.set17_12 | apply Blk.set17_13 | apply Blk.set17_14 | apply Blk.set17_15 | apply Blk.set17_16 | (apply Blk.off; (first | assumption | omega | (simp; omega))) | fail)), (by repeat (with_reducible first | exact HN | (refine Own.set ?_ (by dsimp only; omega) _) | fail)), zq1⟩ ?_
  clear K0 K1 K2 HN HB eK0 HB3
  rintro wy ⟨K0, K1, K2, HN, HB⟩
  apply wp_region_lit
  refine wpList_load_row rfl _ _ rfl w.heap.size rfl 32 (x.cs A2 n c2) (0, 0) _ K0 Tryz.underlying32 rfl (by kernel_rfl) ?_
  refine wpList_build rfl _ _ rfl (by kernel_rfl) ?_
  have hbl : (Tryz.prog.built 130 [(0, .agg (x.cs A2 n c2))]).getD #[] = x.cs A2 n c2 := by kernel_rfl
  go_upto_region 5 with fail
  clear hbl
  have HNT := HN.top
  refine letter (M := fun X => Code.wp _ _ _ _ X) (F := fun X => Blk X wy.heap.size (x.cs A2 n c2) 130 ∧ Blk X (w.heap.size + 1) a.cs 41 ∧ Blk X (w.heap.size + 1 + 1) #[.string ⟨#[]⟩, .int .i64 0, .int .i64 0, .int .i64 0, .int .i64 0, .int .i64 0, .int .i64 0, .int .i64 0, .int .i64 0, .slice none 0 0, .int .i64 0, .string ⟨#[]⟩, .int .i64 0, .bool false, .int .i64 0, .string ⟨#[]⟩, .int .i64 0] 32 ∧ OwnT X (w.heap.size + 1 + 1 + 1) wy.heap.size A2 x.d.ops ∧ Below w.heap.size w X) ⟨Blk.new _ _ _, K1.alloc _, K2.alloc _, OwnT.alloc HNT _, bl_alloc HB _⟩ ?_
  have hD : w.heap.size + 1 + 1 + 1 ≤ wy.heap.size := by have := K2.lt; omega
  generalize wy.heap.size = D at *
  clear K0 K1 K2 HN HB HNT
  rintro wx ⟨K0, K1, K2, HN, HB⟩
  go_upto_region 6 with (first | (refine wpList_store_row rfl _ _ _ rfl wx.heap.size #[.func (.func 86) #[.pointer (some ⟨D, 0, none⟩)] #[], .func (.func 87) #[.pointer (some ⟨D, 0, none⟩)] #[], .func (.func 88) #[.pointer (some ⟨D, 0, none⟩)] #[], .func (.func 89) #[.pointer (some ⟨D, 0, none⟩)] #[], .func (.func 90) #[.pointer (some ⟨D, 0, none⟩)] #[], .func (.func 91) #[.pointer (some ⟨D, 0, none⟩)] #[]] rfl rfl 132 #[.nilFunc, .nilFunc, .nilFunc, .nilFunc, .nilFunc, .nilFunc] (Blk.new _ _ _) (by kernel_rfl) rfl (by simp [Value.oneCell']) ?_; refine letter (M := fun X => wpList _ _ _ _ _ X) (F := fun X => Blk X D (x.cs A2 n c2) 130 ∧ Blk X (w.heap.size + 1) a.cs 41 ∧ Blk X (w.heap.size + 1 + 1) #[.string ⟨#[]⟩, .int .i64 0, .int .i64 0, .int .i64 0, .int .i64 0, .int .i64 0, .int .i64 0, .int .i64 0, .int .i64 0, .slice none 0 0, .int .i64 0, .string ⟨#[]⟩, .int .i64 0, .bool false, .int .i64 0, .string ⟨#[]⟩, .int .i64 0] 32 ∧ Blk X wx.heap.size #[.func (.func 86) #[.pointer (some ⟨D, 0, none⟩)] #[], .func (.func 87) #[.pointer (some ⟨D, 0, none⟩)] #[], .func (.func 88) #[.pointer (some ⟨D, 0, none⟩)] #[], .func (.func 89) #[.pointer (some ⟨D, 0, none⟩)] #[], .func (.func 90) #[.pointer (some ⟨D, 0, none⟩)] #[], .func (.func 91) #[.pointer (some ⟨D, 0, none⟩)] #[]] 132 ∧ OwnT X (w.heap.size + 1 + 1 + 1) D A2 x.d.ops ∧ Below w.heap.size w X) ⟨Blk.rowoff (by have := K0.lt; omega) (K0.alloc _), Blk.rowoff (by have := K1.lt; omega) (K1.alloc _), Blk.rowoff (by have := K2.lt; omega) (K2.alloc _), Blk.row (Blk.new _ _ _) _, OwnT.row (OwnT.alloc HN _) (.inr (Nat.le_of_lt K0.lt)), bl_row (bl_alloc HB _) HB.size⟩ ?_; have hR : D < wx.heap.size := K0.lt; generalize wx.heap.size = R at *; clear K0 K1 K2 HN HB; rintro wv ⟨K0, K1, K2, K3, HN, HB⟩; have eK1 := Blk.ev K1; have eK3 := Blk.ev K3) | fail)
  rw [show ∀ (a : Act) (v : Value), a.put none v = a from fun _ _ => rfl]
  clear pm am dc z
  generalize hY : doneW x a = Y at *
  clear hY
  obtain ⟨ak, afi, alo, acu⟩ := a
  simp only at hak K1 md
  have hAK := Lib.hid (hak)
  rcases hak with rfl | ⟨rfl, _⟩ | rfl | ⟨rfl, _⟩ | rfl | rfl
  · have mc := Lib.hid (fun W K HO => (show Calls Tryz.prog 86 _ W _ from md.out W D A2 c2 K HO hD))
    clear md hAK
    have eK1 := Blk.ev K1
    have eK3 := Blk.ev K3
    go_region_law (first | (go_simp; (go_at_call 86; (with_reducible refine (mc.out _ (Blk.drew K0) (OwnT.drewn HN)).mono ?_); rintro e w2 ⟨rfl, ⟨A3, n3, c3, KD, h3, HN3⟩, hg⟩; have K2 : Blk w2 (w.heap.size + 1 + 1) #[.string ⟨#[]⟩, .int .i64 0, .int .i64 0, .int .i64 0, .int .i64 0, .int .i64 0, .int .i64 0, .int .i64 0, .int .i64 0, .slice none 0 0, .int .i64 0, .string ⟨#[]⟩, .int .i64 0, .bool false, .int .i64 0, .string ⟨#[]⟩, .int .i64 0] 32 := (hg.block (w.heap.size + 1 + 1) K2.lt (by intro e; injection e with e; omega)).trans K2; have HB := bl_grow (bl_drew HB) hg (by omega) HB.size; clear eK1 eK3 K0 K1 K3 HN hg)) | fail)
    all_goals (
      go_wp2_with (first | (refine wpList_load_row rfl _ _ rfl D rfl 130 (Y.cs A3 n3 c3) (0, 0) _ KD Tryz.underlying32 rfl (by kernel_rfl) ?_) | (refine wpList_store_row rfl _ _ _ rfl (w.heap.size + 1 + 1) (Y.cs A3 n3 c3) rfl rfl 32 #[.string ⟨#[]⟩, .int .i64 0, .int .i64 0, .int .i64 0, .int .i64 0, .int .i64 0, .int .i64 0, .int .i64 0, .int .i64 0, .slice none 0 0, .int .i64 0, .string ⟨#[]⟩, .int .i64 0, .bool false, .int .i64 0, .string ⟨#[]⟩, .int .i64 0] K2 (by kernel_rfl) rfl (by simp [Value.oneCell']) ?_) | fail)
      exact bodyPost_ret (v := .tuple #[.agg (Y.cs A3 n3 c3), .int .i64 0]) (results_w rfl _ rfl rfl (Blk.row K2 _) rfl) rfl ⟨⟨A3, n3, c3, rfl, h3, (Own.row HN3 (.inl (by omega))).mono (by omega)⟩, bl_row HB (by omega)⟩)
  · have mc := Lib.hid (fun W K HO => (show Calls Tryz.prog 87 _ W _ from md.out W D A2 c2 K HO hD))
    clear md hAK
    have eK1 := Blk.ev K1
    have eK3 := Blk.ev K3
    go_region_law (first | (go_simp; (go_at_call 87; (with_reducible refine (mc.out _ (Blk.drew K0) (OwnT.drewn HN)).mono ?_); rintro e w2 ⟨rfl, ⟨A3, n3, c3, KD, h3, HN3⟩, hg⟩; have K2 : Blk w2 (w.heap.size + 1 + 1) #[.string ⟨#[]⟩, .int .i64 0, .int .i64 0, .int .i64 0, .int .i64 0, .int .i64 0, .int .i64 0, .int .i64 0, .int .i64 0, .slice none 0 0, .int .i64 0, .string ⟨#[]⟩, .int .i64 0, .bool false, .int .i64 0, .string ⟨#[]⟩, .int .i64 0] 32 := (hg.block (w.heap.size + 1 + 1) K2.lt (by intro e; injection e with e; omega)).trans K2; have HB := bl_grow (bl_drew HB) hg (by omega) HB.size; clear eK1 eK3 K0 K1 K3 HN hg)) | fail)
    all_goals (
      go_wp2_with (first | (refine wpList_load_row rfl _ _ rfl D rfl 130 (Y.cs A3 n3 c3) (0, 0) _ KD Tryz.underlying32 rfl (by kernel_rfl) ?_) | (refine wpList_store_row rfl _ _ _ rfl (w.heap.size + 1 + 1) (Y.cs A3 n3 c3) rfl rfl 32 #[.string ⟨#[]⟩, .int .i64 0, .int .i64 0, .int .i64 0, .int .i64 0, .int .i64 0, .int .i64 0, .int .i64 0, .int .i64 0, .slice none 0 0, .int .i64 0, .string ⟨#[]⟩, .int .i64 0, .bool false, .int .i64 0, .string ⟨#[]⟩, .int .i64 0] K2 (by kernel_rfl) rfl (by simp [Value.oneCell']) ?_) | fail)
      exact bodyPost_ret (v := .tuple #[.agg (Y.cs A3 n3 c3), .int .i64 0]) (results_w rfl _ rfl rfl (Blk.row K2 _) rfl) rfl ⟨⟨A3, n3, c3, rfl, h3, (Own.row HN3 (.inl (by omega))).mono (by omega)⟩, bl_row HB (by omega)⟩)
  · have mc := Lib.hid (fun W K HO => (show Calls Tryz.prog 88 _ W _ from md.out W D A2 c2 K HO hD))
    clear md hAK
    have eK1 := Blk.ev K1
    have eK3 := Blk.ev K3
    go_region_law (first | (go_simp; (go_at_call 88; (with_reducible refine (mc.out _ (Blk.drew K0) (OwnT.drewn HN)).mono ?_); rintro e w2 ⟨rfl, ⟨A3, n3, c3, KD, h3, HN3⟩, hg⟩; have K2 : Blk w2 (w.heap.size + 1 + 1) #[.string ⟨#[]⟩, .int .i64 0, .int .i64 0, .int .i64 0, .int .i64 0, .int .i64 0, .int .i64 0, .int .i64 0, .int .i64 0, .slice none 0 0, .int .i64 0, .string ⟨#[]⟩, .int .i64 0, .bool false, .int .i64 0, .string ⟨#[]⟩, .int .i64 0] 32 := (hg.block (w.heap.size + 1 + 1) K2.lt (by intro e; injection e with e; omega)).trans K2; have HB := bl_grow (bl_drew HB) hg (by omega) HB.size; clear eK1 eK3 K0 K1 K3 HN hg)) | fail)
    all_goals (
      go_wp2_with (first | (refine wpList_load_row rfl _ _ rfl D rfl 130 (Y.cs A3 n3 c3) (0, 0) _ KD Tryz.underlying32 rfl (by kernel_rfl) ?_) | (refine wpList_store_row rfl _ _ _ rfl (w.heap.size + 1 + 1) (Y.cs A3 n3 c3) rfl rfl 32 #[.string ⟨#[]⟩, .int .i64 0, .int .i64 0, .int .i64 0, .int .i64 0, .int .i64 0, .int .i64 0, .int .i64 0, .int .i64 0, .slice none 0 0, .int .i64 0, .string ⟨#[]⟩, .int .i64 0, .bool false, .int .i64 0, .string ⟨#[]⟩, .int .i64 0] K2 (by kernel_rfl) rfl (by simp [Value.oneCell']) ?_) | fail)
      exact bodyPost_ret (v := .tuple #[.agg (Y.cs A3 n3 c3), .int .i64 0]) (results_w rfl _ rfl rfl (Blk.row K2 _) rfl) rfl ⟨⟨A3, n3, c3, rfl, h3, (Own.row HN3 (.inl (by omega))).mono (by omega)⟩, bl_row HB (by omega)⟩)
  · have mc := Lib.hid (fun W K HO => (show Calls Tryz.prog 89 _ W _ from md.out W D A2 c2 K HO hD))
    clear md hAK
    have eK1 := Blk.ev K1
    have eK3 := Blk.ev K3
    go_region_law (first | (go_simp; (go_at_call 89; (with_reducible refine (mc.out _ (Blk.drew K0) (OwnT.drewn HN)).mono ?_); rintro e w2 ⟨rfl, ⟨A3, n3, c3, KD, h3, HN3⟩, hg⟩; have K2 : Blk w2 (w.heap.size + 1 + 1) #[.string ⟨#[]⟩, .int .i64 0, .int .i64 0, .int .i64 0, .int .i64 0, .int .i64 0, .int .i64 0, .int .i64 0, .int .i64 0, .slice none 0 0, .int .i64 0, .string ⟨#[]⟩, .int .i64 0, .bool false, .int .i64 0, .string ⟨#[]⟩, .int .i64 0] 32 := (hg.block (w.heap.size + 1 + 1) K2.lt (by intro e; injection e with e; omega)).trans K2; have HB := bl_grow (bl_drew HB) hg (by omega) HB.size; clear eK1 eK3 K0 K1 K3 HN hg)) | fail)
    all_goals (
      go_wp2_with (first | (refine wpList_load_row rfl _ _ rfl D rfl 130 (Y.cs A3 n3 c3) (0, 0) _ KD Tryz.underlying32 rfl (by kernel_rfl) ?_) | (refine wpList_store_row rfl _ _ _ rfl (w.heap.size + 1 + 1) (Y.cs A3 n3 c3) rfl rfl 32 #[.string ⟨#[]⟩, .int .i64 0, .int .i64 0, .int .i64 0, .int .i64 0, .int .i64 0, .int .i64 0, .int .i64 0, .int .i64 0, .slice none 0 0, .int .i64 0, .string ⟨#[]⟩, .int .i64 0, .bool false, .int .i64 0, .string ⟨#[]⟩, .int .i64 0] K2 (by kernel_rfl) rfl (by simp [Value.oneCell']) ?_) | fail)
      exact bodyPost_ret (v := .tuple #[.agg (Y.cs A3 n3 c3), .int .i64 0]) (results_w rfl _ rfl rfl (Blk.row K2 _) rfl) rfl ⟨⟨A3, n3, c3, rfl, h3, (Own.row HN3 (.inl (by omega))).mono (by omega)⟩, bl_row HB (by omega)⟩)
  · have mc := Lib.hid (fun W K HO => (show Calls Tryz.prog 90 _ W _ from md.out W D A2 c2 K HO hD))
    clear md hAK
    have eK1 := Blk.ev K1
    have eK3 := Blk.ev K3
    go_region_law (first | (go_simp; (go_at_call 90; (with_reducible refine (mc.out _ (Blk.drew K0) (OwnT.drewn HN)).mono ?_); rintro e w2 ⟨rfl, ⟨A3, n3, c3, KD, h3, HN3⟩, hg⟩; have K2 : Blk w2 (w.heap.size + 1 + 1) #[.string ⟨#[]⟩, .int .i64 0, .int .i64 0, .int .i64 0, .int .i64 0, .int .i64 0, .int .i64 0, .int .i64 0, .int .i64 0, .slice none 0 0, .int .i64 0, .string ⟨#[]⟩, .int .i64 0, .bool false, .int .i64 0, .string ⟨#[]⟩, .int .i64 0] 32 := (hg.block (w.heap.size + 1 + 1) K2.lt (by intro e; injection e with e; omega)).trans K2; have HB := bl_grow (bl_drew HB) hg (by omega) HB.size; clear eK1 eK3 K0 K1 K3 HN hg)) | fail)
    all_goals (
      go_wp2_with (first | (refine wpList_load_row rfl _ _ rfl D rfl 130 (Y.cs A3 n3 c3) (0, 0) _ KD Tryz.underlying32 rfl (by kernel_rfl) ?_) | (refine wpList_store_row rfl _ _ _ rfl (w.heap.size + 1 + 1) (Y.cs A3 n3 c3) rfl rfl 32 #[.string ⟨#[]⟩, .int .i64 0, .int .i64 0, .int .i64 0, .int .i64 0, .int .i64 0, .int .i64 0, .int .i64 0, .int .i64 0, .slice none 0 0, .int .i64 0, .string ⟨#[]⟩, .int .i64 0, .bool false, .int .i64 0, .string ⟨#[]⟩, .int .i64 0] K2 (by kernel_rfl) rfl (by simp [Value.oneCell']) ?_) | fail)
      exact bodyPost_ret (v := .tuple #[.agg (Y.cs A3 n3 c3), .int .i64 0]) (results_w rfl _ rfl rfl (Blk.row K2 _) rfl) rfl ⟨⟨A3, n3, c3, rfl, h3, (Own.row HN3 (.inl (by omega))).mono (by omega)⟩, bl_row HB (by omega)⟩)
  · have mc := Lib.hid (fun W K HO => (show Calls Tryz.prog 91 _ W _ from md.out W D A2 c2 K HO hD))
    clear md hAK
    have eK1 := Blk.ev K1
    have eK3 := Blk.ev K3
    go_region_law (first | (go_simp; (go_at_call 91; (with_reducible refine (mc.out _ (Blk.drew K0) (OwnT.drewn HN)).mono ?_); rintro e w2 ⟨rfl, ⟨A3, n3, c3, KD, h3, HN3⟩, hg⟩; have K2 : Blk w2 (w.heap.size + 1 + 1) #[.string ⟨#[]⟩, .int .i64 0, .int .i64 0, .int .i64 0, .int .i64 0, .int .i64 0, .int .i64 0, .int .i64 0, .int .i64 0, .slice none 0 0, .int .i64 0, .string ⟨#[]⟩, .int .i64 0, .bool false, .int .i64 0, .string ⟨#[]⟩, .int .i64 0] 32 := (hg.block (w.heap.size + 1 + 1) K2.lt (by intro e; injection e with e; omega)).trans K2; have HB := bl_grow (bl_drew HB) hg (by omega) HB.size; clear eK1 eK3 K0 K1 K3 HN hg)) | fail)
    all_goals (
      go_wp2_with (first | (refine wpList_load_row rfl _ _ rfl D rfl 130 (Y.cs A3 n3 c3) (0, 0) _ KD Tryz.underlying32 rfl (by kernel_rfl) ?_) | (refine wpList_store_row rfl _ _ _ rfl (w.heap.size + 1 + 1) (Y.cs A3 n3 c3) rfl rfl 32 #[.string ⟨#[]⟩, .int .i64 0, .int .i64 0, .int .i64 0, .int .i64 0, .int .i64 0, .int .i64 0, .int .i64 0, .int .i64 0, .slice none 0 0, .int .i64 0, .string ⟨#[]⟩, .int .i64 0, .bool false, .int .i64 0, .string ⟨#[]⟩, .int .i64 0] K2 (by kernel_rfl) rfl (by simp [Value.oneCell']) ?_) | fail)
      exact bodyPost_ret (v := .tuple #[.agg (Y.cs A3 n3 c3), .int .i64 0]) (results_w rfl _ rfl rfl (Blk.row K2 _) rfl) rfl ⟨⟨A3, n3, c3, rfl, h3, (Own.row HN3 (.inl (by omega))).mono (by omega)⟩, bl_row HB (by omega)⟩)
theorem do_c (x : WS) (a : AS) (A : Option Addr) (n c : Nat) (w : World) (z : x.Fits) (hl : Row w A x.d.ops) (hn : x.d.ops.length = n) (hfi : a.fi.size ≤ 9223372036854775807) :
    Calls Tryz.prog 32 #[.agg (x.cs A n c), .agg a.cs] w (Gave w (doW x a) (doE x a)) := by
  rcases Bool.eq_false_or_eq_true x.may with hm | hm
  · rcases Bool.eq_false_or_eq_true a.may with ha | ha
    · have e1 : doW x a = doneW x a := by simp [doW, doOk, hm, ha]
      have e2 : doE x a = 0 := by simp [doE, doOk, hm, ha]
      rw [e1, e2]
      exact do_3 x a A n c w z hl hn hm ha (by have := may_ops hm; omega) hfi
    · have e1 : doW x a = WS.zero := by simp [doW, doOk, hm, ha]
      have e2 : doE x a = 2400 := by simp [doE, doOk, hm, ha]
      rw [e1, e2]
      exact (do_2 x a A n c w z hl hn hm ha).mono fun e w' h => ⟨⟨none, 0, 0, h.1, rfl, Own.nil⟩, h.2⟩
  · have e1 : doW x a = WS.zero := by simp [doW, doOk, hm]
    have e2 : doE x a = 2400 := by simp [doE, doOk, hm]
    rw [e1, e2]
    exact (do_1 x a A n c w z hl hn hm).mono fun e w' h => ⟨⟨none, 0, 0, h.1, rfl, Own.nil⟩, h.2⟩
end Go.Proofs.YtccblleobcidfaaGreat.Wo
