/- The law TableAll's walk. -/
import Derived.Test.YtnbbbpeelplfoaaTaba0
import Derived.Test.YtnbbbpeelplfoaaTaba1
import Derived.Test.YtnbbbpeelplfoaaTaba2
import Derived.Test.YtnbbbpeelplfoaaTaba3
import Derived.Test.YtnbbbpeelplfoaaTaba4
import Derived.Test.YtnbbbpeelplfoaaTaba5
import Derived.Test.YtnbbbpeelplfoaaTaba6
import Derived.Test.YtnbbbpeelplfoaaTaba7
namespace Go.Proofs.Ytnbbbpeelplfoaa.Tb
open Go.RowKit Go.Proofs.Ytnbbbpeelplfoaa.Kt Go.Proofs.Ytnbbbpeelplfoaa.Id
theorem all_w (s0 c0 x : Int) (w : World) : Calls Try.prog 9 #[.int .i64 s0, .int .i64 c0, .int .i64 x] w fun e w' => e = .returned (.bool true) ∧ Below w.heap.size w w' := by
  have hb := Bt.and7 s0
  have hm := Bt.and1023 x
  have hx1 := Bt.and1 x
  have hu := Bt.umod c0 7 (by decide) (by decide)
  simp only [IntKind.wrap_i64] at hu
  replace hu : 0 ≤ wrap64 (Int.tmod (IntKind.u64.wrap c0) 7) ∧ wrap64 (Int.tmod (IntKind.u64.wrap c0) 7) < 7 := by unfold wrap64; exact hu
  obtain ⟨p, hp⟩ := Int.eq_ofNat_of_zero_le (show 0 ≤ Go.bits .and .i64 x 1 by omega)
  have hp2 : p < 2 := by omega
  have h8 : s0 % 8 = 0 ∨ s0 % 8 = 1 ∨ s0 % 8 = 2 ∨ s0 % 8 = 3 ∨ s0 % 8 = 4 ∨ s0 % 8 = 5 ∨ s0 % 8 = 6 ∨ s0 % 8 = 7 := by omega
  rcases h8 with h8 | h8 | h8 | h8 | h8 | h8 | h8 | h8
  · exact all_0 s0 c0 x _ _ p w (hb.trans h8) hm (by omega) (by omega) rfl hu.1 hu.2 hp hp2
  · exact all_1 s0 c0 x _ _ p w (hb.trans h8) hm (by omega) (by omega) rfl hu.1 hu.2 hp hp2
  · exact all_2 s0 c0 x _ _ p w (hb.trans h8) hm (by omega) (by omega) rfl hu.1 hu.2 hp hp2
  · exact all_3 s0 c0 x _ _ p w (hb.trans h8) hm (by omega) (by omega) rfl hu.1 hu.2 hp hp2
  · exact all_4 s0 c0 x _ _ p w (hb.trans h8) hm (by omega) (by omega) rfl hu.1 hu.2 hp hp2
  · exact all_5 s0 c0 x _ _ p w (hb.trans h8) hm (by omega) (by omega) rfl hu.1 hu.2 hp hp2
  · exact all_6 s0 c0 x _ _ p w (hb.trans h8) hm (by omega) (by omega) rfl hu.1 hu.2 hp hp2
  · exact all_7 s0 c0 x _ _ p w (hb.trans h8) hm (by omega) (by omega) rfl hu.1 hu.2 hp hp2
end Go.Proofs.Ytnbbbpeelplfoaa.Tb
