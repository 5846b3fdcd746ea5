/- Layer 23: a run of replies, in plain Lean (for ReplyRun). -/
import Derived.Test.YthoonffbadhplaaRpa
namespace Go.Proofs.Ythoonffbadhplaa.Rp
open Go.RowKit Go.Proofs.Ythoonffbadhplaa.Kt Go.Proofs.Ythoonffbadhplaa.Lw Go.Proofs.Ythoonffbadhplaa.St Go.Proofs.Ythoonffbadhplaa.Nm Go.Proofs.Ythoonffbadhplaa.An Go.Proofs.Ythoonffbadhplaa.Ho
set_option linter.unusedVariables false
set_option linter.unusedSimpArgs false
/-- reply by reply, from h to z, each taken by a host that may take it, nothing lost. -/
def Runs : HS → List ByteArray → HS → Prop
  | h, [], z => h = z
  | h, s :: L, z => h.Ok ∧ h.tr = 0 ∧ Runs (takeH h false false s) L z
theorem Runs.app : ∀ {L L' : List ByteArray} {h m z : HS}, Runs h L m → Runs m L' z → Runs h (L ++ L') z
  | [], _, _, _, _, e, k => by
    have e : _ = _ := e
    rw [e]
    exact k
  | s :: L, _, _, _, _, e, k => ⟨e.1, e.2.1, Runs.app e.2.2 k⟩
theorem Runs.split : ∀ {L : List ByteArray} {h z : HS} (i : Nat), Runs h L z → ∃ m, Runs h (L.take i) m ∧ Runs m (L.drop i) z
  | L, h, z, 0, r => ⟨h, rfl, by simpa using r⟩
  | [], h, z, i + 1, r => ⟨z, by simpa using r, rfl⟩
  | s :: L, h, z, i + 1, r => by
    obtain ⟨m, a, b⟩ := Runs.split i r.2.2
    exact ⟨m, ⟨r.1, r.2.1, a⟩, by simpa using b⟩
/-- the hosts met on the way. -/
abbrev stH (ph : Int) (im : ByteArray) (bl : Int) (rd : ByteArray) : HS := ⟨ph, im, bl, false, 0, rd, 0⟩
theorem st_ok {ph bl : Int} {im rd : ByteArray} (p0 : 1 ≤ ph) (p1 : ph ≤ 6) (i0 : 1 ≤ im.size) (i1 : im.size ≤ 288) (b0 : 0 ≤ bl) (b1 : bl ≤ manyI im) (r : rd.size ≤ 320) : (stH ph im bl rd).Ok :=
  ⟨p0, p1, i0, i1, b0, b1, Int.le_refl _, (by decide : (0 : Int) ≤ 8), r, Int.le_refl _, (by decide : (0 : Int) ≤ 3)⟩
structure Texts (idl bsy rdy : ByteArray) : Prop where
  g0 : gotB idl = true
  a0 : ansS idl = 0
  g2 : gotB bsy = true
  a2 : ansS bsy = 2
  g3 : gotB rdy = true
  a3 : ansS rdy = 3
theorem t_clear {idl bsy rdy im : ByteArray} (t : Texts idl bsy rdy) : takeH (stH 1 im 0 ⟨#[]⟩) false false idl = stH 2 im 0 ⟨#[]⟩ := by simp [takeH, clearedH, t.g0, t.a0]
theorem t_send {im s rd : ByteArray} {bl : Int} : takeH (stH 2 im bl rd) false false s = stH 3 im bl rd := by simp [takeH]
theorem t_busy {idl bsy rdy im rd : ByteArray} {bl : Int} (t : Texts idl bsy rdy) : takeH (stH 3 im bl rd) false false bsy = stH 3 im bl rd := by simp [takeH, polledH, t.g2, t.a2]
theorem t_next {idl bsy rdy im rd : ByteArray} {bl : Int} (t : Texts idl bsy rdy) (h : bl + 1 < manyI im) : takeH (stH 3 im bl rd) false false rdy = stH 2 im (bl + 1) rd := by simp [takeH, polledH, t.g3, t.a3, h]
theorem t_last {idl bsy rdy im rd : ByteArray} {bl : Int} (t : Texts idl bsy rdy) (h : ¬ bl + 1 < manyI im) : takeH (stH 3 im bl rd) false false rdy = stH 4 im (manyI im) rd := by simp [takeH, polledH, t.g3, t.a3, h]
theorem t_wait {im s rd : ByteArray} {bl : Int} : takeH (stH 4 im bl rd) false false s = stH 5 im bl rd := by simp [takeH]
theorem t_read {idl bsy rdy im rd : ByteArray} {bl : Int} (t : Texts idl bsy rdy) : takeH (stH 5 im bl rd) false false idl = stH 6 im 0 ⟨#[]⟩ := by simp [takeH, waitedH, t.g0, t.a0]
theorem runs_many {idl bsy rdy im : ByteArray} (t : Texts idl bsy rdy) (i0 : 1 ≤ im.size) (i1 : im.size ≤ 288) (N : Nat) (hN : manyI im = (N : Int)) : ∀ d i : Nat, i + (d + 1) = N →
    Runs (stH 2 im (i : Int) ⟨#[]⟩) ((List.replicate (d + 1) [⟨#[]⟩, bsy, rdy]).flatten) (stH 4 im (N : Int) ⟨#[]⟩)
  | 0, i, h => by
    have k2 := st_ok (ph := 2) (rd := ⟨#[]⟩) (bl := (i : Int)) (by decide) (by decide) i0 i1 (by omega) (by omega) (by decide)
    have k3 := st_ok (ph := 3) (rd := ⟨#[]⟩) (bl := (i : Int)) (by decide) (by decide) i0 i1 (by omega) (by omega) (by decide)
    refine ⟨k2, rfl, ?_⟩
    rw [t_send]
    refine ⟨k3, rfl, ?_⟩
    rw [t_busy t]
    refine ⟨k3, rfl, ?_⟩
    rw [t_last t (by omega), hN]
    rfl
  | d + 1, i, h => by
    have k2 := st_ok (ph := 2) (rd := ⟨#[]⟩) (bl := (i : Int)) (by decide) (by decide) i0 i1 (by omega) (by omega) (by decide)
    have k3 := st_ok (ph := 3) (rd := ⟨#[]⟩) (bl := (i : Int)) (by decide) (by decide) i0 i1 (by omega) (by omega) (by decide)
    rw [List.replicate_succ, List.flatten_cons]
    refine ⟨k2, rfl, ?_⟩
    rw [t_send]
    refine ⟨k3, rfl, ?_⟩
    rw [t_busy t]
    refine ⟨k3, rfl, ?_⟩
    rw [t_next t (by omega)]
    exact runs_many t i0 i1 N hN d (i + 1) (by omega)
def pieceB (im : ByteArray) (j : Nat) : ByteArray := im.extract (min (32 * j) im.size) (min (32 * j + 32) im.size)
theorem piece_size (im : ByteArray) (j : Nat) : (pieceB im j).size = min (32 * j + 32) im.size - min (32 * j) im.size := by
  unfold pieceB
  rw [ByteArray.size_extract]
  omega
theorem piece_app {im : ByteArray} {j : Nat} (h : 32 * j ≤ im.size) : im.extract 0 (32 * j) ++ pieceB im j = im.extract 0 (min (32 * j + 32) im.size) := by
  unfold pieceB
  rw [Nat.min_eq_left h, ByteArray.extract_append_extract]
  congr 1 <;> omega
theorem runs_read {im : ByteArray} (i0 : 1 ≤ im.size) (i1 : im.size ≤ 288) : ∀ d j : Nat, j + d = im.size / 32 →
    Runs (stH 6 im (j : Int) (im.extract 0 (32 * j))) ((List.range' j (d + 1)).map (pieceB im)) ⟨7, im, 0, false, 0, ⟨#[]⟩, 1⟩
  | 0, j, h => by
    have hz := piece_size im j
    have ha := piece_app (im := im) (j := j) (by omega)
    have k := st_ok (ph := 6) (im := im) (rd := im.extract 0 (32 * j)) (bl := (j : Int)) (by decide) (by decide) i0 i1 (by omega) (by unfold manyI; omega) (by rw [ByteArray.size_extract]; omega)
    refine ⟨k, rfl, ?_⟩
    have e : takeH (stH 6 im (j : Int) (im.extract 0 (32 * j))) false false (pieceB im j) = readH (stH 6 im (j : Int) (im.extract 0 (32 * j))) (pieceB im j) := by simp [takeH]
    rw [e, readH_2 (by omega) (by show im.extract 0 (32 * j) ++ pieceB im j = im; rw [ha, Nat.min_eq_right (by omega), ByteArray.extract_zero_size])]
    rfl
  | d + 1, j, h => by
    have hz := piece_size im j
    have ha := piece_app (im := im) (j := j) (by omega)
    have k := st_ok (ph := 6) (im := im) (rd := im.extract 0 (32 * j)) (bl := (j : Int)) (by decide) (by decide) i0 i1 (by omega) (by unfold manyI; omega) (by rw [ByteArray.size_extract]; omega)
    rw [List.range'_succ, List.map_cons]
    refine ⟨k, rfl, ?_⟩
    have e : takeH (stH 6 im (j : Int) (im.extract 0 (32 * j))) false false (pieceB im j) = readH (stH 6 im (j : Int) (im.extract 0 (32 * j))) (pieceB im j) := by simp [takeH]
    have hs : (im.extract 0 (32 * j) ++ pieceB im j).size = 32 * j + 32 := by rw [ha, ByteArray.size_extract]; omega
    rw [e, readH_5 (by omega) (by omega) (by
      show ¬ (im.size < (im.extract 0 (32 * j) ++ pieceB im j).size ∨ (j : Int) = manyI im)
      unfold manyI
      omega)]
    show Runs (stH 6 im ((j : Int) + 1) (im.extract 0 (32 * j) ++ pieceB im j)) _ _
    rw [ha, Nat.min_eq_left (by omega)]
    exact runs_read i0 i1 d (j + 1) (by omega)
/-- the whole run. -/
def runL (idl bsy rdy im : ByteArray) (N : Nat) : List ByteArray := [idl] ++ (List.replicate N [⟨#[]⟩, bsy, rdy]).flatten ++ [⟨#[]⟩, idl] ++ (List.range' 0 (im.size / 32 + 1)).map (pieceB im)
theorem runs_all {idl bsy rdy im : ByteArray} (t : Texts idl bsy rdy) (i0 : 1 ≤ im.size) (i1 : im.size ≤ 288) (N : Nat) (hN : manyI im = (N : Int)) : Runs (stH 1 im 0 ⟨#[]⟩) (runL idl bsy rdy im N) ⟨7, im, 0, false, 0, ⟨#[]⟩, 1⟩ := by
  have h1 : 1 ≤ N := by unfold manyI at hN; omega
  have m0 : (0 : Int) ≤ manyI im := by omega
  have a1 : Runs (stH 1 im 0 ⟨#[]⟩) [idl] (stH 2 im 0 ⟨#[]⟩) := ⟨st_ok (by decide) (by decide) i0 i1 (by decide) m0 (by decide), rfl, t_clear t⟩
  have a2 : Runs (stH 2 im 0 ⟨#[]⟩) ((List.replicate N [⟨#[]⟩, bsy, rdy]).flatten) (stH 4 im (N : Int) ⟨#[]⟩) := by
    have := runs_many t i0 i1 N hN (N - 1) 0 (by omega)
    rwa [show N - 1 + 1 = N by omega] at this
  have a3 : Runs (stH 4 im (N : Int) ⟨#[]⟩) [⟨#[]⟩, idl] (stH 6 im 0 ⟨#[]⟩) := by
    refine ⟨st_ok (by decide) (by decide) i0 i1 (by omega) (by omega) (by decide), rfl, ?_⟩
    rw [t_wait]
    refine ⟨st_ok (by decide) (by decide) i0 i1 (by omega) (by omega) (by decide), rfl, ?_⟩
    rw [t_read t]
    rfl
  have a4 := runs_read i0 i1 (im.size / 32) 0 (by omega)
  have e : im.extract 0 (32 * 0) = ⟨#[]⟩ := by
    apply ext_data
    simp
  rw [e] at a4
  exact Runs.app (Runs.app (Runs.app a1 a2) a3) a4
end Go.Proofs.Ythoonffbadhplaa.Rp
