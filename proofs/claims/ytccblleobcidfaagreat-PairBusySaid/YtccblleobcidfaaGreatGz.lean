/- Texts laid as one: Wda Wdb Wdm Wdl Wpz. -/
import Derived.Test.YtccblleobcidfaaGreatGy
import Derived.Test.YtccblleobcidfaaGreatGr
import Derived.Test.YtccblleobcidfaaGreatGv
import Derived.Test.YtccblleobcidfaaGreatHsk
import Derived.Test.YtccblleobcidfaaGreatGs
import Derived.Test.YtccblleobcidfaaGreatGn
import Derived.Test.YtccblleobcidfaaGreatGx
/- Layer 24: both ends, in plain Lean. -/
section
namespace Go.Proofs.YtccblleobcidfaaGreat.Wo
open Go.RowKit Go.Proofs.YtccblleobcidfaaGreat.Kt Go.Proofs.YtccblleobcidfaaGreat.Lw Go.Proofs.YtccblleobcidfaaGreat.St Go.Proofs.YtccblleobcidfaaGreat.Nm Go.Proofs.YtccblleobcidfaaGreat.Sl Go.Proofs.YtccblleobcidfaaGreat.Ops Go.Proofs.YtccblleobcidfaaGreat.Fl Go.Proofs.YtccblleobcidfaaGreat.Dv Go.Proofs.YtccblleobcidfaaGreat.Ho Go.Proofs.YtccblleobcidfaaGreat.Rp
set_option linter.unusedVariables false
set_option linter.unusedSimpArgs false
/-- both ends, and the flash. -/
structure WS where
  f : ByteArray
  v : Int
  p : Int
  r : Int
  d : DS
  h : HS
/-- an act. -/
structure AS where
  k : Int
  fi : ByteArray
  lo : Int
  cu : Int
def HS.zero : HS := ⟨0, ⟨#[]⟩, 0, false, 0, ⟨#[]⟩, 0⟩
def WS.zero : WS := ⟨⟨#[]⟩, 0, 0, 0, DS.zero, HS.zero⟩
def WS.may (w : WS) : Bool := decide (w.f.size = 768) && (Ic.mayB w.v w.p w.r && (w.d.may && w.h.may))
def AS.may (a : AS) : Bool := rngB a.k 0 5 && ((!(a.k == 1) || rngB a.lo 0 2) && (!(a.k == 3) || rngB a.cu 0 96))
def newOk (f : ByteArray) (v p r : Int) : Bool := decide (f.size = 768) && Ic.mayB v p r
def newW (f : ByteArray) (v p r : Int) : WS := bif newOk f v p r then ⟨f, v, p, r, DS.zero, HS.zero⟩ else WS.zero
def newE (f : ByteArray) (v p r : Int) : Int := bif newOk f v p r then 0 else 2400
/-- a host that begins to carry a file. -/
def startH (f : ByteArray) (v p r : Int) : HS := bif hstOk f v p r then ⟨1, Sf.parB f, 0, false, 0, ⟨#[]⟩, 0⟩ else ⟨7, ⟨#[]⟩, 0, false, 0, ⟨#[]⟩, 3⟩
/-- a request's bytes, its data. -/
def askS (h : HS) : ByteArray := Su.supB (askC h.ph h.bl h.ag) (askW h.ph h.bl) (askL h.ph h.im h.bl h.ag)
def askT (h : HS) : ByteArray := askD h.ph h.im h.bl
def stepW (w : WS) (lo : Int) : WS :=
  bif offB w.h.ph then w
  else if lo = 1 then ⟨w.f, w.v, w.p, w.r, w.d, takeH w.h true false ⟨#[]⟩⟩
  else if lo = 0 then ⟨w.f, w.v, w.p, w.r, handD w.f w.d (askS w.h) (askT w.h), takeH w.h false (handS w.f w.d (askS w.h) (askT w.h)) (handT w.f w.d (askS w.h) (askT w.h))⟩
  else ⟨w.f, w.v, w.p, w.r, handD w.f w.d (askS w.h) (askT w.h), takeH w.h true false ⟨#[]⟩⟩
def doneW (w : WS) (a : AS) : WS :=
  if a.k = 0 then (bif offB w.h.ph then ⟨w.f, w.v, w.p, w.r, w.d, startH a.fi w.v w.p w.r⟩ else w)
  else if a.k = 1 then stepW w a.lo
  else if a.k = 2 then ⟨tickF w.f w.d, w.v, w.p, w.r, tickD w.d, w.h⟩
  else if a.k = 3 then ⟨cutF w.f w.d a.cu.toNat, w.v, w.p, w.r, DS.zero, w.h⟩
  else if a.k = 4 then ⟨w.f, w.v, w.p, w.r, DS.zero, w.h⟩
  else ⟨w.f, w.v, w.p, w.r, w.d, HS.zero⟩
def doOk (w : WS) (a : AS) : Bool := w.may && a.may
def doW (w : WS) (a : AS) : WS := bif doOk w a then doneW w a else WS.zero
def doE (w : WS) (a : AS) : Int := bif doOk w a then 0 else 2400
end Go.Proofs.YtccblleobcidfaaGreat.Wo
end
/- Layer 24: what a host's request does, phase by phase: plain Lean. -/
section
namespace Go.Proofs.YtccblleobcidfaaGreat.Wo
open Go.RowKit Go.Proofs.YtccblleobcidfaaGreat.Kt Go.Proofs.YtccblleobcidfaaGreat.Lw Go.Proofs.YtccblleobcidfaaGreat.St Go.Proofs.YtccblleobcidfaaGreat.Nm Go.Proofs.YtccblleobcidfaaGreat.Sl Go.Proofs.YtccblleobcidfaaGreat.Ops Go.Proofs.YtccblleobcidfaaGreat.Fl Go.Proofs.YtccblleobcidfaaGreat.Dv Go.Proofs.YtccblleobcidfaaGreat.Ho Go.Proofs.YtccblleobcidfaaGreat.Rp
set_option linter.unusedVariables false
set_option linter.unusedSimpArgs false
/-- a request done: by its code, value, length, data. -/
def reqD (f : ByteArray) (d : DS) (c v l : Int) (t : ByteArray) : DS := bif Tb.allowB d.st c then doesD f d c v l t else DS.fail 6
def reqS (f : ByteArray) (d : DS) (c v l : Int) (t : ByteArray) : Bool := bif Tb.allowB d.st c then failB d (doesD f d c v l t) else true
def reqT (f : ByteArray) (d : DS) (c v l : Int) (t : ByteArray) : ByteArray := bif Tb.allowB d.st c then (bif failB d (doesD f d c v l t) then ⟨#[]⟩ else doesT f d c v l) else ⟨#[]⟩
theorem set_fields {c v l : Int} (h : Su.setMay c v l = true) : Dv.setC (Su.supB c v l) = c ∧ Dv.setV (Su.supB c v l) = v ∧ Dv.setL (Su.supB c v l) = l := by
  obtain ⟨h1, h2⟩ := Su.got_sup h
  rw [gotW_yes h1] at h2
  have e := congrArg Array.toList h2
  simp only [List.cons.injEq, Value.int.injEq, true_and, and_true] at e
  exact e
theorem hand_req {f : ByteArray} {d : DS} {c v l : Int} {t : ByteArray} (hm : Su.setMay c v l = true) (ht : (t.size : Int) = reqN c l) :
    handD f d (Su.supB c v l) t = reqD f d c v l t ∧ handS f d (Su.supB c v l) t = reqS f d c v l t ∧ handT f d (Su.supB c v l) t = reqT f d c v l t := by
  obtain ⟨e1, e2, e3⟩ := set_fields hm
  have h1 := (Su.got_sup hm).1
  have ho : handOk d (Su.supB c v l) t = Tb.allowB d.st c := by
    unfold handOk
    rw [h1, e1, e3, decide_eq_true ht, Bool.true_and, Bool.true_and]
  simp only [handD, handS, handT, ho, doneD, e1, e2, e3, reqD, reqS, reqT, and_self]
theorem data_size {im : ByteArray} {bl : Int} (h : 0 ≤ bl) : (dataB im bl).size ≤ 32 := by
  unfold dataB
  rw [ByteArray.size_extract]
  omega
theorem many_le {im : ByteArray} (h : im.size ≤ 288) : manyI im ≤ 9 := by unfold manyI; omega
/-- what a host asks for is a request. -/
theorem ask_req {h : HS} (q : h.Ok) (f : ByteArray) (d : DS) :
    handD f d (askS h) (askT h) = reqD f d (askC h.ph h.bl h.ag) (askW h.ph h.bl) (askL h.ph h.im h.bl h.ag) (askT h) ∧ handS f d (askS h) (askT h) = reqS f d (askC h.ph h.bl h.ag) (askW h.ph h.bl) (askL h.ph h.im h.bl h.ag) (askT h) ∧ handT f d (askS h) (askT h) = reqT f d (askC h.ph h.bl h.ag) (askW h.ph h.bl) (askL h.ph h.im h.bl h.ag) (askT h) := by
  have m9 := many_le q.im1
  have b0 := q.bl0
  have b1 := q.bl1
  have p0 := q.ph0
  have p1 := q.ph1
  have ds := data_size (im := h.im) b0
  unfold askS
  refine hand_req (Su.sup_mk ?_ ?_ ?_ ?_ ?_ ?_) ?_
  · unfold askC; cases h.ag <;> simp only [cond_true, cond_false] <;> (repeat' split) <;> omega
  · unfold askC; cases h.ag <;> simp only [cond_true, cond_false] <;> (repeat' split) <;> omega
  · unfold askW; split <;> omega
  · unfold askW; split <;> omega
  · unfold askL; cases h.ag <;> simp only [cond_true, cond_false] <;> (repeat' split) <;> omega
  · unfold askL; cases h.ag <;> simp only [cond_true, cond_false] <;> (repeat' split) <;> omega
  · have e0 : ((⟨#[]⟩ : ByteArray).size : Int) = 0 := rfl
    have hp : h.ph = 1 ∨ h.ph = 2 ∨ h.ph = 3 ∨ h.ph = 4 ∨ h.ph = 5 ∨ h.ph = 6 := by omega
    rcases hp with e | e | e | e | e | e <;> simp only [askT, askD, askC, askL, reqN, e] <;> cases h.ag <;> simp [e0]
    all_goals (try (split <;> simp [e0]))
/-- what is told of a state comes back. -/
theorem tell_back {d : DS} (hm : d.may = true) : An.gotB (tellB d) = true ∧ ansS (tellB d) = d.st := by
  obtain ⟨n1, n2, _⟩ := may_nums hm
  obtain ⟨g1, g2⟩ := An.got_put (a := d.su) (t := min (d.ops.length : Int) 255) (z := d.st) (An.may_mk (by omega) (by omega) (by omega) (by omega) (by omega) (by omega))
  refine ⟨g1, ?_⟩
  obtain ⟨a, b, e⟩ := gotV_form (tellB d)
  have e2 := e.symm.trans g2
  have e3 := congrArg Array.toList e2
  simp only [List.cons.injEq, Value.int.injEq, true_and, and_true] at e3
  exact e3.2.2
theorem fail_fail (d : DS) (k : Int) (h : d.st ≠ 7) : failB d (DS.fail k) = true := by
  have : (d.st == 7) = false := by simpa using h
  simp [failB, DS.fail, this]
theorem fail_no {d e : DS} (h : e.st ≠ 7) : failB d e = false := by
  have : (e.st == 7) = false := by simpa using h
  simp [failB, this]
/-- who asks for the status. -/
theorem req_yes {f : ByteArray} {d D : DS} {c v l : Int} {t T : ByteArray} (h : Tb.allowB d.st c = true) (e1 : doesD f d c v l t = D) (e2 : doesT f d c v l = T) : reqD f d c v l t = D ∧ reqS f d c v l t = failB d D ∧ (failB d D = false → reqT f d c v l t = T) := by
  unfold reqD reqS reqT
  rw [h, e1, e2]
  refine ⟨rfl, rfl, fun k => ?_⟩
  rw [k]
  rfl
theorem req_3 {f : ByteArray} {d : DS} (v l : Int) (t : ByteArray) (hm : d.may = true) : reqD f d 3 v l t = statD f d ∧ reqS f d 3 v l t = failB d (statD f d) ∧ (failB d (statD f d) = false → reqT f d 3 v l t = tellB (statD f d)) := by
  obtain ⟨n1, _⟩ := may_nums hm
  exact req_yes (allow_3 n1.1 n1.2) (by simp [doesD]) (by simp [doesT])
theorem req_0 {f : ByteArray} {d : DS} (c v l : Int) (t : ByteArray) (h : Tb.allowB d.st c = false) : reqD f d c v l t = DS.fail 6 ∧ reqS f d c v l t = true := by simp only [reqD, reqS, h, cond_false, and_self]
theorem req_4 {f : ByteArray} {d : DS} (v l : Int) (t : ByteArray) (h : d.st = 7) : reqD f d 4 v l t = DS.zero ∧ reqS f d 4 v l t = false := by
  have k : Tb.allowB d.st 4 = true := by rw [h]; decide +kernel
  obtain ⟨a, b, _⟩ := req_yes (f := f) (v := v) (l := l) (t := t) (D := DS.zero) k (by simp [doesD]) rfl
  exact ⟨a, b.trans (fail_no (by decide))⟩
theorem req_6 {f : ByteArray} {d : DS} (v l : Int) (t : ByteArray) (h : d.st = 0 ∨ d.st = 3 ∨ d.st = 6) : reqD f d 6 v l t = DS.zero ∧ reqS f d 6 v l t = false := by
  have k : Tb.allowB d.st 6 = true := by rcases h with h | h | h <;> rw [h] <;> decide +kernel
  obtain ⟨a, b, _⟩ := req_yes (f := f) (v := v) (l := l) (t := t) (D := DS.zero) k (by simp [doesD]) rfl
  exact ⟨a, b.trans (fail_no (by decide))⟩
theorem req_1 {f : ByteArray} {d : DS} (v l : Int) (t : ByteArray) (h : d.st = 0 ∨ d.st = 3) : reqD f d 1 v l t = downD f d v t ∧ reqS f d 1 v l t = failB d (downD f d v t) := by
  have k : Tb.allowB d.st 1 = true := by rcases h with h | h <;> rw [h] <;> decide +kernel
  obtain ⟨a, b, _⟩ := req_yes (f := f) (v := v) (l := l) (t := t) (D := downD f d v t) k (by simp [doesD]) rfl
  exact ⟨a, b⟩
theorem req_2 {f : ByteArray} {d : DS} (v l : Int) (t : ByteArray) (h : d.st = 0 ∨ d.st = 6) : reqD f d 2 v l t = upD f d v l ∧ reqS f d 2 v l t = failB d (upD f d v l) ∧ (failB d (upD f d v l) = false → reqT f d 2 v l t = upT f d v l) := by
  have k : Tb.allowB d.st 2 = true := by rcases h with h | h <;> rw [h] <;> decide +kernel
  exact req_yes (f := f) (v := v) (l := l) (t := t) k (by simp [doesD]) (by simp [doesT])
theorem allow_no {d : DS} {c : Int} (hm : d.may = true) : (c = 1 → ¬ (d.st = 0 ∨ d.st = 3) → Tb.allowB d.st c = false) ∧ (c = 2 → ¬ (d.st = 0 ∨ d.st = 6) → Tb.allowB d.st c = false) ∧ (c = 4 → d.st ≠ 7 → Tb.allowB d.st c = false) ∧ (c = 6 → ¬ (d.st = 0 ∨ d.st = 3 ∨ d.st = 6) → Tb.allowB d.st c = false) := by
  obtain ⟨n1, _⟩ := may_nums hm
  refine ⟨fun e h => ?_, fun e h => ?_, fun e h => ?_, fun e h => ?_⟩
  · rw [e, allow_1 n1.1 n1.2]; simp; omega
  · rw [e, allow_2 n1.1 n1.2]; simp; omega
  · rw [e, allow_4 n1.1 n1.2]; simp; omega
  · rw [e, allow_6 n1.1 n1.2]; simp; omega
/-- both ends behind a request that is answered. -/
abbrev devD (f : ByteArray) (d : DS) (h : HS) : DS := handD f d (askS h) (askT h)
abbrev hosH (f : ByteArray) (d : DS) (h : HS) : HS := takeH h false (handS f d (askS h) (askT h)) (handT f d (askS h) (askT h))
theorem take_stall (h : HS) (s : ByteArray) : takeH h false true s = anewH h := rfl
/-- who asks for the status: what he gets. -/
structure Asked (f : ByteArray) (d : DS) (h : HS) (go : ByteArray → HS) : Prop where
  dev : devD f d h = statD f d
  bad : failB d (statD f d) = true → hosH f d h = anewH h
  good : failB d (statD f d) = false → hosH f d h = go (tellB (statD f d)) ∧ An.gotB (tellB (statD f d)) = true ∧ ansS (tellB (statD f d)) = (statD f d).st
theorem asked {f : ByteArray} {d : DS} {h : HS} (q : h.Ok) (hm : d.may = true) (hc : askC h.ph h.bl h.ag = 3) (go : ByteArray → HS) (hg : ∀ s, takeH h false false s = go s) : Asked f d h go := by
  obtain ⟨a1, a2, a3⟩ := ask_req q f d
  rw [hc] at a1 a2 a3
  obtain ⟨r1, r2, r3⟩ := req_3 (f := f) (askW h.ph h.bl) (askL h.ph h.im h.bl h.ag) (askT h) hm
  refine ⟨a1.trans r1, fun hb => ?_, fun hb => ?_⟩
  · show takeH h false _ _ = _
    rw [a2, r2, hb]
    exact take_stall h _
  · refine ⟨?_, tell_back (may_stat hm)⟩
    show takeH h false _ _ = _
    rw [a2, r2, hb, a3, r3 hb]
    exact hg _
theorem asked_1 {f : ByteArray} {d : DS} {h : HS} (q : h.Ok) (hm : d.may = true) (h1 : h.ph = 1) (h2 : h.ag = false) : Asked f d h (clearedH h) :=
  asked q hm (by simp only [askC, h1, h2, cond_false, if_true]) _ fun s => by simp only [takeH, cond_false, h1, if_true]
theorem asked_3 {f : ByteArray} {d : DS} {h : HS} (q : h.Ok) (hm : d.may = true) (h1 : h.ph = 3) : Asked f d h (polledH h) :=
  asked q hm (by simp [askC, h1]) _ fun s => by simp [takeH, h1]
theorem asked_5 {f : ByteArray} {d : DS} {h : HS} (q : h.Ok) (hm : d.may = true) (h1 : h.ph = 5) : Asked f d h (waitedH h) :=
  asked q hm (by simp [askC, h1]) _ fun s => by simp [takeH, h1]
/-- who clears: what he gets. -/
theorem clears {f : ByteArray} {d : DS} {h : HS} (q : h.Ok) (hm : d.may = true) (h1 : h.ph = 1) (h2 : h.ag = true) :
    (((h.bl = 0 ∧ d.st = 7) ∨ (h.bl ≠ 0 ∧ (d.st = 0 ∨ d.st = 3 ∨ d.st = 6))) → devD f d h = DS.zero ∧ hosH f d h = (if h.rd = ⟨#[33]⟩ then ⟨5, h.im, 0, false, h.tr, ⟨#[]⟩, h.rp⟩ else ⟨1, h.im, 0, false, h.tr, ⟨#[]⟩, h.rp⟩)) ∧
    (¬ ((h.bl = 0 ∧ d.st = 7) ∨ (h.bl ≠ 0 ∧ (d.st = 0 ∨ d.st = 3 ∨ d.st = 6))) → devD f d h = DS.fail 6 ∧ hosH f d h = anewH h) := by
  obtain ⟨a1, a2, a3⟩ := ask_req q f d
  have hg : ∀ s, takeH h false false s = (if h.rd = ⟨#[33]⟩ then ⟨5, h.im, 0, false, h.tr, ⟨#[]⟩, h.rp⟩ else ⟨1, h.im, 0, false, h.tr, ⟨#[]⟩, h.rp⟩) := fun s => by
    simp only [takeH, cond_false, h1, if_true, clearedH, h2, cond_true]
  obtain ⟨_, _, n4, n6⟩ := allow_no (d := d) (c := askC h.ph h.bl h.ag) hm
  by_cases hb : h.bl = 0
  · have hc : askC h.ph h.bl h.ag = 4 := by simp [askC, h1, h2, hb]
    rw [hc] at a1 a2 a3 n4
    refine ⟨fun hy => ?_, fun hn => ?_⟩
    · obtain ⟨r1, r2⟩ := req_4 (f := f) (d := d) (askW h.ph h.bl) (askL h.ph h.im h.bl h.ag) (askT h) (by rcases hy with ⟨_, e⟩ | ⟨e, _⟩; exact e; exact absurd hb e)
      refine ⟨a1.trans r1, ?_⟩
      show takeH h false _ _ = _
      rw [a2, r2]
      exact hg _
    · obtain ⟨r1, r2⟩ := req_0 (f := f) (d := d) 4 (askW h.ph h.bl) (askL h.ph h.im h.bl h.ag) (askT h) (n4 rfl fun e => hn (.inl ⟨hb, e⟩))
      refine ⟨a1.trans r1, ?_⟩
      show takeH h false _ _ = _
      rw [a2, r2]
      rfl
  · have hc : askC h.ph h.bl h.ag = 6 := by simp [askC, h1, h2, hb]
    rw [hc] at a1 a2 a3 n6
    refine ⟨fun hy => ?_, fun hn => ?_⟩
    · obtain ⟨r1, r2⟩ := req_6 (f := f) (d := d) (askW h.ph h.bl) (askL h.ph h.im h.bl h.ag) (askT h) (by rcases hy with ⟨e, _⟩ | ⟨_, e⟩; exact absurd e hb; exact e)
      refine ⟨a1.trans r1, ?_⟩
      show takeH h false _ _ = _
      rw [a2, r2]
      exact hg _
    · obtain ⟨r1, r2⟩ := req_0 (f := f) (d := d) 6 (askW h.ph h.bl) (askL h.ph h.im h.bl h.ag) (askT h) (n6 rfl fun e => hn (.inr ⟨hb, e⟩))
      refine ⟨a1.trans r1, ?_⟩
      show takeH h false _ _ = _
      rw [a2, r2]
      rfl
/-- who sends a piece, or ends. -/
theorem sends {f : ByteArray} {d : DS} {h : HS} (q : h.Ok) (hm : d.may = true) (h1 : h.ph = 2 ∨ h.ph = 4) :
    ((d.st = 0 ∨ d.st = 3) → devD f d h = downD f d h.bl (askT h) ∧ (failB d (downD f d h.bl (askT h)) = true → hosH f d h = anewH h) ∧ (failB d (downD f d h.bl (askT h)) = false → hosH f d h = ⟨h.ph + 1, h.im, h.bl, false, h.tr, h.rd, h.rp⟩)) ∧
    (¬ (d.st = 0 ∨ d.st = 3) → devD f d h = DS.fail 6 ∧ hosH f d h = anewH h) := by
  obtain ⟨a1, a2, a3⟩ := ask_req q f d
  have hg : ∀ s, takeH h false false s = ⟨h.ph + 1, h.im, h.bl, false, h.tr, h.rd, h.rp⟩ := fun s => by
    rcases h1 with e | e <;> simp [takeH, e]
  have hc : askC h.ph h.bl h.ag = 1 := by rcases h1 with e | e <;> simp [askC, e]
  have hw : askW h.ph h.bl = h.bl := by rcases h1 with e | e <;> simp [askW, e]
  rw [hc, hw] at a1 a2 a3
  obtain ⟨n1, _⟩ := allow_no (d := d) (c := 1) hm
  refine ⟨fun hy => ?_, fun hn => ?_⟩
  · obtain ⟨r1, r2⟩ := req_1 (f := f) h.bl (askL h.ph h.im h.bl h.ag) (askT h) hy
    refine ⟨a1.trans r1, fun hb => ?_, fun hb => ?_⟩
    · show takeH h false _ _ = _
      rw [a2, r2, hb]
      rfl
    · show takeH h false _ _ = _
      rw [a2, r2, hb]
      exact hg _
  · obtain ⟨r1, r2⟩ := req_0 (f := f) (d := d) 1 h.bl (askL h.ph h.im h.bl h.ag) (askT h) (n1 rfl hn)
    refine ⟨a1.trans r1, ?_⟩
    show takeH h false _ _ = _
    rw [a2, r2]
    rfl
/-- who reads back. -/
theorem reads {f : ByteArray} {d : DS} {h : HS} (q : h.Ok) (hm : d.may = true) (h1 : h.ph = 6) :
    ((d.st = 0 ∨ d.st = 6) → devD f d h = upD f d h.bl 32 ∧ (failB d (upD f d h.bl 32) = true → hosH f d h = anewH h) ∧ (failB d (upD f d h.bl 32) = false → hosH f d h = readH h (upT f d h.bl 32))) ∧
    (¬ (d.st = 0 ∨ d.st = 6) → devD f d h = DS.fail 6 ∧ hosH f d h = anewH h) := by
  obtain ⟨a1, a2, a3⟩ := ask_req q f d
  have hg : ∀ s, takeH h false false s = readH h s := fun s => by simp [takeH, h1]
  have hc : askC h.ph h.bl h.ag = 2 := by simp [askC, h1]
  have hw : askW h.ph h.bl = h.bl := by simp [askW, h1]
  have hl : askL h.ph h.im h.bl h.ag = 32 := by simp [askL, h1]
  rw [hc, hw, hl] at a1 a2 a3
  obtain ⟨_, n2, _⟩ := allow_no (d := d) (c := 2) hm
  refine ⟨fun hy => ?_, fun hn => ?_⟩
  · obtain ⟨r1, r2, r3⟩ := req_2 (f := f) h.bl 32 (askT h) hy
    refine ⟨a1.trans r1, fun hb => ?_, fun hb => ?_⟩
    · show takeH h false _ _ = _
      rw [a2, r2, hb]
      rfl
    · show takeH h false _ _ = _
      rw [a2, r2, hb, a3, r3 hb]
      exact hg _
  · obtain ⟨r1, r2⟩ := req_0 (f := f) (d := d) 2 h.bl 32 (askT h) (n2 rfl hn)
    refine ⟨a1.trans r1, ?_⟩
    show takeH h false _ _ = _
    rw [a2, r2]
    rfl
end Go.Proofs.YtccblleobcidfaaGreat.Wo
end
/- Layers 24, 25: acts, what may be: plain Lean. -/
section
namespace Go.Proofs.YtccblleobcidfaaGreat.Wo
open Go.RowKit Go.Proofs.YtccblleobcidfaaGreat.Kt Go.Proofs.YtccblleobcidfaaGreat.Lw Go.Proofs.YtccblleobcidfaaGreat.St Go.Proofs.YtccblleobcidfaaGreat.Nm Go.Proofs.YtccblleobcidfaaGreat.Sl Go.Proofs.YtccblleobcidfaaGreat.Ops Go.Proofs.YtccblleobcidfaaGreat.Ch Go.Proofs.YtccblleobcidfaaGreat.Im Go.Proofs.YtccblleobcidfaaGreat.Jr Go.Proofs.YtccblleobcidfaaGreat.Fl Go.Proofs.YtccblleobcidfaaGreat.Pl Go.Proofs.YtccblleobcidfaaGreat.Dv Go.Proofs.YtccblleobcidfaaGreat.Ho Go.Proofs.YtccblleobcidfaaGreat.Rp
set_option linter.unusedVariables false
set_option linter.unusedSimpArgs false
attribute [local irreducible] En.gotB Im.goodB Cr.crcB En.nQ En.nS En.nZ En.nM placeB En.wholeB devMay
theorem may_all {w : WS} : w.may = true ↔ w.f.size = 768 ∧ Ic.mayB w.v w.p w.r = true ∧ w.d.may = true ∧ w.h.may = true := by
  simp [WS.may, Bool.and_eq_true]
theorem on_ok {h : HS} (h1 : h.may = true) (h2 : offB h.ph = false) : h.Ok := (HS.on_iff h).1 (by simp [HS.on, h1, h2])
theorem take_may {h : HS} (q : h.Ok) (lost stall : Bool) (s : ByteArray) : (takeH h lost stall s).may = true := by
  by_cases g : Rp.goodB h lost stall s
  · obtain ⟨g1, rfl, rfl, g4⟩ := g
    exact (keep_good q ⟨g1, rfl, rfl, g4⟩).1.1.may
  · exact (keep_take q g).1.1.may
theorem fresh_ok {s : ByteArray} (h : 1 ≤ s.size ∧ s.size ≤ 288) : (⟨1, s, 0, false, 0, ⟨#[]⟩, 0⟩ : HS).Ok :=
  ⟨by simp, by simp, h.1, h.2, by simp, many0 s, by simp, by simp, (show (⟨#[]⟩ : ByteArray).size ≤ 320 by decide), by simp, by simp⟩
theorem hst_yes {f : ByteArray} {v p r : Int} (h : hstOk f v p r = true) : Sf.parOk f = true ∧ 1 ≤ (Sf.parB f).size ∧ (Sf.parB f).size ≤ 288 := by
  unfold hstOk at h
  simp only [Bool.and_eq_true] at h
  have := Sf.par_size h.1
  exact ⟨h.1, by omega, by omega⟩
theorem zero_may : HS.zero.may = true := by decide +kernel
theorem file_may : (⟨7, ⟨#[]⟩, 0, false, 0, ⟨#[]⟩, 3⟩ : HS).may = true := by decide +kernel
theorem start_may (f : ByteArray) (v p r : Int) : (startH f v p r).may = true := by
  unfold startH
  cases h : hstOk f v p r
  · exact file_may
  · obtain ⟨_, h1, h2⟩ := hst_yes h
    exact (fresh_ok ⟨h1, h2⟩).fine.may
theorem start_bld {s : ByteArray} {v p r : Int} (h : Sf.bldOk s v p r = true) : startH (Sf.bldB s v p r) v p r = ⟨1, s, 0, false, 0, ⟨#[]⟩, 0⟩ ∧ hstOk (Sf.bldB s v p r) v p r = true ∧ Sf.parB (Sf.bldB s v p r) = s := by
  have hm : Ic.mayB v p r = true := by
    unfold Sf.bldOk at h
    simp only [Bool.and_eq_true] at h
    exact h.2
  have k := Sf.bld_par h
  unfold Sf.parV3 at k
  simp only [Value.tuple.injEq] at k
  have e := congrArg Array.toList k
  simp only [List.cons.injEq, Value.string.injEq, Value.agg.injEq, Value.int.injEq, true_and, and_true] at e
  obtain ⟨e1, e2, e3⟩ := e
  have e4 := congrArg Array.toList e2
  simp only [List.cons.injEq, Value.int.injEq, true_and, and_true] at e4
  obtain ⟨e5, e6, e7⟩ := e4
  have ok := Sf.par_e.1 e3
  have ho : hstOk (Sf.bldB s v p r) v p r = true := by
    unfold hstOk
    rw [ok, e5, e6, e7]
    simp [Ic.matchB, hm, Ic.fitsB]
  refine ⟨?_, ho, e1⟩
  unfold startH
  rw [ho, e1]
  rfl
theorem done_may {w : WS} {a : AS} (h : w.may = true) (ha : a.may = true) : (doneW w a).may = true ∧ (doneW w a).v = w.v ∧ (doneW w a).p = w.p ∧ (doneW w a).r = w.r := by
  obtain ⟨h1, h2, h3, h4⟩ := may_all.1 h
  have hb : bothB w.f w.d = true := by simp [bothB, h1, h3]
  unfold doneW
  split
  · cases ho : offB w.h.ph
    · exact ⟨h, rfl, rfl, rfl⟩
    · exact ⟨may_all.2 ⟨h1, h2, h3, start_may _ _ _ _⟩, rfl, rfl, rfl⟩
  · split
    · unfold stepW
      cases ho : offB w.h.ph
      · have q := on_ok h4 ho
        simp only [cond_false]
        split
        · exact ⟨may_all.2 ⟨h1, h2, h3, take_may q _ _ _⟩, rfl, rfl, rfl⟩
        · split
          · exact ⟨may_all.2 ⟨h1, h2, may_hand hb, take_may q _ _ _⟩, rfl, rfl, rfl⟩
          · exact ⟨may_all.2 ⟨h1, h2, may_hand hb, take_may q _ _ _⟩, rfl, rfl, rfl⟩
      · exact ⟨h, rfl, rfl, rfl⟩
    · split
      · exact ⟨may_all.2 ⟨tick_size h1 h3, h2, may_tick h3, h4⟩, rfl, rfl, rfl⟩
      · split
        · rename_i k3
          have hc : a.cu.toNat ≤ 96 := by
            simp [AS.may, rngB, k3] at ha
            omega
          exact ⟨may_all.2 ⟨cutf_size h1 h3 hc, h2, may_zero, h4⟩, rfl, rfl, rfl⟩
        · split
          · exact ⟨may_all.2 ⟨h1, h2, may_zero, h4⟩, rfl, rfl, rfl⟩
          · exact ⟨may_all.2 ⟨h1, h2, h3, zero_may⟩, rfl, rfl, rfl⟩
/-- an act done, or passed over. -/
def goW (w : WS) (a : AS) : WS := bif doOk w a then doneW w a else w
def runW (w : WS) (xs : List AS) : WS := xs.foldl goW w
theorem go_yes {w : WS} {a : AS} (h : w.may = true) (ha : a.may = true) : goW w a = doneW w a := by simp [goW, doOk, h, ha]
theorem go_no {w : WS} {a : AS} (ha : a.may = false) : goW w a = w := by simp [goW, doOk, ha]
theorem go_may {w : WS} {a : AS} (h : w.may = true) : (goW w a).may = true ∧ (goW w a).v = w.v ∧ (goW w a).p = w.p ∧ (goW w a).r = w.r := by
  cases ha : a.may
  · rw [go_no ha]
    exact ⟨h, rfl, rfl, rfl⟩
  · rw [go_yes h ha]
    exact done_may h ha
theorem run_may {w : WS} (xs : List AS) (h : w.may = true) : (runW w xs).may = true ∧ (runW w xs).v = w.v ∧ (runW w xs).p = w.p ∧ (runW w xs).r = w.r := by
  induction xs generalizing w with
  | nil => exact ⟨h, rfl, rfl, rfl⟩
  | cons a xs ih =>
    obtain ⟨g1, g2, g3, g4⟩ := go_may (a := a) h
    obtain ⟨i1, i2, i3, i4⟩ := ih g1
    exact ⟨i1, i2.trans g2, i3.trans g3, i4.trans g4⟩
theorem run_app (w : WS) (xs bs : List AS) : runW w (xs ++ bs) = runW (runW w xs) bs := List.foldl_append
def aStep : AS := ⟨1, ⟨#[]⟩, 0, 0⟩
def aTick : AS := ⟨2, ⟨#[]⟩, 0, 0⟩
def aDrop : AS := ⟨5, ⟨#[]⟩, 0, 0⟩
def aStart (f : ByteArray) : AS := ⟨0, f, 0, 0⟩
def aCut (n : Int) : AS := ⟨3, ⟨#[]⟩, 0, n⟩
/-- so many steps without loss, each with ticks behind it. -/
def rndL (T : Nat) : List AS := aStep :: List.replicate T aTick
def roundsL (T : Nat) : Nat → List AS
  | 0 => []
  | n + 1 => rndL T ++ roundsL T n
end Go.Proofs.YtccblleobcidfaaGreat.Wo
end
/- Layer 24: how long what a device tells is: plain Lean. -/
section
namespace Go.Proofs.YtccblleobcidfaaGreat.Wo
open Go.RowKit Go.Proofs.YtccblleobcidfaaGreat.Kt Go.Proofs.YtccblleobcidfaaGreat.Lw Go.Proofs.YtccblleobcidfaaGreat.St Go.Proofs.YtccblleobcidfaaGreat.Nm Go.Proofs.YtccblleobcidfaaGreat.Sl Go.Proofs.YtccblleobcidfaaGreat.Ops Go.Proofs.YtccblleobcidfaaGreat.Fl Go.Proofs.YtccblleobcidfaaGreat.Dv Go.Proofs.YtccblleobcidfaaGreat.Ho Go.Proofs.YtccblleobcidfaaGreat.Rp
set_option linter.unusedVariables false
set_option linter.unusedSimpArgs false
theorem put_le (a t z : Int) : (An.putB a t z).size ≤ 6 := by
  unfold An.putB
  cases An.ansMay a t z
  · simp
  · simp [ByteArray.size_append, lowB_size]
theorem upT_le {f : ByteArray} {d : DS} {b l : Int} : (upT f d b l).size ≤ f.size := by
  unfold upT
  cases Ch.activeO f with
  | none => exact Nat.zero_le _
  | some p =>
    simp only
    split
    · unfold upB Im.imgB
      simp only [ByteArray.size_extract]
      omega
    · exact Nat.zero_le _
theorem handT_le {f : ByteArray} {d : DS} {s t : ByteArray} (h : f.size ≤ 768) : (handT f d s t).size ≤ 140737488351232 := by
  have e0 : (⟨#[]⟩ : ByteArray).size = 0 := rfl
  unfold handT
  cases handOk d s t
  · simp only [cond_false, e0]
    omega
  · simp only [cond_true]
    cases failB d (doneD f d s t)
    · simp only [cond_false]
      unfold doesT tellB
      have h1 := upT_le (f := f) (d := d) (b := setV s) (l := setL s)
      have h2 := put_le (statD f d).su (min ((statD f d).ops.length : Int) 255) (statD f d).st
      have h3 := lowB_size d.st 1
      split
      · omega
      · split
        · omega
        · split
          · omega
          · simp only [e0]
            omega
    · simp only [cond_true, e0]
      omega
/-- sizes of a world that may be. -/
theorem may_ops {x : WS} (h : x.may = true) : x.d.ops.length ≤ 768 := by
  have := (may_all.1 h).2.2.1
  exact may_len this
end Go.Proofs.YtccblleobcidfaaGreat.Wo
end
/- Layers 24, 25, the whole: the worlds that the laws' first answers meet: plain Lean. -/
section
namespace Go.Proofs.YtccblleobcidfaaGreat.Wo
open Go.RowKit Go.Proofs.YtccblleobcidfaaGreat.Kt Go.Proofs.YtccblleobcidfaaGreat.Lw Go.Proofs.YtccblleobcidfaaGreat.St Go.Proofs.YtccblleobcidfaaGreat.Nm Go.Proofs.YtccblleobcidfaaGreat.Sl Go.Proofs.YtccblleobcidfaaGreat.Ops Go.Proofs.YtccblleobcidfaaGreat.Fl Go.Proofs.YtccblleobcidfaaGreat.Dv Go.Proofs.YtccblleobcidfaaGreat.Ho Go.Proofs.YtccblleobcidfaaGreat.Rp
set_option linter.unusedVariables false
set_option linter.unusedSimpArgs false
def imgT : ByteArray := ⟨#[105, 109, 97, 103, 101]⟩
abbrev hFresh (s : ByteArray) : HS := ⟨1, s, 0, false, 0, ⟨#[]⟩, 0⟩
def W0 : WS := ⟨Jr.fullB 768, 1155, 57105, 512, DS.zero, HS.zero⟩
theorem stat_z {f : ByteArray} {d : DS} (h : d.st = 0) : statD f d = d := by simp [statD, h]
theorem new_ops (f : ByteArray) (v p r : Int) : (newW f v p r).d.ops = [] := by
  unfold newW
  cases newOk f v p r <;> rfl
theorem new_W0 : newW (Jr.fullB 768) 1155 57105 512 = W0 ∧ newE (Jr.fullB 768) 1155 57105 512 = 0 := by
  have h : newOk (Jr.fullB 768) 1155 57105 512 = true := by
    have h2 : Ic.mayB 1155 57105 512 = true := by decide
    simp [newOk, Jr.full_size, h2]
  simp [newW, newE, h, W0]
theorem new_no (f : ByteArray) (v p r : Int) (h : newOk f v p r = false) : newW f v p r = WS.zero ∧ newE f v p r = 2400 := by simp [newW, newE, h]
theorem W0_may : W0.may = true := may_all.2 ⟨Jr.full_size 768, by decide, may_zero, zero_may⟩
theorem bld_ids {s : ByteArray} (h : 1 ≤ s.size ∧ s.size ≤ 288) : Sf.bldOk s 1155 57105 512 = true := by
  have hr : rngB (s.size : Int) 1 288 = true := by simp [rngB]; omega
  simp only [Sf.bldOk, hr]
  decide
theorem do_yes {x : WS} {a : AS} (h : x.may = true) (ha : a.may = true) : doW x a = doneW x a ∧ doE x a = 0 := by simp [doW, doE, doOk, h, ha]
theorem do_no {x : WS} {a : AS} (h : x.may = true → a.may = false) : doW x a = WS.zero ∧ doE x a = 2400 := by
  have : doOk x a = false := by
    unfold doOk
    cases hx : x.may
    · rfl
    · simp [h hx]
  simp [doW, doE, this]
theorem start_rest {x : WS} {s : ByteArray} (h : x.may = true) (ho : offB x.h.ph = true) (hb : Sf.bldOk s x.v x.p x.r = true) :
    doW x (aStart (Sf.bldB s x.v x.p x.r)) = ⟨x.f, x.v, x.p, x.r, x.d, hFresh s⟩ ∧ doE x (aStart (Sf.bldB s x.v x.p x.r)) = 0 := by
  obtain ⟨e1, e2⟩ := do_yes (a := aStart (Sf.bldB s x.v x.p x.r)) h rfl
  refine ⟨?_, e2⟩
  rw [e1]
  simp [doneW, aStart, ho, (start_bld hb).1]
theorem drop_any {x : WS} (h : x.may = true) : doW x aDrop = ⟨x.f, x.v, x.p, x.r, x.d, HS.zero⟩ ∧ doE x aDrop = 0 := by
  obtain ⟨e1, e2⟩ := do_yes (a := aDrop) h rfl
  exact ⟨by rw [e1]; simp [doneW, aDrop], e2⟩
/-- a fresh host's first step, the device new. -/
theorem first_step {x : WS} {s : ByteArray} (h : x.may = true) (hh : x.h = hFresh s) (hd : x.d = DS.zero) : doW x aStep = ⟨x.f, x.v, x.p, x.r, DS.zero, ⟨2, s, 0, false, 0, ⟨#[]⟩, 0⟩⟩ ∧ doE x aStep = 0 := by
  obtain ⟨e1, e2⟩ := do_yes (a := aStep) h rfl
  refine ⟨?_, e2⟩
  obtain ⟨m1, m2, m3, m4⟩ := may_all.1 h
  have ho : offB x.h.ph = false := by rw [hh]; rfl
  have q := on_ok m4 ho
  have A := asked_1 (f := x.f) (d := x.d) q m3 (by rw [hh]) (by rw [hh])
  have es : statD x.f x.d = DS.zero := by rw [stat_z (by rw [hd]; rfl), hd]
  have fb : failB x.d (statD x.f x.d) = false := by rw [es]; exact fail_no (by decide)
  obtain ⟨g1, g2, g3⟩ := A.good fb
  have d1 := A.dev
  rw [es] at g1 g2 g3 d1
  rw [e1]
  have e3 : doneW x aStep = stepW x 0 := by simp [doneW, aStep]
  rw [e3]
  have e4 : stepW x 0 = ⟨x.f, x.v, x.p, x.r, devD x.f x.d x.h, hosH x.f x.d x.h⟩ := by simp [stepW, ho]
  rw [e4, d1, g1]
  have e5 : clearedH x.h (tellB DS.zero) = ⟨2, s, 0, false, 0, ⟨#[]⟩, 0⟩ := by
    rw [hh]
    have g4 : ansS (tellB DS.zero) = 0 := g3
    unfold clearedH
    simp only [cond_false, g2, cond_true, g4, if_true]
  rw [e5]
def A24 : WS := ⟨Jr.fullB 768, 1155, 57105, 512, DS.zero, hFresh imgT⟩
def B24 : WS := ⟨Jr.fullB 768, 1155, 57105, 512, DS.zero, ⟨2, imgT, 0, false, 0, ⟨#[]⟩, 0⟩⟩
theorem img_bld : Sf.bldOk imgT 1155 57105 512 = true := bld_ids (by decide)
theorem w_1 : doW W0 (aStart (Sf.bldB imgT 1155 57105 512)) = A24 ∧ doE W0 (aStart (Sf.bldB imgT 1155 57105 512)) = 0 := start_rest (x := W0) W0_may rfl img_bld
theorem A24_may : A24.may = true := by
  have := (done_may (w := W0) (a := aStart (Sf.bldB imgT 1155 57105 512)) W0_may rfl).1
  rwa [← (do_yes (a := aStart (Sf.bldB imgT 1155 57105 512)) W0_may rfl).1, w_1.1] at this
theorem w_2 : doW A24 aStep = B24 ∧ doE A24 aStep = 0 := first_step A24_may rfl rfl
theorem B24_may : B24.may = true := by
  have := (done_may (w := A24) (a := aStep) A24_may rfl).1
  rwa [← (do_yes (a := aStep) A24_may rfl).1, w_2.1] at this
theorem w_3 : doW B24 aDrop = W0 ∧ doE B24 aDrop = 0 := drop_any B24_may
theorem w_4 : doW W0 ⟨9, ⟨#[]⟩, 0, 0⟩ = WS.zero ∧ doE W0 ⟨9, ⟨#[]⟩, 0, 0⟩ = 2400 := do_no fun _ => by decide
theorem w_5 : newW ⟨#[]⟩ 1155 57105 512 = WS.zero ∧ newE ⟨#[]⟩ 1155 57105 512 = 2400 := new_no _ _ _ _ rfl
end Go.Proofs.YtccblleobcidfaaGreat.Wo
end
