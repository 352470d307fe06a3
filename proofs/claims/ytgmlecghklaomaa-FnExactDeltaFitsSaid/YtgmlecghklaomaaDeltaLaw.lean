/- Right deltas, in plain words; fields of struct values. -/
import Derived.Test.YtgmlecghklaomaaGenD
import Derived.Test.YtgmlecghklaomaaStoreLaw
import Derived.Test.YtgmlecghklaomaaAbsNil
namespace Go.Proofs.Ytgmlecghklaomaa
open Go.RowKit
set_option linter.unusedVariables false

def changeC (x : Changet) : List Cell := [.c (.string x.name), .c (.int .i64 x.plus.arity), .sl rowE x.plus.rows, .c (.int .i64 x.minus.arity), .sl rowE x.minus.rows]
instance : CellsOf changeE changeC := cellsIso (e := pairE strE (pairE relE (pairE relE unitE))) (fun x : Changet => (x.name, x.plus, x.minus, ()))
def deltaC (s : Deltat) : List Cell := [.sl changeE s.changes]
instance : CellsOf deltaE deltaC := cellsIso (e := pairE (sliceE changeE) unitE) (fun x : Deltat => (x.changes, ()))
/-- The first has no row of the second. -/
def apart (a b : Relt) : Bool := (a.rows.filter fun row => hasRow b.rows row).length == 0
def changeAt (l : List Changet) (k : Nat) (h : k < l.length) : Bool :=
  wordB l[k].name && ((decide (k = 0) || bless (l[k - 1]'(by omega)).name l[k].name) && (two l[k].plus l[k].minus && (!(l[k].plus.rows.length + l[k].minus.rows.length == 0) && apart l[k].plus l[k].minus)))
def deltaOk (s : Deltat) : Bool := everyB (changeAt s.changes) && decide (s.changes.length ≤ 24)
theorem deltaOk_len {s : Deltat} (h : 24 < s.changes.length) : deltaOk s = false := by
  have : decide (s.changes.length ≤ 24) = false := decide_eq_false (by omega)
  unfold deltaOk; rw [this]; simp
theorem deltaOk_bad {s : Deltat} {k : Nat} (hk : k < s.changes.length) (h : changeAt s.changes k hk = false) : deltaOk s = false := by
  unfold deltaOk; rw [everyB_bad hk h]; rfl
theorem deltaOk_good {s : Deltat} {k : Nat} (h : AllAt (changeAt s.changes) k) (hk : s.changes.length ≤ k) (hl : s.changes.length ≤ 24) : deltaOk s = true := by
  unfold deltaOk; rw [h.all hk, decide_eq_true hl]; rfl
theorem changeAt_word {l : List Changet} {k : Nat} (hk : k < l.length) (h : wordB l[k].name = false) : changeAt l k hk = false := by simp [changeAt, h]
theorem changeAt_order {l : List Changet} {k : Nat} (hk : k < l.length) (h0 : 0 < k) (h : Op.bytesLess (l[k - 1]'(by omega)).name.toList l[k].name.toList = false) : changeAt l k hk = false := by
  have : decide (k = 0) = false := decide_eq_false (by omega)
  simp [changeAt, this, bless, h]
theorem changeAt_two {l : List Changet} {k : Nat} (hk : k < l.length) (h : two l[k].plus l[k].minus = false) : changeAt l k hk = false := by simp [changeAt, h]
theorem changeAt_none {l : List Changet} {k : Nat} (hk : k < l.length) (h : (l[k].plus.rows.length : Int) + l[k].minus.rows.length = 0) : changeAt l k hk = false := by
  have : l[k].plus.rows.length + l[k].minus.rows.length = 0 := by omega
  simp [changeAt, this]
theorem changeAt_apart {l : List Changet} {k : Nat} (hk : k < l.length) (h : apart l[k].plus l[k].minus = false) : changeAt l k hk = false := by simp [changeAt, h]
theorem changeAt_good {l : List Changet} {k : Nat} (hk : k < l.length) (h1 : wordB l[k].name = true) (h2 : (h0 : ¬ k = 0) → Op.bytesLess (l[k - 1]'(by omega)).name.toList l[k].name.toList = true) (h3 : two l[k].plus l[k].minus = true) (h4 : ¬ (l[k].plus.rows.length : Int) + l[k].minus.rows.length = 0)
    (h5 : apart l[k].plus l[k].minus = true) : changeAt l k hk = true := by
  have e4 : (l[k].plus.rows.length + l[k].minus.rows.length == 0) = false := by
    rw [beq_eq_false_iff_ne]; omega
  have e2 : (decide (k = 0) || bless (l[k - 1]'(by omega)).name l[k].name) = true := by
    by_cases h0 : k = 0
    · simp [h0]
    · simp [bless, h2 h0]
  unfold changeAt
  rw [h1, e2, h3, e4, h5]; rfl
theorem apart_iff {a b : Relt} : apart a b = true ↔ (a.rows.filter fun row => hasRow b.rows row).length = 0 := by simp [apart]
theorem apart_not {a b : Relt} (h : 0 < (a.rows.filter fun row => hasRow b.rows row).length) : apart a b = false := by
  cases h' : apart a b
  · rfl
  · rw [apart_iff] at h'; omega
section ops
variable {P : Program} {N : Nat} {s : St} {d : Nat} {ty : TypeId} {pos : String} {after : Array Edge} {gd : Option (Nat × Bool)}
def fldOne (P : Program) (S : TypeId) (j : Nat) : Option Nat :=
  match P.underlying S with
  | some (.struct fs) => match fs[j]? with
    | some f => match P.underlying f.type with
      | some (.slice _) => some f.offset
      | some (.int _) => some f.offset
      | some .string => some f.offset
      | _ => none
    | none => none
  | _ => none
theorem run_field1 {S j off : Nat} (h : fldOne P S j = some off) {vs : Array Value} {v : Value} (hv : vs[off]? = some v) (w : World) : (Instr.field S (.agg vs) j).run P w = .ok v w := by
  unfold fldOne at h
  split at h
  · rename_i fs hu
    split at h
    · rename_i f hj
      split at h <;> first | (rename_i hf; cases h; simp [Instr.field, run_underlying hu, hj, asAgg, part, isAgg, run_underlying hf, hv]; done) | (cases h; done)
    · cases h
  · cases h
theorem x_fldv {S j off : Nat} {x : Operand} {cs : List Cell} {c : Cell} (hN : Nat.blt d N = true) (h : evo s.t x = some (.agg cs)) (hf : fldOne P S j = some off) (hc : nthC cs off = some c) :
    Stp P N ⟨some d, .field S x j, ty, pos, after, gd⟩ s ⟨(d, .one c) :: s.t, s.l⟩ ⟨rdo x (.agg cs), [], [(d, .one c)], [], []⟩ :=
  Stp.pure rfl hN (rdo_of h) (by simp) fun g s' a w ht hl' r => by
    obtain ⟨vs, e1, e2⟩ : VR g s'.l w (a.eval x) (.agg cs) := eval_ok r (evs_of h) ht
    obtain ⟨v, h3, h4⟩ := e2.get (nthC_get hc)
    have hrun := run_field1 (P := P) hf (vs := vs.toArray) (v := v) (by simpa using h3) w
    exact ⟨v, by simp only [execOp, e1, Sem.run_bind, hrun, Result.andThen_ok]; rfl, h4⟩
end ops
end Go.Proofs.Ytgmlecghklaomaa
