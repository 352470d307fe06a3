/- Data that lead nowhere. -/
import Derived.Test.YtcgickpnckedcaaAbsY
import Derived.Test.YtcgickpnckedcaaAbsOld
namespace Go.Proofs.Ytcgickpnckedcaa
open Go.RowKit
set_option linter.unusedVariables false
theorem valE_nofp : ∀ w cs (y : Val) b, valE.rep w cs y b → b = [] := fun w cs y b h => (valE_rep.1 h).2.2.2
theorem strE_nofp : ∀ w cs (y : ByteArray) b, strE.rep w cs y b → b = [] := fun w cs y b h => h.2.2
theorem intE_nofp {k : IntKind} : ∀ w cs (y : Int) b, (intE k).rep w cs y b → b = [] := fun w cs y b h => h.2.2
/-! truth values compared -/
section ops
variable {P : Program} {N : Nat} {s : St} {d : Nat} {ty : TypeId} {pos : String} {after : Array Edge} {gd : Option (Nat × Bool)}
theorem x_bool2 {op : BinOp} {T T' : TypeId} {x y : Operand} {m n : Bool} {v : Value} (hN : Nat.blt d N = true) (h : evo s.t x = some (.one (.c (.bool m)))) (h2 : evo s.t y = some (.one (.c (.bool n))))
    (hr : ∀ w, (binOp op T (.bool m) (.bool n)).run P w = .ok v w) (hw : wfV v) :
    Stp P N ⟨some d, .binOp op T x y T', ty, pos, after, gd⟩ s ⟨(d, .one (.c v)) :: s.t, s.l⟩ ⟨rdo x (.one (.c (.bool m))) ++ rdo y (.one (.c (.bool n))), [], [(d, .one (.c v))], [], []⟩ :=
  Stp.pure rfl hN (two_rd h h2) (by simp) fun g s' a w ht hl' r => by
    obtain ⟨⟨e1, w1⟩, e2, w2⟩ := two_c r (evs_of h) (evs_of h2) ht
    refine ⟨v, run_binOp rfl ?_, rfl, hw⟩
    rw [e1, e2]
    have hg : (eqGuard op T x y (.bool m) (.bool n)).run P w = .ok () w := by cases op <;> rfl
    simp only [Sem.run_bind, hg, Result.andThen_ok, hr]
theorem x_beql {T T' : TypeId} {x y : Operand} {m n : Bool} (hN : Nat.blt d N = true) (h : evo s.t x = some (.one (.c (.bool m)))) (h2 : evo s.t y = some (.one (.c (.bool n)))) (hT : P.underlying T = some .bool) :
    Stp P N ⟨some d, .binOp .eql T x y T', ty, pos, after, gd⟩ s ⟨(d, .one (.c (.bool (m == n)))) :: s.t, s.l⟩ ⟨rdo x (.one (.c (.bool m))) ++ rdo y (.one (.c (.bool n))), [], [(d, .one (.c (.bool (m == n))))], [], []⟩ :=
  x_bool2 hN h h2 (fun w => run_eql_bool w T m n hT) trivial
theorem x_bneq {T T' : TypeId} {x y : Operand} {m n : Bool} (hN : Nat.blt d N = true) (h : evo s.t x = some (.one (.c (.bool m)))) (h2 : evo s.t y = some (.one (.c (.bool n)))) (hT : P.underlying T = some .bool) :
    Stp P N ⟨some d, .binOp .neq T x y T', ty, pos, after, gd⟩ s ⟨(d, .one (.c (.bool (!(m == n))))) :: s.t, s.l⟩ ⟨rdo x (.one (.c (.bool m))) ++ rdo y (.one (.c (.bool n))), [], [(d, .one (.c (.bool (!(m == n)))))], [], []⟩ :=
  x_bool2 hN h h2 (fun w => run_neq_bool w T m n hT) trivial
end ops
/-! rows picked out -/
def filtTo {α : Type} (p : α → Bool) (rows : List α) (k : Nat) : List α := (rows.take k).filter p
theorem filtTo_zero {α : Type} {p : α → Bool} {rows : List α} : ([] : List α) = filtTo p rows 0 := rfl
theorem filtTo_yes {α : Type} {p : α → Bool} {rows : List α} {k : Nat} (hk : k < rows.length) (h : p rows[k] = true) : filtTo p rows k ++ [rows[k]] = filtTo p rows (k + 1) := by
  unfold filtTo; rw [List.take_succ_eq_append_getElem hk, List.filter_append]; simp [h]
theorem filtTo_no {α : Type} {p : α → Bool} {rows : List α} {k : Nat} (hk : k < rows.length) (h : p rows[k] = false) : filtTo p rows k = filtTo p rows (k + 1) := by
  unfold filtTo; rw [List.take_succ_eq_append_getElem hk, List.filter_append]; simp [h]
theorem filtTo_len {α : Type} {p : α → Bool} {rows : List α} {k : Nat} : (filtTo p rows k).length ≤ rows.length := by
  unfold filtTo; exact Nat.le_trans (List.length_filter_le ..) (by simp; omega)
theorem filtTo_all {α : Type} {p : α → Bool} {rows : List α} {k : Nat} (hk : rows.length ≤ k) : filtTo p rows k = rows.filter p := by
  unfold filtTo; rw [List.take_of_length_le hk]
end Go.Proofs.Ytcgickpnckedcaa
