/- More operations of the abstract walk: numbers of other kinds, shifts. -/
import Derived.Test.YtcgickpnckedcaaAbsMem
namespace Go.Proofs.Ytcgickpnckedcaa
open Go.RowKit
set_option linter.unusedVariables false
section ops
variable {P : Program} {N : Nat} {s : St} {d : Nat} {ty : TypeId} {pos : String} {after : Array Edge} {gd : Option (Nat × Bool)}

def intT (P : Program) (A B : TypeId) : Option IntKind :=
  match P.underlying A, P.underlying B with
  | some _, some (.int k) => some k
  | _, _ => none
theorem run_conv {A B : TypeId} {k k' : IntKind} {n : Int} (h : intT P A B = some k') (w : World) : (convert A B (.int k n)).run P w = .ok (.int k' (k'.wrap n)) w := by
  unfold intT at h
  split at h
  · rename_i a k0 h1 h2
    cases h
    simp only [convert, Sem.run_bind, run_underlying h1, run_underlying h2, Result.andThen_ok]
    cases a <;> rfl
  · cases h
theorem x_conv {A B : TypeId} {x : Operand} {k k' : IntKind} {n r : Int} (hN : Nat.blt d N = true) (h : evo s.t x = some (.one (.c (.int k n)))) (hk : intT P A B = some k') (hr : k'.wrap n = r) :
    Stp P N ⟨some d, .convert A B x, ty, pos, after, gd⟩ s ⟨(d, .one (.c (.int k' r))) :: s.t, s.l⟩ ⟨rdo x (.one (.c (.int k n))), [], [(d, .one (.c (.int k' r)))], [], []⟩ :=
  Stp.pure rfl hN (rdo_of h) (by simp) fun g s' a w ht hl' rp => by
    obtain ⟨e1, _⟩ : a.eval x = .int k n ∧ wfV (.int k n) := eval_ok rp (evs_of h) ht
    refine ⟨.int k' (k'.wrap n), by simp only [execOp, e1, Sem.run_bind, run_conv hk, Result.andThen_ok, Sem.run_pure], ?_, ?_⟩
    · rw [hr]
    · rw [← hr]; exact wf_wrap k' _
theorem x_shr {T T' : TypeId} {x y : Operand} {k k' : IntKind} {m n r : Int} (hN : Nat.blt d N = true) (h : evo s.t x = some (.one (.c (.int k m)))) (h2 : evo s.t y = some (.one (.c (.int k' n)))) (h0 : 0 ≤ n) (hr : m.fdiv (2 ^ (min n.toNat k.bits)) = r) (hw : (Lit.int k r).wf = true) :
    Stp P N ⟨some d, .binOp .shr T x y T', ty, pos, after, gd⟩ s ⟨(d, .one (.c (.int k r))) :: s.t, s.l⟩ ⟨rdo x (.one (.c (.int k m))) ++ rdo y (.one (.c (.int k' n))), [], [(d, .one (.c (.int k r)))], [], []⟩ :=
  Stp.pure rfl hN (two_rd h h2) (by simp) fun g s' a w ht hl' rp => by
    obtain ⟨⟨e1, w1⟩, e2, w2⟩ := two_c rp (evs_of h) (evs_of h2) ht
    refine ⟨.int k r, run_binOp rfl ?_, rfl, hw⟩
    rw [e1, e2]
    have : ¬ n < 0 := by omega
    simp only [Sem.run_bind, guard_int, Result.andThen_ok]
    simp only [binOp, Op.shift, this, if_false, hr]; rfl
theorem x_shl {T T' : TypeId} {x y : Operand} {k k' : IntKind} {m n r : Int} (hN : Nat.blt d N = true) (h : evo s.t x = some (.one (.c (.int k m)))) (h2 : evo s.t y = some (.one (.c (.int k' n)))) (h0 : 0 ≤ n) (hr : k.wrap (m * 2 ^ (min n.toNat k.bits)) = r) :
    Stp P N ⟨some d, .binOp .shl T x y T', ty, pos, after, gd⟩ s ⟨(d, .one (.c (.int k r))) :: s.t, s.l⟩ ⟨rdo x (.one (.c (.int k m))) ++ rdo y (.one (.c (.int k' n))), [], [(d, .one (.c (.int k r)))], [], []⟩ :=
  Stp.pure rfl hN (two_rd h h2) (by simp) fun g s' a w ht hl' rp => by
    obtain ⟨⟨e1, w1⟩, e2, w2⟩ := two_c rp (evs_of h) (evs_of h2) ht
    refine ⟨.int k r, run_binOp rfl ?_, rfl, by rw [← hr]; exact wf_wrap k _⟩
    rw [e1, e2]
    have : ¬ n < 0 := by omega
    simp only [Sem.run_bind, guard_int, Result.andThen_ok]
    simp only [binOp, Op.shift, this, if_false, hr]; rfl
end ops
/-- The middle of two places, as a binary search counts it. -/
theorem mid_shr {m : Int} (h0 : 0 ≤ m) : m.fdiv (2 ^ (min (1 : Int).toNat IntKind.u64.bits)) = m / 2 := by
  have e : (2 : Int) ^ (min (1 : Int).toNat IntKind.u64.bits) = 2 := rfl
  rw [e, Int.fdiv_eq_ediv_of_nonneg _ (by omega)]
theorem u64_wf {r : Int} (h0 : 0 ≤ r) (h1 : r < 18446744073709551616) : (Lit.int .u64 r).wf = true := by
  simp [Lit.wf, IntKind.min, IntKind.max, IntKind.signed, IntKind.bits]; omega
theorem u64_id {r : Int} (h0 : 0 ≤ r) (h1 : r < 18446744073709551616) : IntKind.u64.wrap r = r := by
  simp only [IntKind.wrap, IntKind.signed, IntKind.bits]; simp; omega
end Go.Proofs.Ytcgickpnckedcaa
