/- The abstract walk: values and rows; contracts between the two ways of saying. -/
import Derived.Test.YtcgickpnckedcaaAbsMem
import Derived.Test.YtcgickpnckedcaaGenBase
import Derived.Laws.StructEq
namespace Go.Proofs.Ytcgickpnckedcaa
open Go.RowKit
set_option linter.unusedVariables false

def valC (v : Val) : List Cell := [.c (.int .i64 v.n), .c (.string v.s)]
instance : CellsOf valE valC := ⟨fun {w vs x b} => by
  rw [valE_rep]
  constructor
  · rintro ⟨rfl, h1, h2, rfl⟩; exact ⟨[], [], rfl, ⟨rfl, h1, rfl⟩, [], [], rfl, ⟨rfl, h2, rfl⟩, rfl⟩
  · intro h
    match vs, h with
    | [u, v], ⟨b1, b2, hb, ⟨h1, h2, h3⟩, b3, b4, hb', ⟨h4, h5, h6⟩, h7⟩ =>
      simp only [FR] at h7
      subst h3; subst h6; subst h7; subst h1; subst h4; subst hb'
      exact ⟨rfl, h2, h5, by simpa using hb⟩⟩
def rowC (r : List Val) : List Cell := [.sl valE r]
instance : CellsOf rowE rowC := ⟨fun {w vs x b} => by
  rw [rowE_rep]
  constructor
  · rintro ⟨a, n, cap, rfl, h⟩; exact ⟨b, [], by simp, ⟨a, n, cap, rfl, h⟩, rfl⟩
  · intro h
    match vs, h with
    | [v], ⟨b1, b2, hb, ⟨a, n, cap, h1, h2⟩, h4⟩ => simp only [FR] at h4; subst h4; subst h1; simp at hb; subst hb; exact ⟨a, n, cap, rfl, h2⟩⟩

/-! Two values, compared. -/
def sameVal (x y : Val) : Bool := x.n == y.n && x.s == y.s
theorem sameVal_iff {x y : Val} : sameVal x y = true ↔ x = y := by
  obtain ⟨n, ⟨⟨s⟩⟩⟩ := x
  obtain ⟨m, ⟨⟨r⟩⟩⟩ := y
  simp [sameVal, beq_toListBytes, ByteArray.toList_eq]
instance : DecidableEq Val := fun x y => decidable_of_iff _ sameVal_iff
theorem sameVal_refl (x : Val) : sameVal x x = true := sameVal_iff.2 rfl
theorem sameVal_ne {x y : Val} (h : sameVal x y = false) : x ≠ y := fun e => by rw [sameVal_iff.2 e] at h; cases h
theorem equalIn_val (x y : Val) (w : World) : (Op.equalIn 10000 37 (.agg #[.int .i64 x.n, .string x.s]) (.agg #[.int .i64 y.n, .string y.s])).run Try.prog w = .ok (sameVal x y) w := by
  have hS : Try.prog.underlying 37 = some (.struct (Try.prog.fieldsOf 37)) := by kernel_rfl
  have hp : Try.prog.stoodInHeld 37 = false := by kernel_rfl
  rw [show (10000 : Nat) = 9999 + 1 from rfl, run_equalIn_agg w 9999 37 _ _ hS hp]
  simp only [Program.fieldsOf, Try.underlying37]
  go_simp
  unfold sameVal
  rw [beq_toListBytes]
  by_cases h1 : x.n = y.n <;> by_cases h2 : x.s.toList = y.s.toList <;> simp [h1, h2]
theorem guard_val (op : BinOp) (x y : Operand) (a b : Val) (w : World) : (eqGuard op 37 x y (.agg #[.int .i64 a.n, .string a.s]) (.agg #[.int .i64 b.n, .string b.s])).run Try.prog w = .ok () w := by
  have hg : Try.prog.eqGuardType Try.prog.depth 37 = false := by kernel_rfl
  unfold eqGuard
  cases op <;> simp [hg]
theorem x_val2 {P : Program} {N : Nat} {s : St} {d : Nat} {ty : TypeId} {pos : String} {after : Array Edge} {gd : Option (Nat × Bool)} {op : BinOp} {T T' : TypeId} {x y : Operand} {a b : Val} {v : Bool} (hN : Nat.blt d N = true) (h : evo s.t x = some (.agg (valC a))) (h2 : evo s.t y = some (.agg (valC b)))
    (hr : ∀ w, ((do eqGuard op T x y (.agg #[.int .i64 a.n, .string a.s]) (.agg #[.int .i64 b.n, .string b.s]); binOp op T (.agg #[.int .i64 a.n, .string a.s]) (.agg #[.int .i64 b.n, .string b.s])) : Sem Value).run P w = .ok (.bool v) w) :
    Stp P N ⟨some d, .binOp op T x y T', ty, pos, after, gd⟩ s ⟨(d, .one (.c (.bool v))) :: s.t, s.l⟩ ⟨rdo x (.agg (valC a)) ++ rdo y (.agg (valC b)), [], [(d, .one (.c (.bool v)))], [], []⟩ :=
  Stp.pure rfl hN (two_rd h h2) (by simp) fun g s' ac w ht hl' r => by
    have one : ∀ {o : Operand} {c : Val}, Evs o (.agg (valC c)) → (∀ p ∈ rdo o (.agg (valC c)), lk s'.t p.1 = some p.2) → ac.eval o = .agg #[.int .i64 c.n, .string c.s] := fun {o c} he hp => by
      obtain ⟨vs, e1, e2⟩ : VR g s'.l w (ac.eval o) (.agg (valC c)) := eval_ok r he hp
      match vs, e2 with
      | [u, v], ⟨⟨f1, _⟩, ⟨f2, _⟩, _⟩ => subst f1; subst f2; exact e1
    have e1 := one (evs_of h) fun p hp => ht p (List.mem_append_left _ hp)
    have e2 := one (evs_of h2) fun p hp => ht p (List.mem_append_right _ hp)
    refine ⟨.bool v, run_binOp rfl ?_, rfl, trivial⟩
    rw [e1, e2]; exact hr w
section
variable {N : Nat} {s : St} {d : Nat} {ty : TypeId} {pos : String} {after : Array Edge} {gd : Option (Nat × Bool)} {T' : TypeId} {x y : Operand} {a b : Val}
theorem x_veql (hN : Nat.blt d N = true) (h : evo s.t x = some (.agg (valC a))) (h2 : evo s.t y = some (.agg (valC b))) :
    Stp Try.prog N ⟨some d, .binOp .eql 37 x y T', ty, pos, after, gd⟩ s ⟨(d, .one (.c (.bool (sameVal a b)))) :: s.t, s.l⟩ ⟨rdo x (.agg (valC a)) ++ rdo y (.agg (valC b)), [], [(d, .one (.c (.bool (sameVal a b))))], [], []⟩ :=
  x_val2 hN h h2 fun w => by simp only [Sem.run_bind, guard_val, Result.andThen_ok, binOp, Op.equal, Op.maxDepth, equalIn_val, Sem.run_pure]
theorem x_vneq (hN : Nat.blt d N = true) (h : evo s.t x = some (.agg (valC a))) (h2 : evo s.t y = some (.agg (valC b))) :
    Stp Try.prog N ⟨some d, .binOp .neq 37 x y T', ty, pos, after, gd⟩ s ⟨(d, .one (.c (.bool (!sameVal a b)))) :: s.t, s.l⟩ ⟨rdo x (.agg (valC a)) ++ rdo y (.agg (valC b)), [], [(d, .one (.c (.bool (!sameVal a b))))], [], []⟩ :=
  x_val2 hN h h2 fun w => by simp only [Sem.run_bind, guard_val, Result.andThen_ok, binOp, Op.equal, Op.maxDepth, equalIn_val, Sem.run_pure]
end
/-! Rows, compared. -/
def SameTo (xs ys : List Val) (k : Nat) : Prop := ∀ j (h : j < xs.length) (h' : j < ys.length), j < k → xs[j] = ys[j]
theorem SameTo.zero {xs ys : List Val} : SameTo xs ys 0 := fun _ _ _ h => absurd h (by omega)
theorem SameTo.succ {xs ys : List Val} {k : Nat} (h : SameTo xs ys k) (hk : k < xs.length) (hk' : k < ys.length) (hs : sameVal xs[k] ys[k] = true) : SameTo xs ys (k + 1) := fun j hj hj' hjk => by
  rcases Nat.lt_or_ge j k with h1 | h1
  · exact h j hj hj' h1
  · obtain rfl : j = k := by omega
    exact sameVal_iff.1 hs
theorem SameTo.eq {xs ys : List Val} {k : Nat} (hl : xs.length = ys.length) (hk : xs.length ≤ k) (h : SameTo xs ys k) : xs = ys :=
  List.ext_getElem hl fun j h1 h2 => h j h1 h2 (by omega)
def sameRow (xs ys : List Val) : Bool := decide (xs = ys)
theorem sameRow_len {xs ys : List Val} (h : ¬ xs.length = ys.length) : sameRow xs ys = false := decide_eq_false fun e => h (by rw [e])
theorem sameRow_at {xs ys : List Val} {k : Nat} (hk : k < xs.length) (hk' : k < ys.length) (hs : sameVal xs[k] ys[k] = false) : sameRow xs ys = false := decide_eq_false fun e => by subst e; exact sameVal_ne hs rfl
theorem sameRow_eq {xs ys : List Val} (h : xs = ys) : sameRow xs ys = true := decide_eq_true h
end Go.Proofs.Ytcgickpnckedcaa
