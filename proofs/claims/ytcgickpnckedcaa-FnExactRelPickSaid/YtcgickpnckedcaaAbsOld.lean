/- Contracts that were walked before, said for the abstract walk. -/
import Derived.Test.YtcgickpnckedcaaAbsVal
import Derived.Test.YtcgickpnckedcaaText
import Derived.Test.YtcgickpnckedcaaRelLaw
namespace Go.Proofs.Ytcgickpnckedcaa
open Go.RowKit
set_option linter.unusedVariables false
set_option maxRecDepth 100000

theorem Step.of_below {g : Gh} {w w' : World} (h : Below w.heap.size w w') : Step (keys ([] : Locs)) g [] w g [] w' :=
  ⟨h.os, h.tape, h.output, h.size, fun b hb _ => h.block b hb, fun _ h => h, fun _ h => .inl h, fun b ⟨k, blk, hk, _⟩ => (by simp [lkl, lk] at hk), fun k hk => (by cases hk)⟩
theorem MemR.of_below {g : Gh} {w w' : World} (m : MemR g [] w) (h : Below w.heap.size w w') : MemR g [] w' :=
  ⟨fun b hb => Nat.lt_of_lt_of_le (m.ilt b hb) h.size, fun k cs hk => (by simp [lkl, lk] at hk), fun k α T e xs d hk => (by simp [lkl, lk] at hk), fun j k b b' _ hj => (by simp [lkl, lk] at hj), fun k α T e xs hk => (by simp [lkl, lk] at hk), fun j k α β T U e f xs ys _ hj => (by simp [lkl, lk] at hj)⟩
theorem AC.pure {P : Program} {f : FuncId} {args : List AVal} {v : Value} (hc : Callable P f) (hw : wfV v) (h : ∀ (w : World) (g : Gh) (cargs : Array Value), All2 (VR1 g [] w) cargs.toList args → Calls P f cargs w fun e w' => e = .returned v ∧ Below w.heap.size w w') : AC P f args [] (.one (.c v)) [] :=
  ⟨hc, fun g w cargs m ha => (h w g cargs ha).mono fun e w' ⟨he, hb⟩ => ⟨v, g, he, m.of_below hb, ⟨rfl, hw⟩, Step.of_below hb⟩⟩
theorem AC.pure2 {P : Program} {f : FuncId} {args : List AVal} {u v : Value} (hc : Callable P f) (hu : wfV u) (hw : wfV v) (h : ∀ (w : World) (g : Gh) (cargs : Array Value), All2 (VR1 g [] w) cargs.toList args → Calls P f cargs w fun e w' => e = .returned (.tuple #[u, v]) ∧ Below w.heap.size w w') : AC P f args [] (.tup [.one (.c u), .one (.c v)]) [] :=
  ⟨hc, fun g w cargs m ha => (h w g cargs ha).mono fun e w' ⟨he, hb⟩ => ⟨_, g, he, m.of_below hb, ⟨[u, v], rfl, ⟨rfl, hu⟩, ⟨rfl, hw⟩, trivial⟩, Step.of_below hb⟩⟩
theorem below_eq {w w' : World} (h : w = w') : Below w.heap.size w w' := by subst h; exact Below.refl _ _

section
variable {g : Gh} {l : Locs} {w : World}
theorem inv1 {R : Value → AVal → Prop} {a : Array Value} {x : AVal} (h : All2 R a.toList [x]) : ∃ v, a = #[v] ∧ R v x := by
  obtain ⟨a⟩ := a
  match a, h with
  | [v], h => exact ⟨v, rfl, h.1⟩
theorem inv2 {R : Value → AVal → Prop} {a : Array Value} {x y : AVal} (h : All2 R a.toList [x, y]) : ∃ u v, a = #[u, v] ∧ R u x ∧ R v y := by
  obtain ⟨a⟩ := a
  match a, h with
  | [u, v], h => exact ⟨u, v, rfl, h.1, h.2.1⟩
theorem inv3 {R : Value → AVal → Prop} {a : Array Value} {x y z : AVal} (h : All2 R a.toList [x, y, z]) : ∃ u v t, a = #[u, v, t] ∧ R u x ∧ R v y ∧ R t z := by
  obtain ⟨a⟩ := a
  match a, h with
  | [u, v, t], h => exact ⟨u, v, t, rfl, h.1, h.2.1, h.2.2.1⟩
theorem inv_val {v : Value} {a : Val} (h : VR1 g l w v (.agg (valC a))) : v = .agg #[.int .i64 a.n, .string a.s] ∧ (Lit.int .i64 a.n).wf = true ∧ a.s.size ≤ maxLen := by
  obtain ⟨vs, e1, e2⟩ := h
  match vs, e2 with
  | [x, y], ⟨⟨f1, f2⟩, ⟨f3, f4⟩, _⟩ => subst f1; subst f3; exact ⟨e1, f2, f4⟩
theorem inv_row {v : Value} {r : List Val} (h : VR1 g l w v (.agg (rowC r))) : ∃ a n cap bs, v = .agg #[.slice a n cap] ∧ SliceRep valE w a n cap r bs := by
  obtain ⟨vs, e1, e2⟩ := h
  match vs, e2 with
  | [x], ⟨⟨a, n, cap, bs, f1, f2, _⟩, _⟩ => subst f1; exact ⟨a, n, cap, bs, e1, f2⟩
theorem inv_c {v u : Value} (h : VR1 g l w v (.one (.c u))) : v = u ∧ wfV u := h
end

def relC (r : Relt) : List Cell := [.c (.int .i64 r.arity), .sl rowE r.rows]
instance : CellsOf relE relC := ⟨fun {w vs x b} => by
  rw [Rel_rep]
  constructor
  · rintro ⟨a, n, cap, sb, rfl, h1, h2, rfl⟩; exact ⟨[], _, rfl, ⟨rfl, h1, rfl⟩, b, [], by simp, ⟨a, n, cap, rfl, h2⟩, rfl⟩
  · intro h
    match vs, h with
    | [u, v], ⟨b1, b2, hb, ⟨h1, h2, h3⟩, b3, b4, hb', ⟨a, n, cap, h4, h5⟩, h7⟩ =>
      simp only [FR] at h7
      subst h3; subst h7; subst h1; subst h4; subst hb'
      exact ⟨a, n, cap, b3, rfl, h2, h5, by simpa using hb⟩⟩
theorem valueOkI_c (v : Val) : AC Try.prog 63 [.agg (valC v)] [] (.one (.c (.bool (valOk v)))) [] :=
  AC.pure ⟨_, _, Try.func63, rfl, rfl⟩ trivial fun w g cargs h => by
    obtain ⟨x, rfl, h1⟩ := inv1 h
    obtain ⟨rfl, _, hs⟩ := inv_val h1
    exact valueOkI_any v.n v.s w hs
theorem valueOkS_c (v : Val) : AC Try.prog 60 [.agg (valC v)] [] (.one (.c (.bool (valOk v)))) [] :=
  AC.pure ⟨_, _, Try.func60, rfl, rfl⟩ trivial fun w g cargs h => by
    obtain ⟨x, rfl, h1⟩ := inv1 h
    obtain ⟨rfl, _, hs⟩ := inv_val h1
    exact valueOkS_any v.n v.s w hs
theorem rowOkI_c (r : List Val) : AC Try.prog 95 [.agg (rowC r)] [] (.one (.c (.bool (rowOk r)))) [] :=
  AC.pure ⟨_, _, Try.func95, rfl, rfl⟩ trivial fun w g cargs h => by
    obtain ⟨x, rfl, h1⟩ := inv1 h
    obtain ⟨a, n, cap, bs, rfl, hs⟩ := inv_row h1
    exact rowOkI_any a n cap r bs w hs
theorem rowOkS_c (r : List Val) : AC Try.prog 74 [.agg (rowC r)] [] (.one (.c (.bool (rowOk r)))) [] :=
  AC.pure ⟨_, _, Try.func74, rfl, rfl⟩ trivial fun w g cargs h => by
    obtain ⟨x, rfl, h1⟩ := inv1 h
    obtain ⟨a, n, cap, bs, rfl, hs⟩ := inv_row h1
    exact rowOkS_any a n cap r bs w hs
theorem ord09_range (xs ys : List Val) : -1 ≤ ord09 xs ys ∧ ord09 xs ys ≤ 1 := by rw [ord09_eq]; omega
theorem rowOrder_range (xs ys : List Val) : -1 ≤ rowOrder xs ys ∧ rowOrder xs ys ≤ 2 := by
  have := ord09_range xs ys
  unfold rowOrder; split <;> omega
theorem byRow_c (a b : List Val) (ha : ∀ v ∈ a, valOk v = true) (hb : ∀ v ∈ b, valOk v = true) : AC Try.prog 97 [.agg (rowC a), .agg (rowC b)] [] (.one (.c (.int .i64 (cmpRow a b)))) [] :=
  AC.pure ⟨_, _, Try.func97, rfl, rfl⟩ (WalkArith.wf_i64 (by have := cmpRow_range a b ha hb; omega)) fun w g cargs h => by
    obtain ⟨x, y, rfl, h1, h2⟩ := inv2 h
    obtain ⟨a1, n1, cap1, bs1, rfl, hs1⟩ := inv_row h1
    obtain ⟨a2, n2, cap2, bs2, rfl, hs2⟩ := inv_row h2
    exact byRow_any a1 n1 cap1 a bs1 a2 n2 cap2 b bs2 w hs1 hs2 ha hb
theorem rowOrderS_c (a b : List Val) : AC Try.prog 100 [.agg (rowC a), .agg (rowC b)] [] (.one (.c (.int .i64 (rowOrder a b)))) [] :=
  AC.pure ⟨_, _, Try.func100, rfl, rfl⟩ (WalkArith.wf_i64 (by have := rowOrder_range a b; omega)) fun w g cargs h => by
    obtain ⟨x, y, rfl, h1, h2⟩ := inv2 h
    obtain ⟨a1, n1, cap1, bs1, rfl, hs1⟩ := inv_row h1
    obtain ⟨a2, n2, cap2, bs2, rfl, hs2⟩ := inv_row h2
    exact rowOrderS_any a1 n1 cap1 a bs1 a2 n2 cap2 b bs2 w hs1 hs2
end Go.Proofs.Ytcgickpnckedcaa
