/- The abstract walk: a rule for each operation. -/
import Derived.Test.YtcgickpnckedcaaAbsCall
import Derived.Laws.StructEq
import Derived.WalkKit
import Derived.OpenShut
namespace Go.Proofs.Ytcgickpnckedcaa
open Go.RowKit
set_option linter.unusedVariables false

/-! ### Data, opened into cells -/
def CFR (w : World) (v : Value) : Cell → List Nat → Prop
  | .c u, b => v = u ∧ wfV u ∧ b = []
  | .sl e xs, b => ∃ a n cap, v = .slice a n cap ∧ SliceRep e w a n cap xs b
  | _, _ => False
def FR (w : World) : List Value → List Cell → List Nat → Prop
  | [], [], b => b = []
  | v :: vs, c :: cs, b => ∃ b1 b2, b = b1 ++ b2 ∧ CFR w v c b1 ∧ FR w vs cs b2
  | _, _, _ => False
/-- A datum x of e lies in cells that hold f x. -/
class CellsOf {α : Type} (e : Enc α) (f : outParam (α → List Cell)) : Prop where
  iff : ∀ {w : World} {vs : List Value} {x : α} {b : List Nat}, e.rep w vs x b ↔ FR w vs (f x) b
theorem FR.app {w : World} : ∀ {vs : List Value} {cs ds : List Cell} {b : List Nat}, FR w vs (cs ++ ds) b ↔ ∃ v1 v2 b1 b2, vs = v1 ++ v2 ∧ b = b1 ++ b2 ∧ FR w v1 cs b1 ∧ FR w v2 ds b2
  | vs, [], ds, b => by
    constructor
    · exact fun h => ⟨[], vs, [], b, rfl, rfl, rfl, h⟩
    · rintro ⟨v1, v2, b1, b2, h1, h2, h3, h4⟩
      cases v1 with
      | nil => simp only [FR] at h3; subst h3; simp at h1 h2; subst h1; subst h2; exact h4
      | cons _ _ => cases h3
  | [], c :: cs, ds, b => by
    constructor
    · intro h; cases h
    · rintro ⟨v1, v2, b1, b2, h1, h2, h3, h4⟩
      cases v1 with
      | nil => cases h3
      | cons _ _ => cases h1
  | v :: vs, c :: cs, ds, b => by
    constructor
    · rintro ⟨b1, b2, rfl, h1, h2⟩
      obtain ⟨v1, v2, b3, b4, rfl, rfl, h3, h4⟩ := FR.app.1 h2
      exact ⟨v :: v1, v2, b1 ++ b3, b4, rfl, by simp, ⟨b1, b3, rfl, h1, h3⟩, h4⟩
    · rintro ⟨v1, v2, b1, b2, h1, rfl, h3, h4⟩
      cases v1 with
      | nil => cases h3
      | cons u v1 =>
        simp only [List.cons_append, List.cons.injEq] at h1
        obtain ⟨rfl, rfl⟩ := h1
        obtain ⟨b3, b5, rfl, h5, h6⟩ := h3
        exact ⟨b3, b5 ++ b2, by simp, h5, FR.app.2 ⟨v1, v2, b5, b2, rfl, rfl, h6, h4⟩⟩
instance cellsInt {k : IntKind} : CellsOf (intE k) (fun n => [.c (.int k n)]) := ⟨fun {w vs x b} => by
  constructor
  · rintro ⟨rfl, h1, rfl⟩; exact ⟨[], [], rfl, ⟨rfl, h1, rfl⟩, rfl⟩
  · intro h
    match vs, h with
    | [v], ⟨b1, b2, hb, ⟨h1, h2, h3⟩, h4⟩ => simp only [FR] at h4; subst h3; subst h4; subst h1; exact ⟨rfl, h2, hb⟩⟩
instance cellsStr : CellsOf strE (fun s => [.c (.string s)]) := ⟨fun {w vs x b} => by
  constructor
  · rintro ⟨rfl, h1, rfl⟩; exact ⟨[], [], rfl, ⟨rfl, h1, rfl⟩, rfl⟩
  · intro h
    match vs, h with
    | [v], ⟨b1, b2, hb, ⟨h1, h2, h3⟩, h4⟩ => simp only [FR] at h4; subst h3; subst h4; subst h1; exact ⟨rfl, h2, hb⟩⟩
instance cellsBool : CellsOf boolE (fun s => [.c (.bool s)]) := ⟨fun {w vs x b} => by
  constructor
  · rintro ⟨rfl, rfl⟩; exact ⟨[], [], rfl, ⟨rfl, trivial, rfl⟩, rfl⟩
  · intro h
    match vs, h with
    | [v], ⟨b1, b2, hb, ⟨h1, h2, h3⟩, h4⟩ => simp only [FR] at h4; subst h3; subst h4; subst h1; exact ⟨rfl, hb⟩⟩
instance cellsUnit : CellsOf unitE (fun _ => []) := ⟨fun {w vs x b} => by
  constructor
  · rintro ⟨rfl, rfl⟩; rfl
  · intro h
    match vs, h with
    | [], h => exact ⟨rfl, h⟩⟩
instance cellsSlice {α : Type} {e : Enc α} : CellsOf (sliceE e) (fun xs => [.sl e xs]) := ⟨fun {w vs x b} => by
  constructor
  · rintro ⟨a, n, cap, rfl, h⟩; exact ⟨b, [], by simp, ⟨a, n, cap, rfl, h⟩, rfl⟩
  · intro h
    match vs, h with
    | [v], ⟨b1, b2, hb, ⟨a, n, cap, h1, h2⟩, h4⟩ => simp only [FR] at h4; subst h4; subst h1; simp at hb; subst hb; exact ⟨a, n, cap, rfl, h2⟩⟩
instance cellsPair {α β : Type} {e : Enc α} {f : Enc β} {F : α → List Cell} {G : β → List Cell} [he : CellsOf e F] [hf : CellsOf f G] : CellsOf (pairE e f) (fun x => F x.1 ++ G x.2) := ⟨fun {w vs x b} => by
  rw [FR.app]
  constructor
  · rintro ⟨c1, c2, b1, b2, rfl, rfl, h1, h2⟩; exact ⟨c1, c2, b1, b2, rfl, rfl, he.iff.1 h1, hf.iff.1 h2⟩
  · rintro ⟨c1, c2, b1, b2, rfl, rfl, h1, h2⟩; exact ⟨c1, c2, b1, b2, rfl, rfl, he.iff.2 h1, hf.iff.2 h2⟩⟩
theorem cellsIso {α β : Type} {e : Enc α} {F : α → List Cell} [he : CellsOf e F] (f : β → α) : CellsOf (isoE e f) (fun x => F (f x)) := ⟨fun {w vs x b} => he.iff⟩

theorem FR.all2 {g : Gh} {l : Locs} {w : World} : ∀ {vs : List Value} {cs : List Cell} {b : List Nat}, FR w vs cs b → (∀ i ∈ b, g.I i) → All2 (CellR g l w) vs cs
  | [], [], b, _, _ => trivial
  | v :: vs, c :: cs, b, h, hI => by
    obtain ⟨b1, b2, rfl, h1, h2⟩ := h
    refine ⟨?_, FR.all2 h2 fun i hi => hI i (List.mem_append_right _ hi)⟩
    cases c with
    | c u => exact ⟨h1.1, h1.2.1⟩
    | sl e xs =>
      obtain ⟨a, n, cap, h3, h4⟩ := h1
      exact ⟨a, n, cap, b1, h3, h4, fun i hi => hI i (List.mem_append_left _ hi)⟩
    | _ => exact h1.elim
/-- Cells that hold data. -/
def Cell.dat : Cell → Bool
  | .c _ => true
  | .sl _ _ => true
  | _ => false
theorem FR.of {g : Gh} {l : Locs} {w : World} : ∀ {vs : List Value} {cs : List Cell}, cs.all Cell.dat = true → All2 (CellR g l w) vs cs → ∃ b, FR w vs cs b ∧ ∀ i ∈ b, g.I i
  | [], [], _, _ => ⟨[], rfl, fun i h => by cases h⟩
  | v :: vs, c :: cs, hd, h => by
    simp only [List.all_cons, Bool.and_eq_true] at hd
    obtain ⟨b2, h1, h2⟩ := FR.of hd.2 h.2
    cases c with
    | c u => exact ⟨b2, ⟨[], b2, rfl, ⟨h.1.1, h.1.2, rfl⟩, h1⟩, h2⟩
    | sl e xs =>
      obtain ⟨a, n, cap, bs, h3, h4, h5⟩ := h.1
      exact ⟨bs ++ b2, ⟨bs, b2, rfl, ⟨a, n, cap, h3, h4⟩, h1⟩, fun i hi => by
        rcases List.mem_append.1 hi with hi | hi
        · exact h5 i hi
        · exact h2 i hi⟩
    | _ => cases hd.1

/-! ### Types -/
def kindT (P : Program) (T : TypeId) : Option (Option Nat) :=
  match P.underlying T, P.info? T with
  | some (.struct _), some i => some (some i.size)
  | some (.array _ _), some i => some (some i.size)
  | some _, some i => if i.size = 1 then some none else none
  | _, _ => none
theorem run_load_one {P : Program} {T : TypeId} (hk : kindT P T = some none) {w : World} {a : Addr} {v : Value} (hc : w.cell? a = some v) : (loadVar T a).run P w = .ok v w := by
  unfold kindT at hk
  split at hk <;> try cases hk
  rename_i d i h1 h2 n1 n2
  have : (isAgg T).run P w = .ok false w := by
    simp only [isAgg, Sem.run_bind, run_underlying n1, Result.andThen_ok]
    cases d <;> first | rfl | exact absurd rfl (h1 _) | exact absurd rfl (h2 _ _)
  simp only [loadVar, Sem.run_bind, this, Result.andThen_ok, Bool.false_eq_true, if_false]
  simp [load, Sem.run, hc]
theorem run_load_agg {P : Program} {T : TypeId} {n : Nat} (hk : kindT P T = some (some n)) {w : World} {a : Addr} {vs : List Value} (hl : vs.length = n) (hc : ∀ j v, vs[j]? = some v → w.cell? (a.add j) = some v) : (loadVar T a).run P w = .ok (.agg vs.toArray) w := by
  have h0 : (isAgg T).run P w = .ok true w ∧ (sizeOf T).run P w = .ok n w := by
    unfold kindT at hk
    split at hk <;> try (first | cases hk | (split at hk <;> cases hk))
    all_goals
      rename_i i h1 h2
      refine ⟨?_, ?_⟩
      · simp only [isAgg, Sem.run_bind, run_underlying h1, Result.andThen_ok]; rfl
      · simp [sizeOf, typeInfo, h2]
  simp only [loadVar, Sem.run_bind, h0.1, h0.2, Result.andThen_ok, if_true]
  rw [← hl, run_loadCells_list w a vs hc]
  rfl
def nthC : List Cell → Nat → Option Cell
  | [], _ => none
  | c :: _, 0 => some c
  | _ :: r, n + 1 => nthC r n
def drC : Nat → List Cell → Option (List Cell)
  | 0, l => some l
  | _ + 1, [] => none
  | n + 1, _ :: r => drC n r
def tkC : Nat → List Cell → Option (List Cell)
  | 0, _ => some []
  | _ + 1, [] => none
  | n + 1, c :: r => match tkC n r with | some l => some (c :: l) | none => none
theorem nthC_get : ∀ {l : List Cell} {n : Nat} {x : Cell}, nthC l n = some x → l[n]? = some x
  | [], _, _, h => by cases h
  | c :: _, 0, x, h => h
  | _ :: r, n + 1, x, h => by simpa using nthC_get (l := r) h
theorem drC_eq : ∀ {n : Nat} {l m : List Cell}, drC n l = some m → m = l.drop n
  | 0, l, m, h => by cases h; rfl
  | n + 1, [], m, h => by cases h
  | n + 1, _ :: r, m, h => by simpa using drC_eq (l := r) h
theorem tkC_eq : ∀ {n : Nat} {l m : List Cell}, tkC n l = some m → m = l.take n ∧ m.length = n
  | 0, l, m, h => by cases h; exact ⟨rfl, rfl⟩
  | n + 1, [], m, h => by cases h
  | n + 1, c :: r, m, h => by
    simp only [tkC] at h
    split at h
    · rename_i l hl
      cases h
      obtain ⟨h1, h2⟩ := tkC_eq hl
      exact ⟨by rw [h1]; rfl, by simp [h2]⟩
    · cases h
def ofCs : List Cell → AVal
  | cs => .agg cs
theorem addr_add {b o j : Nat} : (⟨b, o, none⟩ : Addr).add j = ⟨b, o + j, none⟩ := by
  unfold Addr.add; split <;> simp_all

theorem blt_lt {a b : Nat} (h : Nat.blt a b = true) : a < b := Nat.le_of_ble_eq_true h
section ops
variable {P : Program} {N : Nat} {s : St} {d : Nat} {ty : TypeId} {pos : String} {after : Array Edge} {gd : Option (Nat × Bool)}

theorem x_move {x : Operand} {X : AVal} (hN : Nat.blt d N = true) (h : evo s.t x = some X) : Stp P N ⟨some d, .move x, ty, pos, after, gd⟩ s ⟨(d, X) :: s.t, s.l⟩ ⟨rdo x X, [], [(d, X)], [], []⟩ :=
  ⟨OpOK.pure rfl (blt_lt hN) fun g s a w ht hl r => ⟨a.eval x, by simp [execOp], eval_ok r (evs_of h) ht⟩, ⟨rdo_of h, by simp, by simp⟩, rfl⟩
theorem x_assign {x : Operand} {X : AVal} (hN : Nat.blt d N = true) (h : evo s.t x = some X) : Stp P N ⟨some d, .assign x, ty, pos, after, gd⟩ s ⟨(d, X) :: s.t, s.l⟩ ⟨rdo x X, [], [(d, X)], [], []⟩ :=
  ⟨OpOK.pure rfl (blt_lt hN) fun g s a w ht hl r => ⟨a.eval x, by simp [execOp], eval_ok r (evs_of h) ht⟩, ⟨rdo_of h, by simp, by simp⟩, rfl⟩

/-- A rule for an operation that reads slots alone: what it makes of their values. -/
theorem Stp.pure {o : Oper} {rt : List (Nat × AVal)} {rl : List (Nat × Blk)} {X : AVal} (hd : o.dst = some d) (hN : Nat.blt d N = true) (h1 : ∀ p ∈ rt, lk s.t p.1 = some p.2) (h2 : ∀ p ∈ rl, lkl s.l p.1 = some p.2)
    (h : ∀ (g : Gh) (s' : St) (a : Act) (w : World), (∀ p ∈ rt, lk s'.t p.1 = some p.2) → (∀ p ∈ rl, lkl s'.l p.1 = some p.2) → Rep N g s' a w → ∃ v, (execOp a.eval o).run P w = .ok (.value v) w ∧ VR g s'.l w v X) :
    Stp P N o s ⟨(d, X) :: s.t, s.l⟩ ⟨rt, rl, [(d, X)], [], []⟩ :=
  ⟨OpOK.pure hd (blt_lt hN) h, ⟨h1, h2, by simp⟩, rfl⟩

theorem box_load {g : Gh} {l : Locs} {w : World} (m : MemR g l w) {k : Nat} {cs : List Cell} (hk : lkl l k = some (.box cs)) {n : Nat} {x : Cell} (hx : cs[n]? = some x) : ∃ v, w.cell? ⟨g.ρ k, n, none⟩ = some v ∧ CellR g l w v x := by
  obtain ⟨vs, t, h1, h2, _⟩ := m.box k cs hk
  obtain ⟨v, h3, h4⟩ := h2.get hx
  exact ⟨v, by rw [cell_of_heap h1]; simpa using h3, h4⟩
theorem box_loads {g : Gh} {l : Locs} {w : World} (m : MemR g l w) {k : Nat} {cs : List Cell} (hk : lkl l k = some (.box cs)) {off n : Nat} {xs : List Cell} (hx : xs = (cs.drop off).take n) (hl : xs.length = n) :
    ∃ vs : List Value, vs.length = n ∧ (∀ j v, vs[j]? = some v → w.cell? ((⟨g.ρ k, off, none⟩ : Addr).add j) = some v) ∧ All2 (CellR g l w) vs xs := by
  obtain ⟨us, t, h1, h2, _⟩ := m.box k cs hk
  have h3 := (h2.drop off).take n
  rw [← hx] at h3
  refine ⟨_, by rw [h3.len]; exact hl, fun j v hj => ?_, h3⟩
  rw [addr_add, cell_of_heap h1]
  rw [List.getElem?_take] at hj
  split at hj
  · simpa using hj
  · cases hj
theorem x_load1 {T : TypeId} {x : Operand} {k off : Nat} {cs : List Cell} {y : Cell} (hN : Nat.blt d N = true) (h : evo s.t x = some (.one (.ptr k off))) (hl : lkl s.l k = some (.box cs)) (hT : kindT P T = some none) (hy : nthC cs off = some y) :
    Stp P N ⟨some d, .load T x, ty, pos, after, gd⟩ s ⟨(d, .one y) :: s.t, s.l⟩ ⟨rdo x (.one (.ptr k off)), [(k, .box cs)], [(d, .one y)], [], []⟩ :=
  Stp.pure rfl hN (rdo_of h) (by simpa using hl) fun g s' a w ht hl' r => by
    have hk : lkl s'.l k = some (.box cs) := hl' (k, .box cs) (by simp)
    have hv : a.eval x = .pointer (some ⟨g.ρ k, off, none⟩) := eval_ok r (evs_of h) ht cs hk
    obtain ⟨v, h1, h2⟩ := box_load r.mem hk (nthC_get hy)
    exact ⟨v, by simp only [execOp, Instr.loadAt, hv, Instr.sureAddr, Sem.run_bind, Sem.run_pure, Result.andThen_ok, run_load_one hT h1], h2⟩
theorem x_loadN {T : TypeId} {x : Operand} {k off n : Nat} {cs cs1 ys : List Cell} (hN : Nat.blt d N = true) (h : evo s.t x = some (.one (.ptr k off))) (hl : lkl s.l k = some (.box cs)) (hT : kindT P T = some (some n)) (hd : drC off cs = some cs1) (hy : tkC n cs1 = some ys) :
    Stp P N ⟨some d, .load T x, ty, pos, after, gd⟩ s ⟨(d, .agg ys) :: s.t, s.l⟩ ⟨rdo x (.one (.ptr k off)), [(k, .box cs)], [(d, .agg ys)], [], []⟩ :=
  Stp.pure rfl hN (rdo_of h) (by simpa using hl) fun g s' a w ht hl' r => by
    have hk : lkl s'.l k = some (.box cs) := hl' (k, .box cs) (by simp)
    have hv : a.eval x = .pointer (some ⟨g.ρ k, off, none⟩) := eval_ok r (evs_of h) ht cs hk
    obtain ⟨vs, h1, h2, h3⟩ := box_loads r.mem hk (by rw [(tkC_eq hy).1, drC_eq hd]) (tkC_eq hy).2
    exact ⟨_, by simp only [execOp, Instr.loadAt, hv, Instr.sureAddr, Sem.run_bind, Sem.run_pure, Result.andThen_ok, run_load_agg hT h1 h2], ⟨vs, rfl, h3⟩⟩

theorem ep_cells {α : Type} {e : Enc α} {f : α → List Cell} [hc : CellsOf e f] {g : Gh} {l : Locs} {w : World} {x : α} {off : Nat} {v : Value} (h : CellR g l w v (.ep e x off)) :
    ∃ (gb o : Nat) (cs : List Value), v = .pointer (some ⟨gb, o + off, none⟩) ∧ All2 (CellR g l w) cs (f x) ∧ ∀ j u, cs[j]? = some u → w.cell? ⟨gb, o + j, none⟩ = some u := by
  obtain ⟨gb, o, cs, b, h1, h2, h3, h4, h5⟩ := h
  exact ⟨gb, o, cs, h1, (hc.iff.1 h3).all2 h4, h5⟩
theorem x_eload1 {α : Type} {e : Enc α} {f : α → List Cell} [hc : CellsOf e f] {T : TypeId} {x : Operand} {z : α} {off : Nat} {y : Cell} (hN : Nat.blt d N = true) (h : evo s.t x = some (.one (.ep e z off))) (hT : kindT P T = some none) (hy : nthC (f z) off = some y) :
    Stp P N ⟨some d, .load T x, ty, pos, after, gd⟩ s ⟨(d, .one y) :: s.t, s.l⟩ ⟨rdo x (.one (.ep e z off)), [], [(d, .one y)], [], []⟩ :=
  Stp.pure rfl hN (rdo_of h) (by simp) fun g s' a w ht hl' r => by
    obtain ⟨gb, o, cs, h1, h2, h3⟩ := ep_cells (eval_ok r (evs_of h) ht)
    obtain ⟨v, h4, h5⟩ := h2.get (nthC_get hy)
    exact ⟨v, by simp only [execOp, Instr.loadAt, h1, Instr.sureAddr, Sem.run_bind, Sem.run_pure, Result.andThen_ok, run_load_one hT (h3 off v h4)], h5⟩
theorem x_eloadN {α : Type} {e : Enc α} {f : α → List Cell} [hc : CellsOf e f] {T : TypeId} {x : Operand} {z : α} {off n : Nat} {cs1 ys : List Cell} (hN : Nat.blt d N = true) (h : evo s.t x = some (.one (.ep e z off))) (hT : kindT P T = some (some n)) (hd : drC off (f z) = some cs1) (hy : tkC n cs1 = some ys) :
    Stp P N ⟨some d, .load T x, ty, pos, after, gd⟩ s ⟨(d, .agg ys) :: s.t, s.l⟩ ⟨rdo x (.one (.ep e z off)), [], [(d, .agg ys)], [], []⟩ :=
  Stp.pure rfl hN (rdo_of h) (by simp) fun g s' a w ht hl' r => by
    obtain ⟨gb, o, cs, h1, h2, h3⟩ := ep_cells (eval_ok r (evs_of h) ht)
    have h4 := (h2.drop off).take n
    rw [← drC_eq hd, ← (tkC_eq hy).1] at h4
    have hrun := run_load_agg hT (w := w) (a := ⟨gb, o + off, none⟩) (vs := (cs.drop off).take n) (by rw [h4.len]; exact (tkC_eq hy).2) (fun j v hj => by
      rw [List.getElem?_take] at hj
      split at hj
      · rw [addr_add, Nat.add_assoc]; exact h3 _ v (by simpa using hj)
      · cases hj)
    exact ⟨_, by simp only [execOp, Instr.loadAt, h1, Instr.sureAddr, Sem.run_bind, Sem.run_pure, Result.andThen_ok, hrun], ⟨_, rfl, h4⟩⟩
/-- The whole element. -/
theorem x_eloadW {α : Type} {e : Enc α} {f : α → List Cell} [hc : CellsOf e f] {T : TypeId} {x : Operand} {z : α} {n : Nat} (hN : Nat.blt d N = true) (h : evo s.t x = some (.one (.ep e z 0))) (hT : kindT P T = some (some n)) (hn : (f z).length = n) :
    Stp P N ⟨some d, .load T x, ty, pos, after, gd⟩ s ⟨(d, .agg (f z)) :: s.t, s.l⟩ ⟨rdo x (.one (.ep e z 0)), [], [(d, .agg (f z))], [], []⟩ :=
  Stp.pure rfl hN (rdo_of h) (by simp) fun g s' a w ht hl' r => by
    obtain ⟨gb, o, cs, h1, h2, h3⟩ := ep_cells (eval_ok r (evs_of h) ht)
    have hrun := run_load_agg hT (w := w) (a := ⟨gb, o + 0, none⟩) (h2.len.trans hn) (fun j v hj => by rw [addr_add]; exact h3 j v hj)
    exact ⟨_, by simp only [execOp, Instr.loadAt, h1, Instr.sureAddr, Sem.run_bind, Sem.run_pure, Result.andThen_ok, hrun], ⟨_, rfl, h2⟩⟩

/-! addresses -/
def fldOff (P : Program) (S : TypeId) (j : Nat) : Option Nat :=
  match P.underlying S with
  | some (.struct fs) => match fs[j]? with | some f => (match P.info? f.type with | some i => if i.size = 0 then none else some f.offset | none => none) | none => none
  | _ => none
theorem run_fieldAt {S j off : Nat} (hf : fldOff P S j = some off) (w : World) (b o : Nat) : (Instr.fieldAt S (.pointer (some ⟨b, o, none⟩)) j).run P w = .ok (.pointer (some ⟨b, o + off, none⟩)) w := by
  unfold fldOff at hf
  split at hf
  · rename_i fs hu
    split at hf
    · rename_i f hj
      split at hf
      · rename_i i hi
        split at hf
        · cases hf
        · rename_i hz
          cases hf
          simp [Instr.fieldAt, run_underlying hu, hj, Instr.sureAddr, fieldPlace, sizeOf, typeInfo, hi, hz, addr_add]
      · cases hf
    · cases hf
  · cases hf
theorem x_field {S j off k o o' : Nat} {x : Operand} {cs : List Cell} (hN : Nat.blt d N = true) (h : evo s.t x = some (.one (.ptr k o))) (hl : lkl s.l k = some (.box cs)) (hf : fldOff P S j = some off) (ho : Nat.add o off = o') :
    Stp P N ⟨some d, .fieldAddr S x j, ty, pos, after, gd⟩ s ⟨(d, .one (.ptr k o')) :: s.t, s.l⟩ ⟨rdo x (.one (.ptr k o)), [(k, .box cs)], [(d, .one (.ptr k o'))], [], []⟩ :=
  Stp.pure rfl hN (rdo_of h) (by simpa using hl) fun g s' a w ht hl' r => by
    have hk : lkl s'.l k = some (.box cs) := hl' (k, .box cs) (by simp)
    have hv : a.eval x = .pointer (some ⟨g.ρ k, o, none⟩) := eval_ok r (evs_of h) ht cs hk
    obtain rfl : o' = o + off := ho.symm
    have hrun := run_fieldAt hf w (g.ρ k) o
    exact ⟨_, by simp only [execOp, hv, Sem.run_bind, Sem.run_pure, Result.andThen_ok, hrun], fun _ _ => rfl⟩
theorem x_efield {α : Type} {e : Enc α} {z : α} {S j off o o' : Nat} {x : Operand} (hN : Nat.blt d N = true) (h : evo s.t x = some (.one (.ep e z o))) (hf : fldOff P S j = some off) (ho : Nat.add o off = o') :
    Stp P N ⟨some d, .fieldAddr S x j, ty, pos, after, gd⟩ s ⟨(d, .one (.ep e z o')) :: s.t, s.l⟩ ⟨rdo x (.one (.ep e z o)), [], [(d, .one (.ep e z o'))], [], []⟩ :=
  Stp.pure rfl hN (rdo_of h) (by simp) fun g s' a w ht hl' r => by
    obtain ⟨gb, q, cs, b, h1, h2, h3, h4, h5⟩ : CellR g s'.l w (a.eval x) (.ep e z o) := eval_ok r (evs_of h) ht
    obtain rfl : o' = o + off := ho.symm
    have hrun := run_fieldAt hf w gb (q + o)
    exact ⟨.pointer (some ⟨gb, q + o + off, none⟩), by simp only [execOp, h1, Sem.run_bind, Sem.run_pure, Result.andThen_ok, hrun], gb, q, cs, b, by rw [Nat.add_assoc], h2, h3, h4, h5⟩
theorem x_ofield {S j off k i o o' : Nat} {x : Operand} {α : Type} {T : TypeId} {e : Enc α} {xs : List α} {dp : Bool} (hN : Nat.blt d N = true) (h : evo s.t x = some (.one (.optr k i o))) (hl : lkl s.l k = some (.arr T e xs dp)) (hf : fldOff P S j = some off) (ho : Nat.add o off = o') :
    Stp P N ⟨some d, .fieldAddr S x j, ty, pos, after, gd⟩ s ⟨(d, .one (.optr k i o')) :: s.t, s.l⟩ ⟨rdo x (.one (.optr k i o)), [(k, .arr T e xs dp)], [(d, .one (.optr k i o'))], [], []⟩ :=
  Stp.pure rfl hN (rdo_of h) (by simpa using hl) fun g s' a w ht hl' r => by
    have hk : lkl s'.l k = some (.arr T e xs dp) := hl' (k, .arr T e xs dp) (by simp)
    have hv : a.eval x = .pointer (some ⟨g.ρ k, i * e.size + o, none⟩) := eval_ok r (evs_of h) ht _ _ _ _ _ hk
    obtain rfl : o' = o + off := ho.symm
    have hrun := run_fieldAt hf w (g.ρ k) (i * e.size + o)
    refine ⟨.pointer (some ⟨g.ρ k, i * e.size + o + off, none⟩), by simp only [execOp, hv, Sem.run_bind, Sem.run_pure, Result.andThen_ok, hrun], fun β U f ys dq hq => ?_⟩
    rw [hk] at hq; cases hq
    rw [Nat.add_assoc]
/-! elements -/
def sliceT (P : Program) (T : TypeId) : Option (TypeId × Nat) :=
  match P.underlying T with
  | some (.slice e) => match P.info? e with | some i => some (e, i.size) | none => none
  | _ => none
theorem sliceT_spec {T E n : Nat} (h : sliceT P T = some (E, n)) : P.underlying T = some (.slice E) ∧ ∃ i, P.info? E = some i ∧ i.size = n := by
  unfold sliceT at h
  split at h
  · rename_i e hu
    split at h
    · rename_i i hi; cases h; exact ⟨hu, i, hi, rfl⟩
    · cases h
  · cases h
theorem run_indexAt {T E n : Nat} (hT : sliceT P T = some (E, n)) (w : World) (b o len cap i : Nat) (ik : IntKind) (hi : i < len) : (Instr.indexAt T (.slice (some ⟨b, o, none⟩) len cap) (.int ik (i : Int))).run P w = .ok (.pointer (some ⟨b, o + i * n, none⟩)) w := by
  obtain ⟨hu, ii, hii, hn⟩ := sliceT_spec hT
  subst hn
  have h1 : (0 : Int) ≤ (i : Int) ∧ (i : Int) < (len : Int) := by omega
  simp [Instr.indexAt, asIntOf, run_underlying hu, h1, sizeOf, typeInfo, hii, addr_add, hi]
theorem x_index {α : Type} {e : Enc α} {xs : List α} {T E n : Nat} {x ix : Operand} {ik : IntKind} {v : Int} {k : Nat} (hN : Nat.blt d N = true) (h : evo s.t x = some (.one (.sl e xs))) (h2 : evo s.t ix = some (.one (.c (.int ik v)))) (hT : sliceT P T = some (E, n)) (hz : e.size = n) (hv : v = (k : Int)) (hk : k < xs.length) :
    Stp P N ⟨some d, .indexAddr T x ix, ty, pos, after, gd⟩ s ⟨(d, .one (.ep e (xs[k]'hk) 0)) :: s.t, s.l⟩ ⟨rdo x (.one (.sl e xs)) ++ rdo ix (.one (.c (.int ik v))), [], [(d, .one (.ep e (xs[k]'hk) 0))], [], []⟩ :=
  Stp.pure rfl hN (fun p hp => by rcases List.mem_append.1 hp with hp | hp; exact rdo_of h p hp; exact rdo_of h2 p hp) (by simp) fun g s' a w ht hl' r => by
    obtain ⟨ad, m, cap, bs, e1, e2, e3⟩ : CellR g s'.l w (a.eval x) (.sl e xs) := eval_ok r (evs_of h) fun p hp => ht p (List.mem_append_left _ hp)
    have e4 : a.eval ix = .int ik v := (eval_ok r (evs_of h2) fun p hp => ht p (List.mem_append_right _ hp) : CellR g s'.l w _ (.c (.int ik v))).1
    obtain ⟨gb, o, cs, b, rfl, f1, f2, f3, f4⟩ := e2.get hk
    subst hv; subst hz
    have hrun := run_indexAt hT w gb o m cap k ik (by rw [e2.1]; exact hk)
    exact ⟨.pointer (some ⟨gb, o + k * e.size, none⟩), by simp only [execOp, e1, e4, Sem.run_bind, Sem.run_pure, Result.andThen_ok, hrun], gb, o + k * e.size, cs, b, rfl, e3 gb f4, f1, fun c hc => e3 c (f3 c hc), f2⟩
theorem x_oindex {α : Type} {e : Enc α} {xs : List α} {dp : Bool} {T E n K : Nat} {x ix : Operand} {ik : IntKind} {v : Int} {k : Nat} (hN : Nat.blt d N = true) (h : evo s.t x = some (.one (.own K))) (hl : lkl s.l K = some (.arr E e xs dp)) (h2 : evo s.t ix = some (.one (.c (.int ik v)))) (hT : sliceT P T = some (E, n)) (hz : e.size = n) (hv : v = (k : Int)) (hk : k < xs.length) :
    Stp P N ⟨some d, .indexAddr T x ix, ty, pos, after, gd⟩ s ⟨(d, .one (.optr K k 0)) :: s.t, s.l⟩ ⟨rdo x (.one (.own K)) ++ rdo ix (.one (.c (.int ik v))), [(K, .arr E e xs dp)], [(d, .one (.optr K k 0))], [], []⟩ :=
  Stp.pure rfl hN (fun p hp => by rcases List.mem_append.1 hp with hp | hp; exact rdo_of h p hp; exact rdo_of h2 p hp) (by simpa using hl) fun g s' a w ht hl' r => by
    have hK : lkl s'.l K = some (.arr E e xs dp) := hl' (K, .arr E e xs dp) (by simp)
    have e1 : a.eval x = g.hd K := (eval_ok r (evs_of h) fun p hp => ht p (List.mem_append_left _ hp) : CellR g s'.l w _ (.own K)) _ _ _ _ _ hK
    have e4 : a.eval ix = .int ik v := (eval_ok r (evs_of h2) fun p hp => ht p (List.mem_append_right _ hp) : CellR g s'.l w _ (.c (.int ik v))).1
    rcases r.mem.arr K α E e xs dp hK with ⟨f1, _, _⟩ | ⟨cap, vs, bss, f1, _⟩
    · subst f1; simp at hk
    · subst hv; subst hz
      have hrun := run_indexAt hT w (g.ρ K) 0 xs.length cap k ik hk
      refine ⟨.pointer (some ⟨g.ρ K, 0 + k * e.size, none⟩), by simp only [execOp, e1, f1, e4, Sem.run_bind, Sem.run_pure, Result.andThen_ok, hrun], fun β U f ys dq hq => ?_⟩
      rw [hK] at hq; cases hq
      simp
/-! builtin functions -/
theorem run_builtin {o : Oper} {b : Builtin} {as : Array Operand} {ats : Array TypeId} {a : Act} {w : World} {v : Value} (ho : o.op = .call { callee := .builtin b, args := as, argTypes := ats })
    (h : (builtin b ats o.type (as.map fun | .const _ => true | _ => false) (as.map a.eval)).run P w = .ok (.value v) w) : (execOp a.eval o).run P w = .ok (.value v) w := by
  unfold execOp
  simp only [ho, resolve, invoke, Sem.run_bind, Sem.run_pure, Result.andThen_ok]
  exact h
theorem wf_len {n : Nat} (h : n ≤ maxLen) : (Lit.int .i64 (n : Int)).wf = true := by
  unfold maxLen at h
  refine WalkArith.wf_i64 ?_
  omega
theorem x_len {α : Type} {e : Enc α} {xs : List α} {T E n : Nat} {x : Operand} (hN : Nat.blt d N = true) (h : evo s.t x = some (.one (.sl e xs))) (hT : sliceT P T = some (E, n)) :
    Stp P N ⟨some d, .call { callee := .builtin .len, args := #[x], argTypes := #[T] }, ty, pos, after, gd⟩ s ⟨(d, .one (.c (.int .i64 (xs.length : Int)))) :: s.t, s.l⟩ ⟨rdo x (.one (.sl e xs)), [], [(d, .one (.c (.int .i64 (xs.length : Int))))], [], []⟩ :=
  Stp.pure rfl hN (rdo_of h) (by simp) fun g s' a w ht hl' r => by
    obtain ⟨ad, m, cap, bs, e1, e2, e3⟩ : CellR g s'.l w (a.eval x) (.sl e xs) := eval_ok r (evs_of h) ht
    refine ⟨_, run_builtin rfl (v := .int .i64 (xs.length : Int)) ?_, rfl, wf_len (by rw [← e2.1]; exact Nat.le_trans e2.2.1 e2.2.2.1)⟩
    simp [builtin, Builtin.len_, run_underlying (sliceT_spec hT).1, e1, goInt, e2.1]
theorem x_olen {α : Type} {e : Enc α} {xs : List α} {dp : Bool} {T E n K : Nat} {x : Operand} (hN : Nat.blt d N = true) (h : evo s.t x = some (.one (.own K))) (hl : lkl s.l K = some (.arr E e xs dp)) (hT : sliceT P T = some (E, n)) :
    Stp P N ⟨some d, .call { callee := .builtin .len, args := #[x], argTypes := #[T] }, ty, pos, after, gd⟩ s ⟨(d, .one (.c (.int .i64 (xs.length : Int)))) :: s.t, s.l⟩ ⟨rdo x (.one (.own K)), [(K, .arr E e xs dp)], [(d, .one (.c (.int .i64 (xs.length : Int))))], [], []⟩ :=
  Stp.pure rfl hN (rdo_of h) (by simpa using hl) fun g s' a w ht hl' r => by
    have hK : lkl s'.l K = some (.arr E e xs dp) := hl' (K, .arr E e xs dp) (by simp)
    have e1 : a.eval x = g.hd K := (eval_ok r (evs_of h) ht : CellR g s'.l w _ (.own K)) _ _ _ _ _ hK
    rcases r.mem.arr K α E e xs dp hK with ⟨f1, f2, _⟩ | ⟨cap, vs, bss, f1, f2, f3, _⟩
    · subst f1
      refine ⟨_, run_builtin rfl (v := .int .i64 0) ?_, rfl, rfl⟩
      simp [builtin, Builtin.len_, run_underlying (sliceT_spec hT).1, e1, f2, goInt]
    · refine ⟨_, run_builtin rfl (v := .int .i64 (xs.length : Int)) ?_, rfl, wf_len (Nat.le_trans f2 f3)⟩
      simp [builtin, Builtin.len_, run_underlying (sliceT_spec hT).1, e1, f1, goInt]
theorem x_lens {T : Nat} {x : Operand} {b : ByteArray} (hN : Nat.blt d N = true) (h : evo s.t x = some (.one (.c (.string b)))) (hT : P.underlying T = some .string) :
    Stp P N ⟨some d, .call { callee := .builtin .len, args := #[x], argTypes := #[T] }, ty, pos, after, gd⟩ s ⟨(d, .one (.c (.int .i64 (b.size : Int)))) :: s.t, s.l⟩ ⟨rdo x (.one (.c (.string b))), [], [(d, .one (.c (.int .i64 (b.size : Int))))], [], []⟩ :=
  Stp.pure rfl hN (rdo_of h) (by simp) fun g s' a w ht hl' r => by
    obtain ⟨e1, e2⟩ : a.eval x = .string b ∧ b.size ≤ maxLen := eval_ok r (evs_of h) ht
    refine ⟨_, run_builtin rfl (v := .int .i64 (b.size : Int)) ?_, rfl, wf_len e2⟩
    simp [builtin, Builtin.len_, run_underlying hT, e1, goInt]
/-! numbers -/
theorem two_c {g : Gh} {s' : St} {a : Act} {w : World} {x y : Operand} {u v : Value} (r : Rep N g s' a w) (hx : Evs x (.one (.c u))) (hy : Evs y (.one (.c v))) (ht : ∀ p ∈ rdo x (.one (.c u)) ++ rdo y (.one (.c v)), lk s'.t p.1 = some p.2) : (a.eval x = u ∧ wfV u) ∧ a.eval y = v ∧ wfV v :=
  ⟨eval_ok r hx fun p hp => ht p (List.mem_append_left _ hp), eval_ok r hy fun p hp => ht p (List.mem_append_right _ hp)⟩
theorem two_rd {x y : Operand} {X Y : AVal} (h : evo s.t x = some X) (h2 : evo s.t y = some Y) : ∀ p ∈ rdo x X ++ rdo y Y, lk s.t p.1 = some p.2 := fun p hp => by
  rcases List.mem_append.1 hp with hp | hp
  · exact rdo_of h p hp
  · exact rdo_of h2 p hp
theorem run_binOp {o : Oper} {op : BinOp} {T T' : TypeId} {x y : Operand} {a : Act} {w : World} {v : Value} (ho : o.op = .binOp op T x y T') (h : ((do eqGuard op T x y (a.eval x) (a.eval y); binOp op T (a.eval x) (a.eval y)) : Sem Value).run P w = .ok v w) : (execOp a.eval o).run P w = .ok (.value v) w := by
  unfold execOp
  simp only [ho]
  simp only [Sem.run_bind] at h ⊢
  rw [h]; rfl
theorem guard_int {op : BinOp} {T : TypeId} {x y : Operand} {k k' : IntKind} {m n : Int} {w : World} : (eqGuard op T x y (.int k m) (.int k' n)).run P w = .ok () w := by
  cases op <;> rfl
theorem guard_str {op : BinOp} {T : TypeId} {x y : Operand} {m n : ByteArray} {w : World} : (eqGuard op T x y (.string m) (.string n)).run P w = .ok () w := by
  cases op <;> rfl
theorem guard_bool {op : BinOp} {T : TypeId} {x y : Operand} {m n : Bool} {w : World} : (eqGuard op T x y (.bool m) (.bool n)).run P w = .ok () w := by
  cases op <;> rfl
/-- An operation on two numbers of one kind. -/
theorem x_int2 {op : BinOp} {T T' : TypeId} {x y : Operand} {k : IntKind} {m n : Int} {v : Value} (hN : Nat.blt d N = true) (h : evo s.t x = some (.one (.c (.int k m)))) (h2 : evo s.t y = some (.one (.c (.int k n))))
    (hr : ∀ w, (binOp op T (.int k m) (.int k n)).run P w = .ok v w) (hw : wfV (.int k m) → wfV (.int k n) → wfV v) :
    Stp P N ⟨some d, .binOp op T x y T', ty, pos, after, gd⟩ s ⟨(d, .one (.c v)) :: s.t, s.l⟩ ⟨rdo x (.one (.c (.int k m))) ++ rdo y (.one (.c (.int k n))), [], [(d, .one (.c v))], [], []⟩ :=
  Stp.pure rfl hN (two_rd h h2) (by simp) fun g s' a w ht hl' r => by
    obtain ⟨⟨e1, w1⟩, e2, w2⟩ := two_c r (evs_of h) (evs_of h2) ht
    refine ⟨v, run_binOp rfl ?_, rfl, hw w1 w2⟩
    rw [e1, e2]
    simp only [Sem.run_bind, guard_int, Result.andThen_ok, hr]
theorem x_lss {T T' : TypeId} {x y : Operand} {k : IntKind} {m n : Int} (hN : Nat.blt d N = true) (h : evo s.t x = some (.one (.c (.int k m)))) (h2 : evo s.t y = some (.one (.c (.int k n)))) :
    Stp P N ⟨some d, .binOp .lss T x y T', ty, pos, after, gd⟩ s ⟨(d, .one (.c (.bool (decide (m < n))))) :: s.t, s.l⟩ ⟨rdo x (.one (.c (.int k m))) ++ rdo y (.one (.c (.int k n))), [], [(d, .one (.c (.bool (decide (m < n)))))], [], []⟩ :=
  x_int2 hN h h2 (fun w => by simp [binOp, Op.intCmp]) (fun _ _ => trivial)
theorem x_leq {T T' : TypeId} {x y : Operand} {k : IntKind} {m n : Int} (hN : Nat.blt d N = true) (h : evo s.t x = some (.one (.c (.int k m)))) (h2 : evo s.t y = some (.one (.c (.int k n)))) :
    Stp P N ⟨some d, .binOp .leq T x y T', ty, pos, after, gd⟩ s ⟨(d, .one (.c (.bool (decide (m ≤ n))))) :: s.t, s.l⟩ ⟨rdo x (.one (.c (.int k m))) ++ rdo y (.one (.c (.int k n))), [], [(d, .one (.c (.bool (decide (m ≤ n)))))], [], []⟩ :=
  x_int2 hN h h2 (fun w => by simp [binOp, Op.intCmp]) (fun _ _ => trivial)
theorem x_gtr {T T' : TypeId} {x y : Operand} {k : IntKind} {m n : Int} (hN : Nat.blt d N = true) (h : evo s.t x = some (.one (.c (.int k m)))) (h2 : evo s.t y = some (.one (.c (.int k n)))) :
    Stp P N ⟨some d, .binOp .gtr T x y T', ty, pos, after, gd⟩ s ⟨(d, .one (.c (.bool (decide (m > n))))) :: s.t, s.l⟩ ⟨rdo x (.one (.c (.int k m))) ++ rdo y (.one (.c (.int k n))), [], [(d, .one (.c (.bool (decide (m > n)))))], [], []⟩ :=
  x_int2 hN h h2 (fun w => by simp [binOp, Op.intCmp]) (fun _ _ => trivial)
theorem x_geq {T T' : TypeId} {x y : Operand} {k : IntKind} {m n : Int} (hN : Nat.blt d N = true) (h : evo s.t x = some (.one (.c (.int k m)))) (h2 : evo s.t y = some (.one (.c (.int k n)))) :
    Stp P N ⟨some d, .binOp .geq T x y T', ty, pos, after, gd⟩ s ⟨(d, .one (.c (.bool (decide (m ≥ n))))) :: s.t, s.l⟩ ⟨rdo x (.one (.c (.int k m))) ++ rdo y (.one (.c (.int k n))), [], [(d, .one (.c (.bool (decide (m ≥ n)))))], [], []⟩ :=
  x_int2 hN h h2 (fun w => by simp [binOp, Op.intCmp]) (fun _ _ => trivial)
theorem x_eql {T T' : TypeId} {x y : Operand} {k : IntKind} {m n : Int} (hN : Nat.blt d N = true) (h : evo s.t x = some (.one (.c (.int k m)))) (h2 : evo s.t y = some (.one (.c (.int k n)))) :
    Stp P N ⟨some d, .binOp .eql T x y T', ty, pos, after, gd⟩ s ⟨(d, .one (.c (.bool (m == n)))) :: s.t, s.l⟩ ⟨rdo x (.one (.c (.int k m))) ++ rdo y (.one (.c (.int k n))), [], [(d, .one (.c (.bool (m == n))))], [], []⟩ :=
  x_int2 hN h h2 (fun w => by simp [binOp, Op.intCmp]) (fun _ _ => trivial)
theorem x_neq {T T' : TypeId} {x y : Operand} {k : IntKind} {m n : Int} (hN : Nat.blt d N = true) (h : evo s.t x = some (.one (.c (.int k m)))) (h2 : evo s.t y = some (.one (.c (.int k n)))) :
    Stp P N ⟨some d, .binOp .neq T x y T', ty, pos, after, gd⟩ s ⟨(d, .one (.c (.bool (m != n)))) :: s.t, s.l⟩ ⟨rdo x (.one (.c (.int k m))) ++ rdo y (.one (.c (.int k n))), [], [(d, .one (.c (.bool (m != n))))], [], []⟩ :=
  x_int2 hN h h2 (fun w => by simp [binOp, Op.intCmp]) (fun _ _ => trivial)
theorem x_add {T T' : TypeId} {x y : Operand} {k : IntKind} {m n r : Int} (hN : Nat.blt d N = true) (h : evo s.t x = some (.one (.c (.int k m)))) (h2 : evo s.t y = some (.one (.c (.int k n)))) (hr : k.wrap (m + n) = r) :
    Stp P N ⟨some d, .binOp .add T x y T', ty, pos, after, gd⟩ s ⟨(d, .one (.c (.int k r))) :: s.t, s.l⟩ ⟨rdo x (.one (.c (.int k m))) ++ rdo y (.one (.c (.int k n))), [], [(d, .one (.c (.int k r)))], [], []⟩ :=
  x_int2 hN h h2 (fun w => by rw [← hr]; simp [binOp, Op.intArith]) (fun _ _ => by rw [← hr]; exact wf_wrap k _)
theorem x_sub {T T' : TypeId} {x y : Operand} {k : IntKind} {m n r : Int} (hN : Nat.blt d N = true) (h : evo s.t x = some (.one (.c (.int k m)))) (h2 : evo s.t y = some (.one (.c (.int k n)))) (hr : k.wrap (m - n) = r) :
    Stp P N ⟨some d, .binOp .sub T x y T', ty, pos, after, gd⟩ s ⟨(d, .one (.c (.int k r))) :: s.t, s.l⟩ ⟨rdo x (.one (.c (.int k m))) ++ rdo y (.one (.c (.int k n))), [], [(d, .one (.c (.int k r)))], [], []⟩ :=
  x_int2 hN h h2 (fun w => by rw [← hr]; simp [binOp, Op.intArith]) (fun _ _ => by rw [← hr]; exact wf_wrap k _)
theorem x_mul {T T' : TypeId} {x y : Operand} {k : IntKind} {m n r : Int} (hN : Nat.blt d N = true) (h : evo s.t x = some (.one (.c (.int k m)))) (h2 : evo s.t y = some (.one (.c (.int k n)))) (hr : k.wrap (m * n) = r) :
    Stp P N ⟨some d, .binOp .mul T x y T', ty, pos, after, gd⟩ s ⟨(d, .one (.c (.int k r))) :: s.t, s.l⟩ ⟨rdo x (.one (.c (.int k m))) ++ rdo y (.one (.c (.int k n))), [], [(d, .one (.c (.int k r)))], [], []⟩ :=
  x_int2 hN h h2 (fun w => by rw [← hr]; simp [binOp, Op.intArith]) (fun _ _ => by rw [← hr]; exact wf_wrap k _)
theorem x_quo {T T' : TypeId} {x y : Operand} {k : IntKind} {m n r : Int} (hN : Nat.blt d N = true) (h : evo s.t x = some (.one (.c (.int k m)))) (h2 : evo s.t y = some (.one (.c (.int k n)))) (h0 : n ≠ 0) (hr : k.wrap (m.tdiv n) = r) :
    Stp P N ⟨some d, .binOp .quo T x y T', ty, pos, after, gd⟩ s ⟨(d, .one (.c (.int k r))) :: s.t, s.l⟩ ⟨rdo x (.one (.c (.int k m))) ++ rdo y (.one (.c (.int k n))), [], [(d, .one (.c (.int k r)))], [], []⟩ :=
  x_int2 hN h h2 (fun w => by rw [← hr]; simp [binOp, Op.intDiv, h0]) (fun _ _ => by rw [← hr]; exact wf_wrap k _)
theorem x_rem {T T' : TypeId} {x y : Operand} {k : IntKind} {m n r : Int} (hN : Nat.blt d N = true) (h : evo s.t x = some (.one (.c (.int k m)))) (h2 : evo s.t y = some (.one (.c (.int k n)))) (h0 : n ≠ 0) (hr : m.tmod n = r) (hw : (Lit.int k r).wf = true) :
    Stp P N ⟨some d, .binOp .rem T x y T', ty, pos, after, gd⟩ s ⟨(d, .one (.c (.int k r))) :: s.t, s.l⟩ ⟨rdo x (.one (.c (.int k m))) ++ rdo y (.one (.c (.int k n))), [], [(d, .one (.c (.int k r)))], [], []⟩ :=
  x_int2 hN h h2 (fun w => by rw [← hr]; simp [binOp, Op.intDiv, h0]) (fun _ _ => hw)
/-! texts -/
theorem x_str2 {op : BinOp} {T T' : TypeId} {x y : Operand} {m n : ByteArray} {v : Value} (hN : Nat.blt d N = true) (h : evo s.t x = some (.one (.c (.string m)))) (h2 : evo s.t y = some (.one (.c (.string n))))
    (hr : ∀ w, (binOp op T (.string m) (.string n)).run P w = .ok v w) (hw : wfV v) :
    Stp P N ⟨some d, .binOp op T x y T', ty, pos, after, gd⟩ s ⟨(d, .one (.c v)) :: s.t, s.l⟩ ⟨rdo x (.one (.c (.string m))) ++ rdo y (.one (.c (.string n))), [], [(d, .one (.c v))], [], []⟩ :=
  Stp.pure rfl hN (two_rd h h2) (by simp) fun g s' a w ht hl' r => by
    obtain ⟨⟨e1, w1⟩, e2, w2⟩ := two_c r (evs_of h) (evs_of h2) ht
    refine ⟨v, run_binOp rfl ?_, rfl, hw⟩
    rw [e1, e2]
    simp only [Sem.run_bind, guard_str, Result.andThen_ok, hr]
theorem x_seql {T T' : TypeId} {x y : Operand} {m n : ByteArray} (hN : Nat.blt d N = true) (h : evo s.t x = some (.one (.c (.string m)))) (h2 : evo s.t y = some (.one (.c (.string n)))) :
    Stp P N ⟨some d, .binOp .eql T x y T', ty, pos, after, gd⟩ s ⟨(d, .one (.c (.bool (m == n)))) :: s.t, s.l⟩ ⟨rdo x (.one (.c (.string m))) ++ rdo y (.one (.c (.string n))), [], [(d, .one (.c (.bool (m == n))))], [], []⟩ :=
  x_str2 hN h h2 (fun w => by rw [beq_toListBytes]; simp [binOp, Op.stringOp]) trivial
theorem x_sneq {T T' : TypeId} {x y : Operand} {m n : ByteArray} (hN : Nat.blt d N = true) (h : evo s.t x = some (.one (.c (.string m)))) (h2 : evo s.t y = some (.one (.c (.string n)))) :
    Stp P N ⟨some d, .binOp .neq T x y T', ty, pos, after, gd⟩ s ⟨(d, .one (.c (.bool (!(m == n))))) :: s.t, s.l⟩ ⟨rdo x (.one (.c (.string m))) ++ rdo y (.one (.c (.string n))), [], [(d, .one (.c (.bool (!(m == n)))))], [], []⟩ :=
  x_str2 hN h h2 (fun w => by rw [beq_toListBytes]; simp [binOp, Op.stringOp]) trivial
theorem x_slss {T T' : TypeId} {x y : Operand} {m n : ByteArray} (hN : Nat.blt d N = true) (h : evo s.t x = some (.one (.c (.string m)))) (h2 : evo s.t y = some (.one (.c (.string n)))) :
    Stp P N ⟨some d, .binOp .lss T x y T', ty, pos, after, gd⟩ s ⟨(d, .one (.c (.bool (Op.bytesLess m.toList n.toList)))) :: s.t, s.l⟩ ⟨rdo x (.one (.c (.string m))) ++ rdo y (.one (.c (.string n))), [], [(d, .one (.c (.bool (Op.bytesLess m.toList n.toList))))], [], []⟩ :=
  x_str2 hN h h2 (fun w => by simp [binOp, Op.stringOp]) trivial
theorem x_sgeq {T T' : TypeId} {x y : Operand} {m n : ByteArray} (hN : Nat.blt d N = true) (h : evo s.t x = some (.one (.c (.string m)))) (h2 : evo s.t y = some (.one (.c (.string n)))) :
    Stp P N ⟨some d, .binOp .geq T x y T', ty, pos, after, gd⟩ s ⟨(d, .one (.c (.bool (!Op.bytesLess m.toList n.toList)))) :: s.t, s.l⟩ ⟨rdo x (.one (.c (.string m))) ++ rdo y (.one (.c (.string n))), [], [(d, .one (.c (.bool (!Op.bytesLess m.toList n.toList))))], [], []⟩ :=
  x_str2 hN h h2 (fun w => by simp [binOp, Op.stringOp]) trivial
theorem x_sleq {T T' : TypeId} {x y : Operand} {m n : ByteArray} (hN : Nat.blt d N = true) (h : evo s.t x = some (.one (.c (.string m)))) (h2 : evo s.t y = some (.one (.c (.string n)))) :
    Stp P N ⟨some d, .binOp .leq T x y T', ty, pos, after, gd⟩ s ⟨(d, .one (.c (.bool (Op.bytesLess m.toList n.toList || m == n)))) :: s.t, s.l⟩ ⟨rdo x (.one (.c (.string m))) ++ rdo y (.one (.c (.string n))), [], [(d, .one (.c (.bool (Op.bytesLess m.toList n.toList || m == n))))], [], []⟩ :=
  x_str2 hN h h2 (fun w => by rw [beq_toListBytes]; simp [binOp, Op.stringOp]) trivial
theorem x_sgtr {T T' : TypeId} {x y : Operand} {m n : ByteArray} (hN : Nat.blt d N = true) (h : evo s.t x = some (.one (.c (.string m)))) (h2 : evo s.t y = some (.one (.c (.string n)))) :
    Stp P N ⟨some d, .binOp .gtr T x y T', ty, pos, after, gd⟩ s ⟨(d, .one (.c (.bool (!(Op.bytesLess m.toList n.toList || m == n))))) :: s.t, s.l⟩ ⟨rdo x (.one (.c (.string m))) ++ rdo y (.one (.c (.string n))), [], [(d, .one (.c (.bool (!(Op.bytesLess m.toList n.toList || m == n)))))], [], []⟩ :=
  x_str2 hN h h2 (fun w => by rw [beq_toListBytes]; simp [binOp, Op.stringOp]) trivial
theorem x_sadd {T T' : TypeId} {x y : Operand} {m n : ByteArray} (hN : Nat.blt d N = true) (h : evo s.t x = some (.one (.c (.string m)))) (h2 : evo s.t y = some (.one (.c (.string n)))) (hs : m.size + n.size ≤ 1000000000) :
    Stp P N ⟨some d, .binOp .add T x y T', ty, pos, after, gd⟩ s ⟨(d, .one (.c (.string (m ++ n)))) :: s.t, s.l⟩ ⟨rdo x (.one (.c (.string m))) ++ rdo y (.one (.c (.string n))), [], [(d, .one (.c (.string (m ++ n))))], [], []⟩ :=
  x_str2 hN h h2 (fun w => by
    have : ¬ ((m.size + n.size : Nat) : Int) > IntKind.i64.max := by simp [IntKind.max, IntKind.signed, IntKind.bits]; omega
    simp only [binOp, Op.stringOp, this, if_false]; rfl) (by show (m ++ n).size ≤ maxLen; rw [ByteArray.size_append]; unfold maxLen; omega)
/-! truth values -/
theorem x_not {T : TypeId} {x : Operand} {b : Bool} (hN : Nat.blt d N = true) (h : evo s.t x = some (.one (.c (.bool b)))) :
    Stp P N ⟨some d, .unOp .not T x, ty, pos, after, gd⟩ s ⟨(d, .one (.c (.bool (!b)))) :: s.t, s.l⟩ ⟨rdo x (.one (.c (.bool b))), [], [(d, .one (.c (.bool (!b))))], [], []⟩ :=
  Stp.pure rfl hN (rdo_of h) (by simp) fun g s' a w ht hl' r => by
    obtain ⟨e1, _⟩ : a.eval x = .bool b ∧ wfV (.bool b) := eval_ok r (evs_of h) ht
    exact ⟨.bool (!b), by simp [execOp, e1, Op.unary], rfl, trivial⟩
theorem x_pickT {c x y : Operand} {X : AVal} (hN : Nat.blt d N = true) (h : evo s.t c = some (.one (.c (.bool true)))) (h2 : evo s.t x = some X) :
    Stp P N ⟨some d, .pick c x y, ty, pos, after, gd⟩ s ⟨(d, X) :: s.t, s.l⟩ ⟨rdo c (.one (.c (.bool true))) ++ rdo x X, [], [(d, X)], [], []⟩ :=
  Stp.pure rfl hN (two_rd h h2) (by simp) fun g s' a w ht hl' r => by
    obtain ⟨e1, _⟩ : a.eval c = .bool true ∧ wfV (.bool true) := eval_ok r (evs_of h) fun p hp => ht p (List.mem_append_left _ hp)
    exact ⟨a.eval x, by simp [execOp, e1, asBool], eval_ok r (evs_of h2) fun p hp => ht p (List.mem_append_right _ hp)⟩
theorem x_pickF {c x y : Operand} {X : AVal} (hN : Nat.blt d N = true) (h : evo s.t c = some (.one (.c (.bool false)))) (h2 : evo s.t y = some X) :
    Stp P N ⟨some d, .pick c x y, ty, pos, after, gd⟩ s ⟨(d, X) :: s.t, s.l⟩ ⟨rdo c (.one (.c (.bool false))) ++ rdo y X, [], [(d, X)], [], []⟩ :=
  Stp.pure rfl hN (two_rd h h2) (by simp) fun g s' a w ht hl' r => by
    obtain ⟨e1, _⟩ : a.eval c = .bool false ∧ wfV (.bool false) := eval_ok r (evs_of h) fun p hp => ht p (List.mem_append_left _ hp)
    exact ⟨a.eval y, by simp [execOp, e1, asBool], eval_ok r (evs_of h2) fun p hp => ht p (List.mem_append_right _ hp)⟩
def nthV : List AVal → Nat → Option AVal
  | [], _ => none
  | c :: _, 0 => some c
  | _ :: r, n + 1 => nthV r n
theorem nthV_get : ∀ {l : List AVal} {n : Nat} {x : AVal}, nthV l n = some x → l[n]? = some x
  | [], _, _, h => by cases h
  | c :: _, 0, x, h => h
  | _ :: r, n + 1, x, h => by simpa using nthV_get (l := r) h
theorem x_extract {x : Operand} {xs : List AVal} {i : Nat} {X : AVal} (hN : Nat.blt d N = true) (h : evo s.t x = some (.tup xs)) (hx : nthV xs i = some X) :
    Stp P N ⟨some d, .extract x i, ty, pos, after, gd⟩ s ⟨(d, X) :: s.t, s.l⟩ ⟨rdo x (.tup xs), [], [(d, X)], [], []⟩ :=
  Stp.pure rfl hN (rdo_of h) (by simp) fun g s' a w ht hl' r => by
    obtain ⟨vs, e1, e2⟩ : VR g s'.l w (a.eval x) (.tup xs) := eval_ok r (evs_of h) ht
    obtain ⟨v, e3, e4⟩ := e2.get (nthV_get hx)
    exact ⟨v, by simp [execOp, e1, Instr.extract, e3], e4.vr⟩
theorem x_makeFunc {f : FuncId} {cap : Array Operand} {ks : List Nat} (hN : Nat.blt d N = true) (h : evl s.t cap.toList = some (caps ks)) :
    Stp P N ⟨some d, .makeFunc (.func f) #[] cap, ty, pos, after, gd⟩ s ⟨(d, .one (.clo f ks)) :: s.t, s.l⟩ ⟨rdl s.t cap.toList, [], [(d, .one (.clo f ks))], [], []⟩ :=
  Stp.pure rfl hN (evl_ok (N := N) h).1 (by simp) fun g s' a w ht hl' r => by
    have h1 := (evl_ok h).2 r ht
    refine ⟨.func (.func f) #[] (cap.map a.eval), by simp [execOp, Instr.makeFunc], fun hks => ?_⟩
    congr 1
    apply Array.ext'
    rw [Array.toList_map]
    generalize cap.toList.map a.eval = vs at h1
    clear h
    induction ks generalizing vs with
    | nil => cases vs with
      | nil => rfl
      | cons _ _ => cases h1
    | cons k ks ih =>
      cases vs with
      | nil => cases h1
      | cons v vs =>
        obtain ⟨c, hc⟩ := hks k (List.mem_cons_self ..)
        have e1 : v = _ := h1.1 c hc
        have := ih (fun k hk => hks k (List.mem_cons_of_mem _ hk)) vs h1.2
        simp only [List.map_cons] at this ⊢
        rw [e1, this]
end ops
end Go.Proofs.Ytcgickpnckedcaa
