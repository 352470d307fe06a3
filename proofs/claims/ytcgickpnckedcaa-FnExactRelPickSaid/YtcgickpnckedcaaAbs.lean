/- The abstract walk, over any program: what a slot holds is said as a datum; which block of memory it lies in is kept out of sight. -/
import Derived.Test.YtcgickpnckedcaaMem
import Derived.Laws.AppendOwn
import Derived.Laws.Cells
namespace Go.Proofs.Ytcgickpnckedcaa
open Go.RowKit
set_option linter.unusedVariables false

/-! ### What a slot holds -/
/-- What one cell holds: a plain value; a slice that nobody writes; a slice of an array of one's own (k: its number); the address of a variable of one's own; of an element of an own array; of an element that nobody writes; a function with the variables that it has caught; anything. -/
inductive Cell : Type 1
  | c (v : Value)
  | sl {α : Type} (e : Enc α) (xs : List α)
  | own (k : Nat)
  | ptr (k off : Nat)
  | optr (k i off : Nat)
  | ep {α : Type} (e : Enc α) (x : α) (off : Nat)
  | clo (f : FuncId) (caps : List Nat)
  | any
  | sn {α : Type} (e : Enc α) (xs : List α)
  | slo {α : Type} (B : Nat) (e : Enc α) (xs : List α)
  | epo {α : Type} (B : Nat) (e : Enc α) (x : α) (off : Nat)
inductive AVal : Type 1
  | one (x : Cell)
  | agg (xs : List Cell)
  | tup (xs : List AVal)
/-- A block of one's own: a variable; an array of elements of type T. deep: all that its elements lead to is its own, too. -/
inductive Blk : Type 1
  | box (cs : List Cell)
  | arr {α : Type} (T : TypeId) (e : Enc α) (xs : List α) (deep : Bool)

def lk {β : Type 1} : List (Nat × β) → Nat → Option β
  | [], _ => none
  | (k, x) :: r, i => bif Nat.beq k i then some x else lk r i
abbrev Tmps := List (Nat × AVal)
abbrev Locs := List (Nat × Option Blk)
def lkl (l : Locs) (k : Nat) : Option Blk := match lk l k with | some (some b) => some b | _ => none

theorem lk_cons_self {β : Type 1} {r : List (Nat × β)} {k : Nat} {x : β} : lk ((k, x) :: r) k = some x := by
  have : Nat.beq k k = true := by simp
  simp only [lk, this, cond_true]
theorem lk_cons_ne {β : Type 1} {r : List (Nat × β)} {j k : Nat} {x : β} (h : j ≠ k) : lk ((j, x) :: r) k = lk r k := by
  have : Nat.beq j k = false := by
    cases hb : Nat.beq j k
    · rfl
    · exact absurd (Nat.eq_of_beq_eq_true hb) h
  simp only [lk, this, cond_false]
theorem lk_append {β : Type 1} (k : Nat) : ∀ (l r : List (Nat × β)), lk (l ++ r) k = (lk l k).or (lk r k)
  | [], r => by simp [lk]
  | (j, x) :: l, r => by
    by_cases h : j = k
    · subst h; rw [List.cons_append, lk_cons_self, lk_cons_self]; rfl
    · rw [List.cons_append, lk_cons_ne h, lk_cons_ne h, lk_append k l r]
theorem lkl_cons_self {r : Locs} {k : Nat} {x : Option Blk} : lkl ((k, x) :: r) k = x := by
  unfold lkl; rw [lk_cons_self]; cases x <;> rfl
theorem lkl_cons_ne {r : Locs} {j k : Nat} {x : Option Blk} (h : j ≠ k) : lkl ((j, x) :: r) k = lkl r k := by
  unfold lkl; rw [lk_cons_ne h]

structure Gh where
  I : Nat → Prop
  ρ : Nat → Nat
  hd : Nat → Value
  F : Nat → List Nat

def wfV : Value → Prop
  | .int k n => (Lit.int k n).wf = true
  | .string s => s.size ≤ maxLen
  | .bool _ => True
  | .slice none 0 0 => True
  | _ => False

def All2 {α : Type} {β : Type 1} (R : α → β → Prop) : List α → List β → Prop
  | [], [] => True
  | a :: as, b :: bs => R a b ∧ All2 R as bs
  | _, _ => False
theorem All2.len {α : Type} {β : Type 1} {R : α → β → Prop} : ∀ {l : List α} {m : List β}, All2 R l m → l.length = m.length
  | [], [], _ => rfl
  | a :: as, b :: bs, h => by simp [All2.len h.2]
theorem All2.mono {α : Type} {β : Type 1} {R S : α → β → Prop} : ∀ {l : List α} {m : List β}, All2 R l m → (∀ a b, b ∈ m → R a b → S a b) → All2 S l m
  | [], [], _, _ => trivial
  | a :: as, b :: bs, h, hm => ⟨hm a b (List.mem_cons_self ..) h.1, All2.mono h.2 fun a b hb => hm a b (List.mem_cons_of_mem _ hb)⟩
theorem All2.get {α : Type} {β : Type 1} {R : α → β → Prop} : ∀ {l : List α} {m : List β}, All2 R l m → ∀ {i : Nat} {x : β}, m[i]? = some x → ∃ v, l[i]? = some v ∧ R v x
  | [], [], _, i, x, h => by simp at h
  | a :: as, b :: bs, h, 0, x, hx => ⟨a, rfl, by simp at hx; subst hx; exact h.1⟩
  | a :: as, b :: bs, h, i + 1, x, hx => by simpa using All2.get h.2 (by simpa using hx)
theorem All2.app {α : Type} {β : Type 1} {R : α → β → Prop} : ∀ {l : List α} {m : List β} {l' : List α} {m' : List β}, All2 R l m → All2 R l' m' → All2 R (l ++ l') (m ++ m')
  | [], [], _, _, _, h => h
  | a :: as, b :: bs, _, _, h, h' => ⟨h.1, All2.app h.2 h'⟩
theorem All2.set {α : Type} {β : Type 1} {R : α → β → Prop} : ∀ {l : List α} {m : List β}, All2 R l m → ∀ {i : Nat} {v : α} {x : β}, R v x → All2 R (l.set i v) (m.set i x)
  | [], [], _, i, v, x, _ => by simp [All2]
  | a :: as, b :: bs, h, 0, v, x, hx => ⟨hx, h.2⟩
  | a :: as, b :: bs, h, i + 1, v, x, hx => ⟨h.1, All2.set h.2 hx⟩
theorem All2.split {α : Type} {β : Type 1} {R : α → β → Prop} : ∀ {m : List β} {l : List α} {m' : List β}, All2 R l (m ++ m') → ∃ l1 l2, l = l1 ++ l2 ∧ All2 R l1 m ∧ All2 R l2 m'
  | [], l, m', h => ⟨[], l, rfl, trivial, h⟩
  | b :: bs, [], m', h => by cases h
  | b :: bs, a :: as, m', h => by
    obtain ⟨l1, l2, rfl, h1, h2⟩ := All2.split (m := bs) h.2
    exact ⟨a :: l1, l2, rfl, ⟨h.1, h1⟩, h2⟩
theorem All2.take {α : Type} {β : Type 1} {R : α → β → Prop} : ∀ {l : List α} {m : List β}, All2 R l m → ∀ n, All2 R (l.take n) (m.take n)
  | [], [], _, n => by simp [All2]
  | a :: as, b :: bs, h, 0 => trivial
  | a :: as, b :: bs, h, n + 1 => ⟨h.1, All2.take h.2 n⟩
theorem All2.drop {α : Type} {β : Type 1} {R : α → β → Prop} : ∀ {l : List α} {m : List β}, All2 R l m → ∀ n, All2 R (l.drop n) (m.drop n)
  | [], [], _, n => by simp [All2]
  | a :: as, b :: bs, h, 0 => h
  | a :: as, b :: bs, h, n + 1 => All2.drop h.2 n

def CellR (g : Gh) (l : Locs) (w : World) (v : Value) : Cell → Prop
  | .c u => v = u ∧ wfV u
  | .sl e xs => ∃ a n cap bs, v = .slice a n cap ∧ SliceRep e w a n cap xs bs ∧ ∀ b ∈ bs, g.I b
  | .own k => ∀ (α : Type) (T : TypeId) (e : Enc α) (xs : List α) (d : Bool), lkl l k = some (.arr T e xs d) → v = g.hd k
  | .ptr k off => ∀ cs, lkl l k = some (.box cs) → v = .pointer (some ⟨g.ρ k, off, none⟩)
  | .optr k i off => ∀ (α : Type) (T : TypeId) (e : Enc α) (xs : List α) (d : Bool), lkl l k = some (.arr T e xs d) → v = .pointer (some ⟨g.ρ k, i * e.size + off, none⟩)
  | .ep e x off => ∃ gb o cs b, v = .pointer (some ⟨gb, o + off, none⟩) ∧ g.I gb ∧ e.rep w cs x b ∧ (∀ c ∈ b, g.I c) ∧ ∀ j u, cs[j]? = some u → w.cell? ⟨gb, o + j, none⟩ = some u
  | .clo f caps => (∀ k ∈ caps, ∃ cs, lkl l k = some (.box cs)) → v = .func (.func f) #[] (caps.map fun k => Value.pointer (some ⟨g.ρ k, 0, none⟩)).toArray
  | .any => True
  | .sn e xs => ∃ a n cap bs, v = .slice (some a) n cap ∧ SliceRep e w (some a) n cap xs bs ∧ ∀ b ∈ bs, g.I b
  | .slo B e xs => ∃ a n cap bs, v = .slice a n cap ∧ SliceRep e w a n cap xs bs ∧ ∀ b ∈ bs, g.I b ∧ b < B
  | .epo B e x off => ∃ gb o cs b, v = .pointer (some ⟨gb, o + off, none⟩) ∧ (g.I gb ∧ gb < B) ∧ e.rep w cs x b ∧ (∀ c ∈ b, g.I c ∧ c < B) ∧ ∀ j u, cs[j]? = some u → w.cell? ⟨gb, o + j, none⟩ = some u
def VR1 (g : Gh) (l : Locs) (w : World) (v : Value) : AVal → Prop
  | .one x => CellR g l w v x
  | .agg xs => ∃ vs : List Value, v = .agg vs.toArray ∧ All2 (CellR g l w) vs xs
  | .tup _ => False
def VR (g : Gh) (l : Locs) (w : World) (v : Value) : AVal → Prop
  | .tup xs => ∃ vs : List Value, v = .tuple vs.toArray ∧ All2 (VR1 g l w) vs xs
  | x => VR1 g l w v x
theorem VR.one {g : Gh} {l : Locs} {w : World} {v : Value} {x : Cell} : VR g l w v (.one x) = CellR g l w v x := rfl
theorem VR1.vr {g : Gh} {l : Locs} {w : World} {v : Value} : ∀ {x : AVal}, VR1 g l w v x → VR g l w v x
  | .one _, h => h
  | .agg _, h => h

/-- The block stands: a variable always; an array unless it is nil. -/
def liv (g : Gh) (k : Nat) : Blk → Prop
  | .box _ => True
  | .arr _ _ _ _ => g.hd k ≠ .slice none 0 0

def ArrR (g : Gh) (w : World) (k : Nat) {α : Type} (T : TypeId) (e : Enc α) (xs : List α) (d : Bool) : Prop :=
  (xs = [] ∧ g.hd k = .slice none 0 0 ∧ (d = true → g.F k = [])) ∨
  ∃ cap vs bss, g.hd k = .slice (some ⟨g.ρ k, 0, none⟩) xs.length cap ∧ xs.length ≤ cap ∧ cap ≤ maxLen ∧ w.heap[g.ρ k]? = some (.cells vs T (0, 0)) ∧ vs.size = cap * e.size ∧
    Elems e w (g.ρ k) 0 xs bss ∧ (∀ b ∈ bss.flatten, g.I b) ∧ ¬ g.I (g.ρ k) ∧ (d = true → g.F k = bss.flatten)
def BoxR (g : Gh) (l : Locs) (w : World) (k : Nat) (cs : List Cell) : Prop :=
  ∃ vs t, w.heap[g.ρ k]? = some (.cells vs t (0, 0)) ∧ All2 (CellR g l w) vs.toList cs ∧ ¬ g.I (g.ρ k)

structure MemR (g : Gh) (l : Locs) (w : World) : Prop where
  ilt : ∀ b, g.I b → b < w.heap.size
  box : ∀ k cs, lkl l k = some (.box cs) → BoxR g l w k cs
  arr : ∀ (k : Nat) (α : Type) (T : TypeId) (e : Enc α) (xs : List α) (d : Bool), lkl l k = some (.arr T e xs d) → ArrR g w k T e xs d
  dis : ∀ j k b b', j ≠ k → lkl l j = some b → lkl l k = some b' → liv g j b → liv g k b' → g.ρ j ≠ g.ρ k
  fr : ∀ (k : Nat) (α : Type) (T : TypeId) (e : Enc α) (xs : List α), lkl l k = some (.arr T e xs true) → (g.F k).Nodup ∧ ∀ b ∈ g.F k, g.I b ∧ ∃ c t, w.heap[b]? = some (.cells c t (0, 0))
  fd : ∀ (j k : Nat) (α β : Type) (T U : TypeId) (e : Enc α) (f : Enc β) (xs : List α) (ys : List β), j ≠ k → lkl l j = some (.arr T e xs true) → lkl l k = some (.arr U f ys true) → ∀ b ∈ g.F j, b ∉ g.F k

/-- Block b is one's own. -/
def OwnB (g : Gh) (l : Locs) (b : Nat) : Prop :=
  ∃ k blk, lkl l k = some blk ∧ ((liv g k blk ∧ b = g.ρ k) ∨ (∃ (α : Type) (T : TypeId) (e : Enc α) (xs : List α), blk = .arr T e xs true ∧ b ∈ g.F k))

/-- What is said of number k stays true. -/
def okK (g : Gh) (l : Locs) (g' : Gh) (l' : Locs) (k : Nat) : Prop :=
  (∀ cs', lkl l' k = some (.box cs') → g'.ρ k = g.ρ k ∧ ∃ cs, lkl l k = some (.box cs)) ∧
  (∀ (α : Type) (T : TypeId) (e : Enc α) (xs : List α) (d : Bool), lkl l' k = some (.arr T e xs d) → ∃ (β : Type) (T0 : TypeId) (e0 : Enc β) (xs0 : List β) (d0 : Bool), lkl l k = some (.arr T0 e0 xs0 d0) ∧ g'.hd k = g.hd k ∧ g'.ρ k = g.ρ k ∧ e.size = e0.size)
theorem okK.same {g g' : Gh} {l l' : Locs} {k : Nat} (hl : lkl l' k = lkl l k) (hr : g'.ρ k = g.ρ k) (hh : g'.hd k = g.hd k) : okK g l g' l' k :=
  ⟨fun cs' h => ⟨hr, cs', by rw [← hl]; exact h⟩, fun α T e xs d h => ⟨α, T, e, xs, d, by rw [← hl]; exact h, hh, hr, rfl⟩⟩
theorem okK.gone {g g' : Gh} {l l' : Locs} {k : Nat} (hl : lkl l' k = none) : okK g l g' l' k :=
  ⟨fun cs' h => (by rw [hl] at h; cases h), fun α T e xs d h => (by rw [hl] at h; cases h)⟩

theorem okK.trans {g g1 g2 : Gh} {l l1 l2 : Locs} {k : Nat} (h : okK g l g1 l1 k) (h' : okK g1 l1 g2 l2 k) : okK g l g2 l2 k :=
  ⟨fun cs hc => by
    obtain ⟨e1, cs1, h1⟩ := h'.1 cs hc
    obtain ⟨e2, cs2, h2⟩ := h.1 cs1 h1
    exact ⟨e1.trans e2, cs2, h2⟩, fun α T e xs d hc => by
    obtain ⟨β, T0, e0, xs0, d0, h1, a1, a2, a3⟩ := h'.2 α T e xs d hc
    obtain ⟨γ, T1, e1, xs1, d1, h2, b1, b2, b3⟩ := h.2 β T0 e0 xs0 d0 h1
    exact ⟨γ, T1, e1, xs1, d1, h2, a1.trans b1, a2.trans b2, a3.trans b3⟩⟩

structure Step (K : List Nat) (g : Gh) (l : Locs) (w : World) (g' : Gh) (l' : Locs) (w' : World) : Prop where
  os : w'.os = w.os
  tape : w'.tape = w.tape
  output : w'.output = w.output
  size : w.heap.size ≤ w'.heap.size
  keep : ∀ b, b < w.heap.size → (∀ k blk, lkl l k = some blk → liv g k blk → b ≠ g.ρ k) → w'.heap[b]? = w.heap[b]?
  imm : ∀ b, g.I b → g'.I b
  imm' : ∀ b, g'.I b → g.I b ∨ w.heap.size ≤ b ∨ OwnB g l b
  own : ∀ b, OwnB g' l' b → OwnB g l b ∨ w.heap.size ≤ b
  base : ∀ k ∈ K, lk l k ≠ none → lk l' k ≠ none ∧ okK g l g' l' k ∧ ∀ cs, lkl l k = some (.box cs) → ∃ cs', lkl l' k = some (.box cs')

theorem OwnB.of_live {g : Gh} {l : Locs} {k : Nat} {blk : Blk} (h : lkl l k = some blk) (hl : liv g k blk) : OwnB g l (g.ρ k) := ⟨k, blk, h, .inl ⟨hl, rfl⟩⟩

theorem MemR.notI {g : Gh} {l : Locs} {w : World} (h : MemR g l w) {k : Nat} {blk : Blk} (hk : lkl l k = some blk) (hl : liv g k blk) : ¬ g.I (g.ρ k) := by
  cases blk with
  | box cs => obtain ⟨_, _, _, _, h1⟩ := h.box k cs hk; exact h1
  | arr T e xs d =>
    rcases h.arr k _ T e xs d hk with ⟨_, h1, _⟩ | ⟨_, _, _, _, _, _, _, _, _, _, h1, _⟩
    · exact absurd h1 hl
    · exact h1
theorem MemR.lt {g : Gh} {l : Locs} {w : World} (h : MemR g l w) {k : Nat} {blk : Blk} (hk : lkl l k = some blk) (hl : liv g k blk) : g.ρ k < w.heap.size := by
  cases blk with
  | box cs => obtain ⟨_, _, h1, _, _⟩ := h.box k cs hk; exact (Array.getElem?_eq_some_iff.1 h1).1
  | arr T e xs d =>
    rcases h.arr k _ T e xs d hk with ⟨_, h1, _⟩ | ⟨_, _, _, _, _, _, h1, _⟩
    · exact absurd h1 hl
    · exact (Array.getElem?_eq_some_iff.1 h1).1
theorem MemR.imm_keep {g : Gh} {l : Locs} {w : World} (h : MemR g l w) {K : List Nat} {g' : Gh} {l' : Locs} {w' : World} (hs : Step K g l w g' l' w') {b : Nat} (hb : g.I b) : w'.heap[b]? = w.heap[b]? :=
  hs.keep b (h.ilt b hb) fun k blk hk hl e => h.notI hk hl (e ▸ hb)

theorem Step.refl (K : List Nat) (g : Gh) (l : Locs) (w : World) : Step K g l w g l w :=
  ⟨rfl, rfl, rfl, Nat.le_refl _, fun _ _ _ => rfl, fun _ h => h, fun _ h => .inl h, fun _ h => .inl h, fun k _ h => ⟨h, okK.same rfl rfl rfl, fun cs h => ⟨cs, h⟩⟩⟩
theorem Step.trans {K : List Nat} {g g1 g2 : Gh} {l l1 l2 : Locs} {w w1 w2 : World} (m : MemR g l w) (m1 : MemR g1 l1 w1) (h : Step K g l w g1 l1 w1) (h' : Step K g1 l1 w1 g2 l2 w2) : Step K g l w g2 l2 w2 where
  os := h'.os.trans h.os
  tape := h'.tape.trans h.tape
  output := h'.output.trans h.output
  size := Nat.le_trans h.size h'.size
  keep := fun b hb hn => by
    rw [h'.keep b (Nat.lt_of_lt_of_le hb h.size) ?_, h.keep b hb hn]
    intro k blk hk hl e
    have ho := h.own b (e ▸ OwnB.of_live hk hl)
    rcases ho with ⟨j, bj, hj, ⟨hlj, e2⟩ | ⟨α, T, e2, xs, rfl, hF⟩⟩ | hge
    · exact hn j bj hj hlj e2
    · exact m1.notI hk hl (e ▸ h.imm b ((m.fr j α T e2 xs hj).2 b hF).1)
    · omega
  imm := fun b hb => h'.imm b (h.imm b hb)
  imm' := fun b hb => by
    rcases h'.imm' b hb with h1 | h1 | h1
    · exact h.imm' b h1
    · exact .inr (.inl (Nat.le_trans h.size h1))
    · rcases h.own b h1 with h2 | h2
      · exact .inr (.inr h2)
      · exact .inr (.inl h2)
  own := fun b hb => by
    rcases h'.own b hb with h1 | h1
    · exact h.own b h1
    · exact .inr (Nat.le_trans h.size h1)
  base := fun k hk hn => by
    obtain ⟨n1, o1, b1⟩ := h.base k hk hn
    obtain ⟨n2, o2, b2⟩ := h'.base k hk n1
    exact ⟨n2, o1.trans o2, fun cs hcs => by
      obtain ⟨cs1, h1⟩ := b1 cs hcs
      exact b2 cs1 h1⟩
theorem Step.sub {K K' : List Nat} {g g' : Gh} {l l' : Locs} {w w' : World} (h : Step K g l w g' l' w') (hK : ∀ k ∈ K', k ∈ K) : Step K' g l w g' l' w' :=
  { h with base := fun k hk => h.base k (hK k hk) }

/-! ### What stays true of a cell -/
/-- The numbers that a cell speaks of. -/
def Cell.ids : Cell → List Nat
  | .own k => [k]
  | .ptr k _ => [k]
  | .optr k _ _ => [k]
  | .clo _ ks => ks
  | _ => []
theorem CellR.step {g g' : Gh} {l l' : Locs} {w w' : World} {v : Value} {x : Cell} (hi : ∀ b, g.I b → w'.heap[b]? = w.heap[b]?) (hm : ∀ b, g.I b → g'.I b) (hs : w.heap.size ≤ w'.heap.size) (hok : ∀ k ∈ x.ids, okK g l g' l' k) (h : CellR g l w v x) : CellR g' l' w' v x := by
  cases x with
  | c u => exact h
  | sl e xs =>
    obtain ⟨a, n, cap, bs, h1, h2, h3⟩ := h
    exact ⟨a, n, cap, bs, h1, h2.keep (fun b hb => hi b (h3 b hb)) hs, fun b hb => hm b (h3 b hb)⟩
  | own k =>
    intro α T e xs d hl
    obtain ⟨β, T0, e0, xs0, d0, h0, h1, _⟩ := (hok k (by simp [Cell.ids])).2 α T e xs d hl
    rw [h1]; exact h β T0 e0 xs0 d0 h0
  | ptr k off =>
    intro cs hl
    obtain ⟨e1, cs0, h1⟩ := (hok k (by simp [Cell.ids])).1 cs hl
    rw [e1]; exact h cs0 h1
  | optr k i off =>
    intro α T e xs d hl
    obtain ⟨β, T0, e0, xs0, d0, h0, _, h1, h2⟩ := (hok k (by simp [Cell.ids])).2 α T e xs d hl
    rw [h1, h2]; exact h β T0 e0 xs0 d0 h0
  | ep e x off =>
    obtain ⟨gb, o, cs, b, h1, h2, h3, h4, h5⟩ := h
    exact ⟨gb, o, cs, b, h1, hm _ h2, e.keep h3 (fun c hc => hi c (h4 c hc)) hs, fun c hc => hm c (h4 c hc), fun j u hu => (World.cell?_of_block (w := w) (hi gb h2)).trans (h5 j u hu)⟩
  | clo f caps =>
    intro hc
    have h1 : ∀ k ∈ caps, g'.ρ k = g.ρ k ∧ ∃ cs, lkl l k = some (.box cs) := fun k hk => by
      obtain ⟨cs, h0⟩ := hc k hk
      exact (hok k (by simpa [Cell.ids] using hk)).1 cs h0
    rw [h fun k hk => (h1 k hk).2]
    congr 2
    exact List.map_congr_left fun k hk => by rw [(h1 k hk).1]
  | any => trivial
  | sn e xs =>
    obtain ⟨a, n, cap, bs, h1, h2, h3⟩ := h
    exact ⟨a, n, cap, bs, h1, h2.keep (fun b hb => hi b (h3 b hb)) hs, fun b hb => hm b (h3 b hb)⟩
  | slo B e xs =>
    obtain ⟨a, n, cap, bs, h1, h2, h3⟩ := h
    exact ⟨a, n, cap, bs, h1, h2.keep (fun b hb => hi b (h3 b hb).1) hs, fun b hb => ⟨hm b (h3 b hb).1, (h3 b hb).2⟩⟩
  | epo B e x off =>
    obtain ⟨gb, o, cs, b, h1, h2, h3, h4, h5⟩ := h
    exact ⟨gb, o, cs, b, h1, ⟨hm gb h2.1, h2.2⟩, e.keep h3 (fun c hc => hi c (h4 c hc).1) hs, fun c hc => ⟨hm c (h4 c hc).1, (h4 c hc).2⟩, fun j u hu => (World.cell?_of_block (w := w) (hi gb h2.1)).trans (h5 j u hu)⟩

def AVal.ids : AVal → List Nat
  | .one x => x.ids
  | .agg xs => xs.flatMap Cell.ids
  | .tup xs => xs.flatMap fun | .one x => x.ids | .agg ys => ys.flatMap Cell.ids | .tup _ => []
def AVal.ids1 : AVal → List Nat
  | .one x => x.ids
  | .agg ys => ys.flatMap Cell.ids
  | .tup _ => []
theorem VR1.step {g g' : Gh} {l l' : Locs} {w w' : World} {v : Value} {x : AVal} (hi : ∀ b, g.I b → w'.heap[b]? = w.heap[b]?) (hm : ∀ b, g.I b → g'.I b) (hs : w.heap.size ≤ w'.heap.size) (hok : ∀ k ∈ x.ids1, okK g l g' l' k) (h : VR1 g l w v x) : VR1 g' l' w' v x := by
  cases x with
  | one x => exact CellR.step hi hm hs hok h
  | agg xs =>
    obtain ⟨vs, h1, h2⟩ := h
    exact ⟨vs, h1, h2.mono fun a b hb hr => hr.step hi hm hs fun k hk => hok k (List.mem_flatMap.2 ⟨b, hb, hk⟩)⟩
  | tup xs => exact h
theorem VR.step {g g' : Gh} {l l' : Locs} {w w' : World} {v : Value} {x : AVal} (hi : ∀ b, g.I b → w'.heap[b]? = w.heap[b]?) (hm : ∀ b, g.I b → g'.I b) (hs : w.heap.size ≤ w'.heap.size) (hok : ∀ k ∈ x.ids, okK g l g' l' k) (h : VR g l w v x) : VR g' l' w' v x := by
  cases x with
  | one x => exact CellR.step hi hm hs hok h
  | agg xs => exact VR1.step (x := .agg xs) hi hm hs hok h
  | tup xs =>
    obtain ⟨vs, h1, h2⟩ := h
    refine ⟨vs, h1, h2.mono fun a b hb hr => hr.step hi hm hs fun k hk => hok k ?_⟩
    refine List.mem_flatMap.2 ⟨b, hb, ?_⟩
    cases b <;> exact hk

/-- Number j stands as it stood. -/
def Untouched (g : Gh) (l : Locs) (w : World) (g' : Gh) (l' : Locs) (w' : World) (j : Nat) : Prop :=
  lkl l' j = lkl l j ∧ g'.ρ j = g.ρ j ∧ g'.hd j = g.hd j ∧ g'.F j = g.F j ∧ ∀ b, lkl l j = some b → liv g j b → w'.heap[g.ρ j]? = w.heap[g.ρ j]? ∧ ¬ g'.I (g.ρ j)
theorem Untouched.ok {g g' : Gh} {l l' : Locs} {w w' : World} {j : Nat} (h : Untouched g l w g' l' w' j) : okK g l g' l' j := okK.same h.1 h.2.1 h.2.2.1
theorem Untouched.liv {g g' : Gh} {l l' : Locs} {w w' : World} {j : Nat} (h : Untouched g l w g' l' w' j) {b : Blk} (hb : liv g' j b) : liv g j b := by
  cases b with
  | box cs => trivial
  | arr T e xs d => exact fun e => hb (by rw [h.2.2.1]; exact e)
def Locs.ids (l : Locs) : List Nat := l.flatMap fun p => match p.2 with | some (.box cs) => cs.flatMap Cell.ids | _ => []

theorem lk_mem {β : Type 1} {k : Nat} {x : β} : ∀ {l : List (Nat × β)}, lk l k = some x → (k, x) ∈ l
  | [], h => by simp [lk] at h
  | (j, y) :: r, h => by
    by_cases e : j = k
    · subst e; rw [lk_cons_self] at h; cases h; exact List.mem_cons_self ..
    · rw [lk_cons_ne e] at h; exact List.mem_cons_of_mem _ (lk_mem h)
theorem lkl_mem {k : Nat} {b : Blk} {l : Locs} (h : lkl l k = some b) : (k, some b) ∈ l := by
  unfold lkl at h
  split at h
  · rename_i b' he; cases h; exact lk_mem he
  · cases h
theorem Locs.ids_mem {l : Locs} {k : Nat} {cs : List Cell} {x : Cell} (h : lkl l k = some (.box cs)) (hx : x ∈ cs) {i : Nat} (hi : i ∈ x.ids) : i ∈ l.ids :=
  List.mem_flatMap.2 ⟨_, lkl_mem h, List.mem_flatMap.2 ⟨x, hx, hi⟩⟩

/-- One number, k, is laid anew; others stand as they stood or are gone. -/
theorem MemR.set1 {g g' : Gh} {l l' : Locs} {w w' : World} (m : MemR g l w) (k : Nat) (hi : ∀ b, g.I b → w'.heap[b]? = w.heap[b]?) (hm : ∀ b, g.I b → g'.I b) (hs : w.heap.size ≤ w'.heap.size) (hlt : ∀ b, g'.I b → b < w'.heap.size)
    (hu : ∀ j, j ≠ k → lkl l' j = none ∨ Untouched g l w g' l' w' j) (hk : okK g l g' l' k ∨ k ∉ l.ids)
    (hbox : ∀ cs, lkl l' k = some (.box cs) → BoxR g' l' w' k cs)
    (harr : ∀ (α : Type) (T : TypeId) (e : Enc α) (xs : List α) (d : Bool), lkl l' k = some (.arr T e xs d) → ArrR g' w' k T e xs d)
    (hdis : ∀ j b b', j ≠ k → lkl l' j = some b → lkl l j = some b → lkl l' k = some b' → liv g j b → liv g' k b' → g.ρ j ≠ g'.ρ k)
    (hfr : ∀ (α : Type) (T : TypeId) (e : Enc α) (xs : List α), lkl l' k = some (.arr T e xs true) → (g'.F k).Nodup ∧ ∀ b ∈ g'.F k, g'.I b ∧ ∃ c t, w'.heap[b]? = some (.cells c t (0, 0)))
    (hfd : ∀ (j : Nat) (α β : Type) (T U : TypeId) (e : Enc α) (f : Enc β) (xs : List α) (ys : List β), j ≠ k → lkl l' j = some (.arr T e xs true) → lkl l j = some (.arr T e xs true) → lkl l' k = some (.arr U f ys true) → ∀ b ∈ g.F j, b ∉ g'.F k) : MemR g' l' w' := by
  have un : ∀ {j b}, j ≠ k → lkl l' j = some b → Untouched g l w g' l' w' j := fun {j b} hj hb => by
    rcases hu j hj with h | h
    · rw [h] at hb; cases hb
    · exact h
  have okj : ∀ {j : Nat}, j ∈ l.ids → okK g l g' l' j := fun {j} hj => by
    by_cases e : j = k
    · subst e; exact hk.resolve_right (fun h => h hj)
    · rcases hu j e with h | h
      · exact okK.gone h
      · exact h.ok
  refine ⟨hlt, fun j cs hj => ?_, fun j α T e xs d hj => ?_, fun i j b b' hij h1 h2 l1 l2 => ?_, fun j α T e xs hj => ?_, fun i j α β T U e f xs ys hij h1 h2 b hb hb' => ?_⟩
  · by_cases e : j = k
    · subst e; exact hbox cs hj
    · have u := un e hj
      have h0 : lkl l j = some (.box cs) := by rw [← u.1]; exact hj
      obtain ⟨vs, t, h1, h2, h3⟩ := m.box j cs h0
      have u2 := u.2.2.2.2 _ h0 trivial
      refine ⟨vs, t, by rw [u.2.1, u2.1]; exact h1, h2.mono fun a x hx hr => hr.step hi hm hs fun i hi => okj (Locs.ids_mem h0 hx hi), by rw [u.2.1]; exact u2.2⟩
  · by_cases e1 : j = k
    · subst e1; exact harr α T e xs d hj
    · have u := un e1 hj
      have h0 : lkl l j = some (.arr T e xs d) := by rw [← u.1]; exact hj
      rcases m.arr j α T e xs d h0 with ⟨h1, h2, h3⟩ | ⟨cap, vs, bss, h1, h2, h3, h4, h5, h6, h7, h8, h9⟩
      · exact .inl ⟨h1, by rw [u.2.2.1]; exact h2, fun hd => by rw [u.2.2.2.1]; exact h3 hd⟩
      · have u2 := u.2.2.2.2 _ h0 (by show g.hd j ≠ _; rw [h1]; intro e; cases e)
        refine .inr ⟨cap, vs, bss, by rw [u.2.2.1, u.2.1]; exact h1, h2, h3, by rw [u.2.1, u2.1]; exact h4, h5, ?_, fun b hb => hm b (h7 b hb), by rw [u.2.1]; exact u2.2, fun hd => by rw [u.2.2.2.1]; exact h9 hd⟩
        rw [u.2.1]
        exact h6.keep u2.1 (fun b hb => hi b (h7 b hb)) hs
  · by_cases ei : i = k
    · subst ei
      have u := un (Ne.symm hij) h2
      have := hdis j b' b (Ne.symm hij) h2 (by rw [← u.1]; exact h2) h1 (u.liv l2) l1
      rw [u.2.1]; exact Ne.symm this
    · have ui := un ei h1
      by_cases ej : j = k
      · subst ej
        have := hdis i b b' hij h1 (by rw [← ui.1]; exact h1) h2 (ui.liv l1) l2
        rw [ui.2.1]; exact this
      · have uj := un ej h2
        rw [ui.2.1, uj.2.1]
        exact m.dis i j b b' hij (by rw [← ui.1]; exact h1) (by rw [← uj.1]; exact h2) (ui.liv l1) (uj.liv l2)
  · by_cases e1 : j = k
    · subst e1; exact hfr α T e xs hj
    · have u := un e1 hj
      obtain ⟨h1, h2⟩ := m.fr j α T e xs (by rw [← u.1]; exact hj)
      rw [u.2.2.2.1]
      exact ⟨h1, fun b hb => by
        obtain ⟨h3, c, t, h4⟩ := h2 b hb
        exact ⟨hm b h3, c, t, (hi b h3).trans h4⟩⟩
  · by_cases ei : i = k
    · subst ei
      have uj := un (Ne.symm hij) h2
      rw [uj.2.2.2.1] at hb'
      exact hfd j β α U T f e ys xs (Ne.symm hij) h2 (by rw [← uj.1]; exact h2) h1 b hb' hb
    · have ui := un ei h1
      rw [ui.2.2.2.1] at hb
      by_cases ej : j = k
      · subst ej; exact hfd i α β T U e f xs ys hij h1 (by rw [← ui.1]; exact h1) h2 b hb hb'
      · have uj := un ej h2
        rw [uj.2.2.2.1] at hb'
        exact m.fd i j α β T U e f xs ys hij (by rw [← ui.1]; exact h1) (by rw [← uj.1]; exact h2) b hb hb'

/-- What a step owns, where one number is laid anew. -/
theorem own_set1 {g g' : Gh} {l l' : Locs} {w w' : World} (k : Nat) (hu : ∀ j, j ≠ k → lkl l' j = none ∨ Untouched g l w g' l' w' j)
    (h1 : ∀ b, lkl l' k = some b → liv g' k b → OwnB g l (g'.ρ k) ∨ w.heap.size ≤ g'.ρ k)
    (h2 : ∀ (α : Type) (T : TypeId) (e : Enc α) (xs : List α), lkl l' k = some (.arr T e xs true) → ∀ b ∈ g'.F k, OwnB g l b ∨ w.heap.size ≤ b) : ∀ b, OwnB g' l' b → OwnB g l b ∨ w.heap.size ≤ b := by
  rintro b ⟨j, blk, hj, h⟩
  by_cases e : j = k
  · subst e
    rcases h with ⟨hl, rfl⟩ | ⟨α, T, e, xs, rfl, hb⟩
    · exact h1 blk hj hl
    · exact h2 α T e xs hj b hb
  · rcases hu j e with hn | u
    · rw [hn] at hj; cases hj
    · have h0 : lkl l j = some blk := by rw [← u.1]; exact hj
      left
      rcases h with ⟨hl, rfl⟩ | ⟨α, T, e, xs, rfl, hb⟩
      · exact ⟨j, blk, h0, .inl ⟨u.liv hl, u.2.1⟩⟩
      · exact ⟨j, _, h0, .inr ⟨α, T, e, xs, rfl, by rw [← u.2.2.2.1]; exact hb⟩⟩

/-! ### The state of a walk -/
structure St where
  t : Tmps
  l : Locs
def St.ids (s : St) : List Nat := (s.t.flatMap fun p => p.2.ids) ++ s.l.ids

structure Rep (N : Nat) (g : Gh) (s : St) (a : Act) (w : World) : Prop where
  size : a.tmps.size = N
  defers : a.defers = []
  tmp : ∀ k x, lk s.t k = some x → VR g s.l w (a.tmps.getD k undef) x
  mem : MemR g s.l w

/-- What an operation looks at, and what it lays: slots, numbers; 'new': numbers that it makes. -/
structure Cert where
  rt : List (Nat × AVal)
  rl : List (Nat × Blk)
  wt : List (Nat × AVal)
  wl : Locs
  new : List Nat
def Cert.pre (c : Cert) (s : St) : Prop :=
  (∀ p ∈ c.rt, lk s.t p.1 = some p.2) ∧ (∀ p ∈ c.rl, lkl s.l p.1 = some p.2) ∧ ∀ k ∈ c.new, lk s.l k = none ∧ k ∉ s.ids
def Cert.upd (c : Cert) (s : St) : St := ⟨c.wt ++ s.t, c.wl ++ s.l⟩

/-- The operation does what the certificate says, from every state that it fits. -/
def OpOK (P : Program) (N : Nat) (o : Oper) (c : Cert) : Prop :=
  ∀ (K : List Nat) (g : Gh) (s : St) (a : Act) (w : World), c.pre s → Rep N g s a w →
    o.wp P a w (fun a' w' => ∃ g', Rep N g' (c.upd s) a' w' ∧ Step K g s.l w g' (c.upd s).l w') (fun _ _ _ => False)

theorem getD_put_self {a : Act} {d : Nat} {v : Value} (h : d < a.tmps.size) : (a.put (some d) v).tmps.getD d undef = v := by
  simp [Act.put, Array.getElem?_setIfInBounds_self_of_lt h]
theorem getD_put_ne {a : Act} {d k : Nat} {v : Value} (h : d ≠ k) : (a.put (some d) v).tmps.getD k undef = a.tmps.getD k undef := by
  simp [Act.put, Array.getElem?_setIfInBounds_ne h]

/-- The state behind an operation. -/
theorem Rep.next {N : Nat} {g g' : Gh} {s : St} {l' : Locs} {a : Act} {w w' : World} {d : Nat} {v : Value} {x : AVal} (r : Rep N g s a w) (hd : d < N)
    (hi : ∀ b, g.I b → w'.heap[b]? = w.heap[b]?) (hm : ∀ b, g.I b → g'.I b) (hs : w.heap.size ≤ w'.heap.size) (hok : ∀ k, k ∈ s.ids → okK g s.l g' l' k) (hv : VR g' l' w' v x) (m : MemR g' l' w') :
    Rep N g' ⟨(d, x) :: s.t, l'⟩ (a.put (some d) v) w' := by
  refine ⟨by simp [Act.put, r.size], by simp [Act.put, r.defers], fun k y hk => ?_, m⟩
  by_cases e : d = k
  · subst e
    rw [lk_cons_self] at hk; cases hk
    rw [getD_put_self (by rw [r.size]; exact hd)]; exact hv
  · rw [lk_cons_ne e] at hk
    rw [getD_put_ne e]
    exact (r.tmp k y hk).step hi hm hs fun i hi => hok i (List.mem_append_left _ (List.mem_flatMap.2 ⟨_, lk_mem hk, hi⟩))
/-- .. where nothing is written into a slot. -/
theorem Rep.next0 {N : Nat} {g g' : Gh} {s : St} {l' : Locs} {a : Act} {w w' : World} (r : Rep N g s a w)
    (hi : ∀ b, g.I b → w'.heap[b]? = w.heap[b]?) (hm : ∀ b, g.I b → g'.I b) (hs : w.heap.size ≤ w'.heap.size) (hok : ∀ k, k ∈ s.ids → okK g s.l g' l' k) (m : MemR g' l' w') : Rep N g' ⟨s.t, l'⟩ a w' :=
  ⟨r.size, r.defers, fun k y hk => (r.tmp k y hk).step hi hm hs fun i hi => hok i (List.mem_append_left _ (List.mem_flatMap.2 ⟨_, lk_mem hk, hi⟩)), m⟩
theorem Rep.put {N : Nat} {g : Gh} {s : St} {a : Act} {w : World} {d : Nat} {v : Value} {x : AVal} (r : Rep N g s a w) (hd : d < N) (hv : VR g s.l w v x) : Rep N g ⟨(d, x) :: s.t, s.l⟩ (a.put (some d) v) w :=
  r.next hd (fun _ _ => rfl) (fun _ h => h) (Nat.le_refl _) (fun k _ => okK.same rfl rfl rfl) hv r.mem

/-! ### Operands -/
def plainB : Value → Bool
  | .int k n => (Lit.int k n).wf
  | .string s => Nat.ble s.size maxLen
  | .bool _ => true
  | .slice none 0 0 => true
  | _ => false
theorem wf_of_plain {v : Value} (h : plainB v = true) : wfV v := by
  unfold plainB at h
  split at h
  · exact h
  · exact Nat.le_of_ble_eq_true h
  · trivial
  · trivial
  · cases h
def plainL : List Value → Option (List Cell)
  | [] => some []
  | v :: vs => match plainB v, plainL vs with | true, some cs => some (.c v :: cs) | _, _ => none
def cval : Value → Option AVal
  | .agg vs => match plainL vs.toList with | some cs => some (.agg cs) | none => none
  | v => match plainB v with | true => some (.one (.c v)) | false => none
theorem plainL_ok {g : Gh} {l : Locs} {w : World} : ∀ {vs : List Value} {cs : List Cell}, plainL vs = some cs → All2 (CellR g l w) vs cs
  | [], cs, h => by cases h; trivial
  | v :: vs, cs, h => by
    simp only [plainL] at h
    split at h
    · rename_i hb hc; cases h; exact ⟨⟨rfl, wf_of_plain hb⟩, plainL_ok hc⟩
    · cases h
theorem cval_ok {g : Gh} {l : Locs} {w : World} {v : Value} {x : AVal} (h : cval v = some x) : VR g l w v x := by
  unfold cval at h
  split at h
  · rename_i vs
    split at h
    · rename_i cs hc; cases h; exact ⟨vs.toList, by simp, plainL_ok hc⟩
    · cases h
  · split at h
    · rename_i hb; cases h; exact ⟨rfl, wf_of_plain hb⟩
    · cases h
def evo (t : Tmps) : Operand → Option AVal
  | .tmp k => lk t k
  | .const v => cval v
  | .func f => some (.one (.clo f []))
  | .global _ => none
def rdo (o : Operand) (x : AVal) : List (Nat × AVal) := match o with | .tmp k => [(k, x)] | _ => []
def Evs (o : Operand) (x : AVal) : Prop := match o with | .tmp _ => True | o => evo [] o = some x
theorem evs_of {t : Tmps} {o : Operand} {x : AVal} (h : evo t o = some x) : Evs o x := by
  cases o <;> first | exact h | trivial
theorem rdo_of {t : Tmps} {o : Operand} {x : AVal} (h : evo t o = some x) : ∀ p ∈ rdo o x, lk t p.1 = some p.2 := by
  cases o <;> intro p hp <;> simp [rdo] at hp
  subst hp; exact h
theorem eval_ok {N : Nat} {g : Gh} {s : St} {a : Act} {w : World} {o : Operand} {x : AVal} (r : Rep N g s a w) (h : Evs o x) (hr : ∀ p ∈ rdo o x, lk s.t p.1 = some p.2) : VR g s.l w (a.eval o) x := by
  cases o with
  | tmp k => exact r.tmp k x (hr (k, x) (by simp [rdo]))
  | const v => exact cval_ok h
  | global n => cases h
  | func f => cases h; intro _; rfl

/-- An operation that reads slots and leaves the world alone. -/
theorem OpOK.pure {P : Program} {N : Nat} {o : Oper} {d : Nat} {rt : List (Nat × AVal)} {rl : List (Nat × Blk)} {x : AVal} (hd : o.dst = some d) (hN : d < N)
    (h : ∀ (g : Gh) (s : St) (a : Act) (w : World), (∀ p ∈ rt, lk s.t p.1 = some p.2) → (∀ p ∈ rl, lkl s.l p.1 = some p.2) → Rep N g s a w → ∃ v, (execOp a.eval o).run P w = .ok (.value v) w ∧ VR g s.l w v x) : OpOK P N o ⟨rt, rl, [(d, x)], [], []⟩ := by
  intro K g s a w hp r
  obtain ⟨v, h1, h2⟩ := h g s a w hp.1 hp.2.1 r
  unfold Oper.wp
  rw [h1, Oper.upon_value, hd]
  exact ⟨g, r.put hN h2, Step.refl K g s.l w⟩

/-- One operation from the state s: the state behind it, its certificate. -/
def Stp (P : Program) (N : Nat) (o : Oper) (s s' : St) (c : Cert) : Prop := OpOK P N o c ∧ c.pre s ∧ c.upd s = s'

end Go.Proofs.Ytcgickpnckedcaa
