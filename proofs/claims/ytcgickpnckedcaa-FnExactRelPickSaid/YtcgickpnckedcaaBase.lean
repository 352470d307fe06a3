/- Words for data in memory, over any program: an encoding tells how a datum lies in cells, and which blocks it lies in. -/
import Derived.WalkKit
import Derived.ProofKit
import Derived.OpenShut
import Derived.Deep.Slices
import Derived.WalkSpells
import Derived.WalkLawsBesides
import Derived.Lib.Hide
namespace Go.Proofs.Ytcgickpnckedcaa
open Go.RowKit Go.ChangeShapes Go.WideShapes Go.Deep

structure Enc (α : Type) where
  size : Nat
  rep : World → List Value → α → List Nat → Prop
  len : ∀ {w cs a bs}, rep w cs a bs → cs.length = size
  keep : ∀ {w w' cs a bs}, rep w cs a bs → (∀ b ∈ bs, w'.heap[b]? = w.heap[b]?) → w.heap.size ≤ w'.heap.size → rep w' cs a bs
  lt : ∀ {w cs a bs}, rep w cs a bs → ∀ b ∈ bs, b < w.heap.size

section
variable {α β : Type} {w w' : World} {cs : List Value} {bs : List Nat}

theorem Enc.below {e : Enc α} {a : α} {B : Nat} (h : e.rep w cs a bs) (hb : Below B w w') (hB : ∀ b ∈ bs, b < B) : e.rep w' cs a bs :=
  e.keep h (fun b hbm => hb.block b (hB b hbm)) hb.size
theorem Enc.up {e : Enc α} {a : α} (h : e.rep w cs a bs) (hb : Below w.heap.size w w') : e.rep w' cs a bs :=
  Enc.below h hb (e.lt h)

/-- The blocks are different ones, made since block lo, and none of their cells is frozen. -/
def Fresh (lo : Nat) (w : World) (bs : List Nat) : Prop := bs.Nodup ∧ ∀ b ∈ bs, lo ≤ b ∧ ∃ c t, w.heap[b]? = some (.cells c t (0, 0))

theorem Fresh.nil {lo : Nat} : Fresh lo w [] := ⟨List.nodup_nil, fun b h => by cases h⟩
theorem Fresh.lt {lo : Nat} (h : Fresh lo w bs) : ∀ b ∈ bs, b < w.heap.size := by
  intro b hb
  obtain ⟨_, c, t, hc⟩ := h.2 b hb
  exact (Array.getElem?_eq_some_iff.1 hc).1
theorem Fresh.below {lo B : Nat} (h : Fresh lo w bs) (hb : Below B w w') (hB : ∀ b ∈ bs, b < B) : Fresh lo w' bs :=
  ⟨h.1, fun b hm => by
    obtain ⟨h1, c, t, hc⟩ := h.2 b hm
    exact ⟨h1, c, t, (hb.block b (hB b hm)).trans hc⟩⟩
theorem Fresh.up {lo : Nat} (h : Fresh lo w bs) (hb : Below w.heap.size w w') : Fresh lo w' bs := h.below hb h.lt
theorem Fresh.mono {lo lo' : Nat} (h : Fresh lo w bs) (hl : lo' ≤ lo) : Fresh lo' w bs :=
  ⟨h.1, fun b hm => ⟨Nat.le_trans hl (h.2 b hm).1, (h.2 b hm).2⟩⟩
theorem Fresh.app {lo : Nat} {bs' : List Nat} (h : Fresh lo w bs) (h' : Fresh lo w bs') (hd : ∀ b ∈ bs, b ∉ bs') : Fresh lo w (bs ++ bs') :=
  ⟨List.nodup_append.2 ⟨h.1, h'.1, fun a ha b hb e => hd a ha (e ▸ hb)⟩, fun b hm => by
    rcases List.mem_append.1 hm with hm | hm
    · exact h.2 b hm
    · exact h'.2 b hm⟩

def intE (k : IntKind) : Enc Int where
  size := 1
  rep := fun _ cs n bs => cs = [.int k n] ∧ (Lit.int k n).wf = true ∧ bs = []
  len := by rintro w cs a bs ⟨rfl, _⟩; rfl
  keep := fun h _ _ => h
  lt := by rintro w cs a bs ⟨_, _, rfl⟩ b hb; cases hb
def boolE : Enc Bool where
  size := 1
  rep := fun _ cs n bs => cs = [.bool n] ∧ bs = []
  len := by rintro w cs a bs ⟨rfl, _⟩; rfl
  keep := fun h _ _ => h
  lt := by rintro w cs a bs ⟨_, rfl⟩ b hb; cases hb
def strE : Enc ByteArray where
  size := 1
  rep := fun _ cs s bs => cs = [.string s] ∧ s.size ≤ maxLen ∧ bs = []
  len := by rintro w cs a bs ⟨rfl, _⟩; rfl
  keep := fun h _ _ => h
  lt := by rintro w cs a bs ⟨_, _, rfl⟩ b hb; cases hb
def unitE : Enc Unit where
  size := 0
  rep := fun _ cs _ bs => cs = [] ∧ bs = []
  len := by rintro w cs a bs ⟨rfl, _⟩; rfl
  keep := fun h _ _ => h
  lt := by rintro w cs a bs ⟨_, rfl⟩ b hb; cases hb
def pairE (e : Enc α) (f : Enc β) : Enc (α × β) where
  size := e.size + f.size
  rep := fun w cs x bs => ∃ c1 c2 b1 b2, cs = c1 ++ c2 ∧ bs = b1 ++ b2 ∧ e.rep w c1 x.1 b1 ∧ f.rep w c2 x.2 b2
  len := by rintro w cs a bs ⟨c1, c2, b1, b2, rfl, rfl, h1, h2⟩; simp [e.len h1, f.len h2]
  keep := by
    rintro w w' cs a bs ⟨c1, c2, b1, b2, rfl, rfl, h1, h2⟩ hk hs
    exact ⟨c1, c2, b1, b2, rfl, rfl, e.keep h1 (fun b hb => hk b (List.mem_append_left _ hb)) hs, f.keep h2 (fun b hb => hk b (List.mem_append_right _ hb)) hs⟩
  lt := by
    rintro w cs a bs ⟨c1, c2, b1, b2, rfl, rfl, h1, h2⟩ b hb
    rcases List.mem_append.1 hb with hb | hb
    · exact e.lt h1 b hb
    · exact f.lt h2 b hb
/-- The same cells, the datum under another name. -/
def isoE (e : Enc α) (f : β → α) : Enc β where
  size := e.size
  rep := fun w cs x bs => e.rep w cs (f x) bs
  len := fun h => e.len h
  keep := fun h => e.keep h
  lt := fun h => e.lt h

def Elems (e : Enc α) (w : World) (g off : Nat) (xs : List α) (bss : List (List Nat)) : Prop :=
  bss.length = xs.length ∧ ∀ i x b, xs[i]? = some x → bss[i]? = some b → ∃ cs, e.rep w cs x b ∧ ∀ j u, cs[j]? = some u → w.cell? ⟨g, off + i * e.size + j, none⟩ = some u

theorem Elems.keep {e : Enc α} {g off : Nat} {xs : List α} {bss : List (List Nat)} (h : Elems e w g off xs bss) (hg : w'.heap[g]? = w.heap[g]?)
    (hk : ∀ b ∈ bss.flatten, w'.heap[b]? = w.heap[b]?) (hs : w.heap.size ≤ w'.heap.size) : Elems e w' g off xs bss := by
  refine ⟨h.1, fun i x b hx hb => ?_⟩
  obtain ⟨cs, h1, h2⟩ := h.2 i x b hx hb
  exact ⟨cs, e.keep h1 (fun c hc => hk c (List.mem_flatten.2 ⟨b, List.mem_of_getElem? hb, hc⟩)) hs, fun j u hu => (World.cell?_of_block (w := w) hg).trans (h2 j u hu)⟩

def SliceRep (e : Enc α) (w : World) (a : Option Addr) (n cap : Nat) (xs : List α) (bs : List Nat) : Prop :=
  n = xs.length ∧ n ≤ cap ∧ cap ≤ maxLen ∧ (a = none → cap = 0) ∧ ((xs = [] ∧ bs = []) ∨ ∃ g off bss, xs ≠ [] ∧ a = some ⟨g, off, none⟩ ∧ g < w.heap.size ∧ bs = g :: bss.flatten ∧ Elems e w g off xs bss)

def sliceE (e : Enc α) : Enc (List α) where
  size := 1
  rep := fun w cs xs bs => ∃ a n cap, cs = [.slice a n cap] ∧ SliceRep e w a n cap xs bs
  len := by rintro w cs a bs ⟨a, n, cap, rfl, _⟩; rfl
  keep := by
    rintro w w' cs xs bs ⟨a, n, cap, rfl, h1, h2, h3, h4, h5⟩ hk hs
    refine ⟨a, n, cap, rfl, h1, h2, h3, h4, ?_⟩
    rcases h5 with h5 | ⟨g, off, bss, hne, ha, hg, rfl, hE⟩
    · exact .inl h5
    · exact .inr ⟨g, off, bss, hne, ha, by omega, rfl, hE.keep (hk g (List.mem_cons_self ..)) (fun b hb => hk b (List.mem_cons_of_mem _ hb)) hs⟩
  lt := by
    rintro w cs xs bs ⟨a, n, cap, rfl, h1, h2, h3, h4, h5⟩ b hb
    rcases h5 with ⟨_, rfl⟩ | ⟨g, off, bss, hne, ha, hg, rfl, hE⟩
    · cases hb
    · rcases List.mem_cons.1 hb with rfl | hb
      · exact hg
      · obtain ⟨l, hl, hbl⟩ := List.mem_flatten.1 hb
        obtain ⟨i, hi, rfl⟩ := List.getElem_of_mem hl
        have hi' : i < xs.length := by rw [← hE.1]; exact hi
        obtain ⟨cs, h6, _⟩ := hE.2 i xs[i] bss[i] (List.getElem?_eq_getElem hi') (List.getElem?_eq_getElem hi)
        exact e.lt h6 b hbl

theorem sliceE_iff {e : Enc α} {a : Option Addr} {n cap : Nat} {xs : List α} : (sliceE e).rep w [.slice a n cap] xs bs ↔ SliceRep e w a n cap xs bs := by
  constructor
  · rintro ⟨a', n', cap', h, h2⟩
    simp only [List.cons.injEq, Value.slice.injEq, and_true] at h
    obtain ⟨rfl, rfl, rfl⟩ := h
    exact h2
  · exact fun h => ⟨_, _, _, rfl, h⟩
theorem sliceE_cases {e : Enc α} {xs : List α} (h : (sliceE e).rep w cs xs bs) : ∃ a cap, cs = [.slice a xs.length cap] ∧ SliceRep e w a xs.length cap xs bs := by
  obtain ⟨a, n, cap, rfl, h2⟩ := h
  obtain rfl := h2.1
  exact ⟨a, cap, rfl, h2⟩

section
variable {e : Enc α} {a : Option Addr} {n cap : Nat} {xs : List α}
theorem SliceRep.keep (h : SliceRep e w a n cap xs bs) (hk : ∀ b ∈ bs, w'.heap[b]? = w.heap[b]?) (hs : w.heap.size ≤ w'.heap.size) : SliceRep e w' a n cap xs bs :=
  sliceE_iff.1 ((sliceE e).keep (sliceE_iff.2 h) hk hs)
theorem SliceRep.lt (h : SliceRep e w a n cap xs bs) : ∀ b ∈ bs, b < w.heap.size := (sliceE e).lt (sliceE_iff.2 h)
theorem SliceRep.up (h : SliceRep e w a n cap xs bs) (hb : Below w.heap.size w w') : SliceRep e w' a n cap xs bs :=
  h.keep (fun b hbm => hb.block b (h.lt b hbm)) hb.size
theorem SliceRep.max (h : SliceRep e w a n cap xs bs) : xs.length ≤ 9223372036854775807 := by
  have h1 := h.1
  have h2 := h.2.1
  have h3 := h.2.2.1
  unfold maxLen at h3
  omega
/-- Element i. -/
theorem SliceRep.get (h : SliceRep e w a n cap xs bs) {i : Nat} (hi : i < xs.length) :
    ∃ g off cs b, a = some ⟨g, off, none⟩ ∧ e.rep w cs xs[i] b ∧ (∀ j u, cs[j]? = some u → w.cell? ⟨g, off + i * e.size + j, none⟩ = some u) ∧ (∀ c ∈ b, c ∈ bs) ∧ g ∈ bs := by
  obtain ⟨_, _, _, _, h5⟩ := h
  rcases h5 with ⟨rfl, _⟩ | ⟨g, off, bss, hne, ha, hg, rfl, hE⟩
  · simp at hi
  · have hi' : i < bss.length := by rw [hE.1]; exact hi
    obtain ⟨cs, h6, h7⟩ := hE.2 i xs[i] bss[i] (List.getElem?_eq_getElem hi) (List.getElem?_eq_getElem hi')
    exact ⟨g, off, cs, bss[i], ha, h6, h7, fun c hc => List.mem_cons_of_mem _ (List.mem_flatten.2 ⟨_, List.getElem_mem hi', hc⟩), List.mem_cons_self ..⟩
end
end

/-! ### Reading an argument -/
/-- What reads as data at type t lies as a datum of e. -/
def Opens (P : Program) {α : Type} (e : Enc α) (t : TypeId) : Prop :=
  ∀ {H : Type} {enc : TypeId × Value → H} {w : World} {base : Nat} {spare : Nat → Bool} {held : Bool} {fuel : Nat} {cs : List Value} {x : DataW H × List MemPlace},
    DataW.trod enc P w base spare held fuel t cs = some x → ∃ a bs, e.rep w cs a bs

theorem opens_int {P : Program} {t : TypeId} {k : IntKind} (ht : P.underlying t = some (.int k)) : Opens P (intE k) t := by
  intro H enc w base spare held fuel cs x h
  obtain ⟨n, rfl, rfl, hn⟩ := DataW.trod_int ht h
  exact ⟨n, [], rfl, hn, rfl⟩
theorem opens_string {P : Program} {t : TypeId} (ht : P.underlying t = some .string) : Opens P strE t := by
  intro H enc w base spare held fuel cs x h
  obtain ⟨s, rfl, rfl, hs⟩ := DataW.trod_string ht h
  exact ⟨s, [], rfl, hs, rfl⟩
theorem opens_iso {P : Program} {t : TypeId} {α β : Type} {e : Enc α} {f : β → α} (g : α → β) (hfg : ∀ x, f (g x) = x) (h : Opens P e t) : Opens P (isoE e f) t := by
  intro H enc w base spare held fuel cs x hx
  obtain ⟨a, bs, hr⟩ := h hx
  exact ⟨g a, bs, by show e.rep w cs (f (g a)) bs; rw [hfg]; exact hr⟩

theorem cells_lt {w : World} {base : Nat} {a : Addr} {n : Nat} {cs : List Value} (h : w.cells? base a n = some cs) (hn : 0 < n) : a.spot = none ∧ a.block < w.heap.size := by
  obtain ⟨_, hl, hc⟩ := World.cells?_some h
  have h0 := hc 0 hn
  have : cs[0]? = some (cs[0]'(by omega)) := List.getElem?_eq_getElem (by omega)
  rw [this] at h0
  refine ⟨World.cell?_spot (by simpa [Addr.add] using h0), ?_⟩
  have h1 : w.cell? a = some (cs[0]'(by omega)) := by simpa [Addr.add] using h0
  unfold World.cell? at h1
  rcases Nat.lt_or_ge a.block w.heap.size with hlt | hge
  · exact hlt
  · rw [Array.getElem?_eq_none hge] at h1; cases h1

theorem opens_slice {P : Program} {t el : TypeId} {α : Type} {e : Enc α} (ht : P.underlying t = some (.slice el)) (hc : P.cellsOf el = e.size) (hpos : 0 < e.size) (h : Opens P e el) : Opens P (sliceE e) t := by
  intro H enc w base spare held fuel cs x hx
  rcases Go.Deep.open_slice ht hx with ⟨rfl, _⟩ | ⟨a, len, cap, m, n, D, Pl, rfl, _, hl, hm, hmm, _, hi⟩
  · exact ⟨[], [], none, 0, 0, rfl, rfl, Nat.le_refl _, by unfold maxLen; omega, fun _ => rfl, .inl ⟨rfl, rfl⟩⟩
  · have hlm : len ≤ m := by rw [hmm]; split <;> omega
    have hel : ∀ i : Fin len, ∃ y : α × List Nat × List Value, e.rep w y.2.2 y.1 y.2.1 ∧ (∀ j u, y.2.2[j]? = some u → w.cell? ((a.add (i.1 * e.size)).add j) = some u) ∧ (a.add (i.1 * e.size)).spot = none ∧ (a.add (i.1 * e.size)).block < w.heap.size := by
      intro i
      obtain ⟨cs', h1, h2⟩ := hi i.1 (by omega)
      rw [hc] at h1
      obtain ⟨y, bs, hr⟩ := h h2
      obtain ⟨hs, hb⟩ := cells_lt h1 hpos
      obtain ⟨_, hl, hcl⟩ := World.cells?_some h1
      exact ⟨(y, bs, cs'), hr, fun j u hu => by rw [hcl j (by have h8 : j < cs'.length := (List.getElem?_eq_some_iff.1 hu).1; omega)]; exact hu, hs, hb⟩
    have hF : ∃ F : Fin len → α × List Nat × List Value, ∀ i, e.rep w (F i).2.2 (F i).1 (F i).2.1 ∧ (∀ j u, (F i).2.2[j]? = some u → w.cell? ((a.add (i.1 * e.size)).add j) = some u) ∧ (a.add (i.1 * e.size)).spot = none ∧ (a.add (i.1 * e.size)).block < w.heap.size := ⟨fun i => Classical.choose (hel i), fun i => Classical.choose_spec (hel i)⟩
    obtain ⟨F, hF⟩ := hF
    rcases Nat.eq_zero_or_pos len with h0 | h0
    · subst h0
      exact ⟨[], [], some a, 0, cap, rfl, rfl, Nat.zero_le _, hm, (fun h => by cases h), .inl ⟨rfl, rfl⟩⟩
    · obtain ⟨_, _, hs, hb⟩ := hF ⟨0, h0⟩
      obtain ⟨g, off, spot⟩ := a
      have hs' : spot = none := by simpa [Addr.add] using hs
      subst hs'
      have hb' : g < w.heap.size := by simpa [Addr.add] using hb
      refine ⟨List.ofFn fun i => (F i).1, g :: (List.ofFn fun i => (F i).2.1).flatten, some ⟨g, off, none⟩, len, cap, rfl, by simp, hl, hm, (fun h => by cases h), .inr ⟨g, off, List.ofFn fun i => (F i).2.1, ?_, rfl, hb', rfl, by simp, ?_⟩⟩
      · intro h; have := congrArg List.length h; simp at this; omega
      · intro i x b hx hbb
        rw [List.getElem?_ofFn] at hx hbb
        split at hx
        · rename_i hil
          rw [dif_pos hil] at hbb
          simp only [Option.some.injEq] at hx hbb
          subst hx; subst hbb
          obtain ⟨h1, h2, _, _⟩ := hF ⟨i, hil⟩
          refine ⟨_, h1, fun j u hu => ?_⟩
          have := h2 j u hu
          have ha : ((Addr.add ⟨g, off, none⟩ (i * e.size)).add j) = (⟨g, off + i * e.size + j, none⟩ : Addr) := by
            unfold Addr.add; by_cases h3 : i * e.size = 0 <;> by_cases h4 : j = 0 <;> simp [h3, h4]
          rw [ha] at this
          exact this
        · cases hx

/-- The fields from cell 'off' on. -/
def OpensF (P : Program) {α : Type} (e : Enc α) (fs : List Field) (off : Nat) : Prop :=
  ∀ {H : Type} {enc : TypeId × Value → H} {w : World} {base : Nat} {spare : Nat → Bool} {held : Bool} {fuel : Nat} {cs : List Value} (ys : List (DataW H × List MemPlace)), ys.length = fs.length → cs.length = off + e.size →
    (∀ (j : Nat) (f : Field), fs[j]? = some f → DataW.trod enc P w base spare held fuel f.type ((cs.drop f.offset).take (P.cellsOf f.type)) = ys[j]?) → ∃ a bs, e.rep w (cs.drop off) a bs

theorem opensF_nil {P : Program} {off : Nat} : OpensF P unitE [] off := by
  intro H enc w base spare held fuel cs ys _ hl _
  exact ⟨(), [], by have : cs.length = off := hl; simp [← this], rfl⟩
theorem opensF_cons {P : Program} {α β : Type} {e : Enc α} {r : Enc β} {f : Field} {fs : List Field} {off : Nat} (ho : f.offset = off) (hc : P.cellsOf f.type = e.size) (h : Opens P e f.type) (hr : OpensF P r fs (off + e.size)) :
    OpensF P (pairE e r) (f :: fs) off := by
  intro H enc w base spare held fuel cs ys hy hl hf
  match ys, hy with
  | y :: ys, hy =>
    have h0 := hf 0 f rfl
    rw [ho, hc] at h0
    obtain ⟨a, b1, h1⟩ := h h0
    obtain ⟨b, b2, h2⟩ := hr (cs := cs) ys (by simpa using hy) (by rw [hl]; simp [pairE]; omega) (fun j f' hj => by simpa using hf (j + 1) f' (by simpa using hj))
    exact ⟨(a, b), b1 ++ b2, (cs.drop off).take e.size, cs.drop (off + e.size), b1, b2, by rw [← List.drop_drop, List.take_append_drop], rfl, h1, h2⟩
theorem opens_struct {P : Program} {t : TypeId} {fs : Array Field} {α : Type} {e : Enc α} (ht : P.underlying t = some (.struct fs)) (hc : P.cellsOf t = e.size) (h : OpensF P e fs.toList 0) : Opens P e t := by
  intro H enc w base spare held fuel cs x hx
  obtain ⟨ys, n, _, _, hl, hlen, hg⟩ := DataW.trod_struct ht hx
  obtain ⟨a, bs, hr⟩ := h (cs := cs) ys (by simpa using hlen) (by omega) (fun j f hj => hg j f (by simpa using hj))
  exact ⟨a, bs, by simpa using hr⟩

/-- What a callee's 'Below' says of cells, as rules for the walk. -/
theorem bcell {W w1 : World} {B : Nat} (hb : Below B W w1) : (∀ b o, b < B → w1.cell? ⟨b, o, none⟩ = W.cell? ⟨b, o, none⟩) ∧ (∀ b o, b < B → w1.frozen? ⟨b, o, none⟩ = W.frozen? ⟨b, o, none⟩) :=
  ⟨fun b o h => hb.cell (p := ⟨b, o, none⟩) h, fun b o h => hb.frozen (p := ⟨b, o, none⟩) h⟩
theorem below_drewN {B : Nat} {a w : World} (h : Below B a w) (n : Nat) : Below B a (w.drewN n) := ⟨h.os, h.tape, h.output, h.size, h.block⟩
/-- Block g holds the cells cs. -/
structure Box (w : World) (g : Nat) (cs : Array Value) : Prop where
  cell : ∀ o, w.cell? ⟨g, o, none⟩ = cs[o]?
  free : ∀ o, w.frozen? ⟨g, o, none⟩ = false
  lt : g < w.heap.size
theorem Box.new (w : World) (cs : Array Value) (t : TypeId) : Box (w.alloc (.cells cs t)) w.heap.size cs := by
  have h : (w.alloc (.cells cs t)).heap[w.heap.size]? = some (.cells cs t (0, 0)) := heap_alloc_new w _
  refine ⟨fun o => ?_, fun o => ?_, by simp⟩
  · show (match (w.alloc (.cells cs t)).heap[w.heap.size]? with | some (.cells c _ _) => if (none : Option Nat).isSome then none else c[o]? | _ => none) = _
    rw [h]; rfl
  · show (match (w.alloc (.cells cs t)).heap[w.heap.size]? with | some (.cells _ _ (lo, hi)) => decide (lo ≤ o) && decide (o < hi) | _ => false) = _
    rw [h]; simp
theorem Box.below {w w' : World} {g B : Nat} {cs : Array Value} (h : Box w g cs) (hb : Below B w w') (hg : g < B) : Box w' g cs :=
  ⟨fun o => (hb.cell (p := ⟨g, o, none⟩) hg).trans (h.cell o), fun o => (hb.frozen (p := ⟨g, o, none⟩) hg).trans (h.free o), Nat.lt_of_lt_of_le h.lt hb.size⟩
theorem Box.up {w w' : World} {g : Nat} {cs : Array Value} (h : Box w g cs) (hb : Below w.heap.size w w') : Box w' g cs := h.below hb h.lt
theorem Box.alloc {w : World} {g : Nat} {cs : Array Value} (h : Box w g cs) (o : Obj) : Box (w.alloc o) g cs := h.up ((Below.refl _ _).alloc (Nat.le_refl _) o)
theorem below_up {B : Nat} {a w w' : World} (h : Below B a w) (hb : Below w.heap.size w w') (hB : B ≤ a.heap.size) : Below B a w' :=
  h.trans (hb.mono (Nat.le_trans hB h.size))
/-- What a walk that began in world w keeps: nothing old has turned, and each of its own boxes holds its cells. -/
structure Held (w : World) (L : List (Nat × Array Value)) (W : World) : Prop where
  below : Below w.heap.size w W
  box : ∀ p ∈ L, Box W p.1 p.2
theorem Held.start (w : World) : Held w [] w := ⟨Below.refl _ _, fun p hp => by cases hp⟩
theorem Held.box_ {w W : World} {L : List (Nat × Array Value)} (h : Held w L W) (cs : Array Value) (t : TypeId) : Held w (L ++ [(W.heap.size, cs)]) (W.alloc (.cells cs t)) :=
  ⟨h.below.alloc h.below.size _, fun p hp => by
    rcases List.mem_append.1 hp with hp | hp
    · exact (h.box p hp).alloc _
    · simp only [List.mem_singleton] at hp
      subst hp
      exact Box.new W cs t⟩
theorem Held.up {w W w' : World} {L : List (Nat × Array Value)} (hb : Below W.heap.size W w') (h : Held w L W) : Held w L w' :=
  ⟨below_up h.below hb (Nat.le_refl _), fun p hp => (h.box p hp).up hb⟩
theorem Held.alloc {w W : World} {L : List (Nat × Array Value)} (h : Held w L W) (o : Obj) : Held w L (W.alloc o) := h.up ((Below.refl _ _).alloc (Nat.le_refl _) o)
theorem Held.drop {w W : World} {L : List (Nat × Array Value)} (h : Held w L W) : Held w [] W := ⟨h.below, fun p hp => by cases hp⟩
theorem Held.drew {w W : World} {L : List (Nat × Array Value)} (h : Held w L W) : Held w L W.drew :=
  ⟨h.below.drew, fun p hp => ⟨(h.box p hp).cell, (h.box p hp).free, (h.box p hp).lt⟩⟩
theorem Held.s1 {w W : World} {g : Nat} {A : Array Value} (h : Held w [(g, A)] W) : Held w [(g, A)] W ∧ ∀ o, W.cell? ⟨g, o, none⟩ = A[o]? :=
  ⟨h, fun o => (h.box (g, A) (by simp)).cell o⟩
theorem Held.s2 {w W : World} {g g' : Nat} {A A' : Array Value} (h : Held w [(g, A), (g', A')] W) : Held w [(g, A), (g', A')] W ∧ (∀ o, W.cell? ⟨g, o, none⟩ = A[o]?) ∧ ∀ o, W.cell? ⟨g', o, none⟩ = A'[o]? :=
  ⟨h, fun o => (h.box (g, A) (by simp)).cell o, fun o => (h.box (g', A') (by simp)).cell o⟩
theorem Held.s3 {w W : World} {g g' g'' : Nat} {A A' A'' : Array Value} (h : Held w [(g, A), (g', A'), (g'', A'')] W) : Held w [(g, A), (g', A'), (g'', A'')] W ∧ (∀ o, W.cell? ⟨g, o, none⟩ = A[o]?) ∧ (∀ o, W.cell? ⟨g', o, none⟩ = A'[o]?) ∧ ∀ o, W.cell? ⟨g'', o, none⟩ = A''[o]? :=
  ⟨h, fun o => (h.box (g, A) (by simp)).cell o, fun o => (h.box (g', A') (by simp)).cell o, fun o => (h.box (g'', A'') (by simp)).cell o⟩
theorem ret_int {k : IntKind} {a b : Int} (h : a = b) : Ending.returned (.int k a) = .returned (.int k b) := by rw [h]
theorem ret_bool {a b : Bool} (h : a = b) : Ending.returned (.bool a) = .returned (.bool b) := by rw [h]
theorem ret_str {a b : ByteArray} (h : a = b) : Ending.returned (.string a) = .returned (.string b) := by rw [h]
end Go.Proofs.Ytcgickpnckedcaa
